/-
  Texts that belong together,in one file: E4,G1,B1,F7,P1,P2,F10,N2,B2,B4,B6,P10.
-/
import Derived.Test.YthnjfeielmbfkaaGreatDoorSy19
import Derived.RegionTactic
import Derived.ChangeAlike
set_option linter.unusedSimpArgs false
set_option linter.unusedVariables false
namespace Go.Proofs.YthnjfeielmbfkaaGreatDoor
open Go.RowKit Go.Extern.Stop Go.Stop Go.Extern
open Go.Av
theorem ta_E (v:Value) (xT:TypeId) (w:World):(Instr.typeAssert (.iface 62 v) xT 194 true).run Tryz.prog w = .ok (.tuple #[.pointer none,.bool false]) w:=by kernel_rfl
theorem ta_A (v:Value) (xT:TypeId) (w:World):(Instr.typeAssert (.iface 194 v) xT 194 true).run Tryz.prog w = .ok (.tuple #[v,.bool true]) w:=by kernel_rfl
theorem ta_noUnwrap (v:Value) (xT:TypeId) (w:World):(Instr.typeAssert (.iface 62 v) xT 219 true).run Tryz.prog w = .ok (.tuple #[.nilIface,.bool false]) w:=run_typeAssert_lacksB Tryz.underlying219 (by kernel_rfl) (by kernel_rfl) v xT w
set_option maxHeartbeats 1000000 in
theorem place_nil (w:World):Calls Tryz.prog 68 #[.nilIface] w fun e w'=>e = .returned (.tuple #[.int .i64 0,.int .i64 (-1)])∧Grew w w':=by
 go_enter Tryz.func68,Tryz.ntmps68
 go_wp2_with (go_at_call 126;refine (tell_nil _).mono ?_;rintro e w' ⟨rfl,rfl⟩)
 refine wp_loop_rounds 1 ?_;rw [rounds_succ]
 go_wp2
 go_ret2
 exact ⟨rfl,Grew.refl _⟩
set_option maxHeartbeats 1000000 in
theorem place_errno (n:Int) (w:World) (hg:w.cell? ⟨4,0,none⟩=some errType):Calls Tryz.prog 68 #[.iface 62 (.int .i64 n)] w fun e w'=>e = .returned (.tuple #[.int .i64 n,.int .i64 (-1)])∧Grew w w':=by
 have t1:=ta_E
 have t2:=ta_noUnwrap
 go_enter Tryz.func68,Tryz.ntmps68
 go_wp2_with (go_at_call 126;refine (tell_errno n _ hg).mono ?_;rintro e w' ⟨rfl,hgr⟩)
 refine wp_loop_rounds 1 ?_;rw [rounds_succ]
 go_wp2
 go_ret2
 exact ⟨rfl,hgr⟩
set_option maxHeartbeats 1000000 in
theorem place_at (n s:Int) (b o:Nat) (w:World) (hg:w.cell? ⟨4,0,none⟩=some errType) (ha:w.cell? ⟨b,o,none⟩=some (.int .i64 n)) (hs:w.cell? ⟨b,o+1,none⟩=some (.int .i64 s)) :
  Calls Tryz.prog 68 #[.iface 194 (.pointer (some ⟨b,o,none⟩))] w fun e w'=>e = .returned (.tuple #[.int .i64 n,.int .i64 s])∧Grew w w':=by
 have t1:=ta_A
 go_enter Tryz.func68,Tryz.ntmps68
 go_wp2_with (go_at_call 126;refine (tell_at n _ _ hg ha).mono ?_;rintro e w' ⟨rfl,hgr⟩)
 have hs':w'.cell? ⟨b,o+1,none⟩=some (.int .i64 s):=by rw [World.cell?_of_block (w:=w) (hgr.same b (cell_lt hs))];exact hs
 refine wp_loop_rounds 1 ?_;rw [rounds_succ]
 go_wp2
 go_region
 all_goals (go_wp2;go_ret2;exact ⟨rfl,hgr.size,hgr.os,hgr.tape,hgr.output,hgr.same⟩)
theorem place_spec (G:Glob) (hG:HasErr G) (e:Option (Int×Option Nat)):PureC Tryz.prog G 68 [dErr e] (.tup [.v (.int .i64 (codeF e)),.v (.int .i64 (placeF e))]):=by
 refine PureC.of_calls (Fun.of Tryz.func68 rfl rfl) fun X w vs hsz hrd hgl=>?_
 have hg:=hG.cell hgl
 obtain ⟨v,rfl⟩:∃ v,vs = #[v]:=Array.size_eq_one_iff.1 hsz
 have hv:=hrd 0 v _ rfl rfl
 have two:∀ (w':World) (a b:Int),RD w' X (.tuple #[.int .i64 a,.int .i64 b]) (.tup [.v (.int .i64 a),.v (.int .i64 b)]):=fun w' a b=>.tup rfl fun j u c hu hc=>by
  match j,hu,hc with
  | 0,hu,hc=>simp at hu hc;subst hu hc;exact .v _
  | 1,hu,hc=>simp at hu hc;subst hu hc;exact .v _
  | j+2,hu,hc=>simp at hu
 match e,hv with
 | none,hv=>
  have:=hv.scalar
  subst this;exact (place_nil w).mono fun e w' ⟨he,hw⟩=>⟨_,he,hw,two _ _ _⟩
 | some (c,none),hv=>
  obtain ⟨u,rfl,hu⟩:=hv.ifc_inv
  have:=hu.scalar
  subst this;exact (place_errno c w hg).mono fun e w' ⟨he,hw⟩=>⟨_,he,hw,two _ _ _⟩
 | some (c,some s),hv=>
  obtain ⟨u,rfl,hu⟩:=hv.ifc_inv
  obtain ⟨b,off,f,rfl,_,_,hc,hr⟩:=hu.ip_inv
  have h1:=hc 0 (by simp)
  have h2:=(hr 0 _ rfl).scalar
  rw [h2] at h1
  have h3:=hc 1 (by simp)
  have h4:=(hr 1 _ rfl).scalar
  rw [h4] at h3;exact (place_at c s b off w hg h1 h3).mono fun e w' ⟨he,hw⟩=>⟨_,he,hw,two _ _ _⟩
end Go.Proofs.YthnjfeielmbfkaaGreatDoor
namespace Go.Proofs.YthnjfeielmbfkaaGreatDoor
open Go.Av
def dFault (e:Option (Int×Option Nat)):D:=.agg [dNum (codeF e),dNum (placeF e)]
def HasFine (G:Glob):Prop:=G 0=some (.ip [dNum 0,dNum (-1)])
theorem bare0_spec (G:Glob) (c:Int):PureC Tryz.prog G 66 [dNum c] (.agg [dNum c,dNum (-1)]):=by
 refine PureC.of_body (tyOf_good _) Tryz.func66 rfl rfl (rs:=[.cell 2 64]) Tryz.results66 (by simp [Tryz.ntmps66]) fun X=>?_;simp only [Tryz.ntmps66,List.map];refine rgq @dNum.eq_1 [0,2] [2] ?_;refine rgq @dNum.eq_1 [2] [2] ?_;refine AW_ret ?_;simp [D.le,D.le.go,takeMap,dNum]
theorem within_spec (G:Glob) (n lo hi:Int):PureC Tryz.prog G 65 [dNum n,dNum lo,dNum hi] (.v (.bool (decide (lo≤n) && decide (n≤hi)))):=by
 refine PureC.of_body (tyOf_good _) Tryz.func65 rfl rfl (rs:=[.tmp 6]) Tryz.results65 (by simp [Tryz.ntmps65]) fun X=>?_;simp only [Tryz.ntmps65,List.map];refine rgq @dNum.eq_1 [0,1,2] [] ?_
 by_cases h1:lo≤n
 ·have qf:=@h1
  refine rgqv [6] [] ?_;refine AW_ret ?_;simp [D.le,D.le.go,takeMap,h1]
 ·have qf:=@h1
  refine rgqv [6] [] ?_;refine AW_ret ?_;simp [D.le,D.le.go,takeMap,h1]
set_option maxHeartbeats 1000000 in
theorem lsameInts_spec (G:Glob) (k k':Option Bool) (l l':List Int) (h:l.length < 2^63):PureC Tryz.prog G 35 [dInts k l,dInts k' l'] (.v (.bool (l == l'))):=by
 refine PureC.of_body (tyOf_good _) Tryz.func35 rfl rfl (rs:=[.tmp 4]) Tryz.results35 (by simp [Tryz.ntmps35]) fun X=>?_;simp only [Tryz.ntmps35,List.map];refine rg0 [0,1] [] ?_;refine AW_then fun K1 hK1=>?_;refine rgq @dInts.eq_1 [0,1,10] [] ?_;refine AW_cond' (b:=l.length≠l'.length) (by simp [D.le,D.le.go,takeMap]) (fun hc=>?_) (fun hc=>?_)
 ·refine rg0 [4] [] ?_;refine AW_ret ?_;simp [D.le,D.le.go,takeMap]
  intro e;subst e;simp at hc
 ·refine AW_skip (hK1 _ ?_)
  have hl:l.length=l'.length:=by simpa using hc
  refine AW_then fun K2 hK2=>?_;refine rgq @dInts.eq_1 [0,1,5] [] ?_;refine AW_for (S:=Nat) (fun n=>n≤l.length∧l.take n=l'.take n) (fun n=>⟨lst [(0,.d (dInts k l)),(1,.d (dInts k' l')),(5,int n)],hlst []⟩) (fun n=>l.length - n) 0 ?_ (by simp) ?_
  ·refine Imp.to' (fun _ _=>trivial) (by simp [dInts]) (by simp [dInts])
  ·rintro n ⟨hn,ht⟩
   refine AW_then fun K3 hK3=>?_;refine rgq @dInts.eq_1 [0,1,5,14] [] ?_;refine AW_cond' (b:=n < l.length) (by simp [D.le,D.le.go,takeMap]) (fun hc=>?_) (fun hc=>?_)
   ·refine AW_skip (hK3 _ ?_);refine AW_then fun K4 hK4=>?_;refine AW_block ?_
    have hn':n < l'.length:=by omega
    have qf:=(Aq @dInts.eq_1 (Aq @hc @hn'))
    refine rdqv [0,1,5,25] [] ?_;refine AW_cond' (b:=¬ l[n]=l'[n]) (by simp [D.le,D.le.go,takeMap]) (fun hc=>?_) (fun hc=>?_)
    ·refine rg0 [4] [] ?_;refine AW_ret ?_;simp [D.le,D.le.go,takeMap]
     intro e;subst e;simp at hc
    ·refine AW_skip (hK4 _ ?_);refine AW_re (tyOf_good _) fun K' hK'=>?_;(repeat (refine sxn fun K2 hK2=>?_;simp;(repeat (refine ⟨by omega,?_⟩));refine hK2 _ ?_;clear hK2 K2));refine sxz (hK' _ ?_);clear hK' K';try simp only [thn,inb]
     have he:l[n]=l'[n]:=by simpa using hc
     refine Again.mk (n+1) ⟨by omega,take_step ht (by omega) hn' he⟩ (by omega) ?_;refine Imp.to' (fun _ _=>trivial) (by simp [dInts]) (by simp [dInts])
   ·refine AW_exit (hK2 _ ?_);refine rg0 [4] [] ?_;refine AW_ret ?_;simp [D.le,D.le.go,takeMap]
    have hnn:n=l.length:=by omega
    subst hnn;exact take_eq_all hl ht
theorem at_spec (G:Glob) (hG:HasErr G) (e e':Option (Int×Option Nat)):PureC Tryz.prog G 21 [dErr e,dFault e'] (.v (.bool (decide (codeF e=codeF e') && decide (placeF e=placeF e')))):=by
 have hp:=place_spec G hG e
 refine PureC.of_body (tyOf_good _) Tryz.func21 rfl rfl (rs:=[.tmp 4]) Tryz.results21 (by simp [Tryz.ntmps21]) fun X=>?_;simp only [Tryz.ntmps21,List.map];refine rgq @dFault.eq_1 [0,3] [3] ?_;refine rgc trivial hp [3,5,6] [3] ?_
 by_cases h1:codeF e=codeF e'
 ·have qf:=(Aq @dNum.eq_1 @h1)
  refine rgqv [4] [3] ?_;refine AW_ret ?_;simp [D.le,D.le.go,takeMap,h1]
  try exact fun _=>h1
 ·have qf:=(Aq @dNum.eq_1 @h1)
  refine rgqv [4] [3] ?_;refine AW_ret ?_;simp [D.le,D.le.go,takeMap,h1]
  try exact fun h=>absurd h h1
theorem at_same (G:Glob) (hG:HasErr G) (e:Option (Int×Option Nat)):PureC Tryz.prog G 21 [dErr e,dFault e] (.v (.bool true)):=by
 have:=at_spec G hG e e
 simpa using this
def errOf (c:Int):Option (Int×Option Nat):=if c=0 then none else some (c,none)
theorem errOf_code (c:Int):codeF (errOf c)=c:=by unfold errOf;split<;>simp_all [codeF]
theorem errOf_place (c:Int):placeF (errOf c) = -1:=by unfold errOf;split<;>simp [placeF]
theorem bare_spec (G:Glob) (hG:HasErr G) (c:Int):PureC Tryz.prog G 38 [dErr (errOf c),dNum c] (.v (.bool true)):=by
 have h:=at_same G hG (errOf c)
 rw [show dFault (errOf c) = .agg [dNum c,dNum (-1)] by rw [dFault,errOf_code,errOf_place]] at h;refine PureC.of_body (tyOf_good _) Tryz.func38 rfl rfl (rs:=[.tmp 4]) Tryz.results38 (by simp [Tryz.ntmps38]) fun X=>?_;simp only [Tryz.ntmps38,List.map];refine rg0 [0,1] [] ?_;refine rg [4] [] (fun _ _=>trivial) fun K' hK'=>?_;(repeat (refine sxn fun K2 hK2=>?_;simp [dNum];(repeat (refine ⟨by omega,?_⟩));refine hK2 _ ?_;clear hK2 K2));refine sxn fun K2 hK2=>?_;simp [dNum];refine callK.data (bare0_spec G c) (by simp;rfl) (by first | exact D.leGo_refl _ | simp [takeMap,List.map_map,Function.comp_def,D.le,D.le.go,D.le_refl,D.leGo_refl,dNum]) ?_;refine hK2 _ ?_;clear hK2 K2;simp only [putd,upd_lst];(repeat (refine sxn fun K2 hK2=>?_;simp [dNum];(repeat (refine ⟨by omega,?_⟩));refine hK2 _ ?_;clear hK2 K2));refine sxn fun K2 hK2=>?_;simp [dNum];refine callK.data (h) (by simp;rfl) (by first | exact D.leGo_refl _ | simp [takeMap,List.map_map,Function.comp_def,D.le,D.le.go,D.le_refl,D.leGo_refl,dNum]) ?_;refine hK2 _ ?_;clear hK2 K2;simp only [putd,upd_lst];(repeat (refine sxn fun K2 hK2=>?_;simp [dNum];(repeat (refine ⟨by omega,?_⟩));refine hK2 _ ?_;clear hK2 K2));refine sxz (hK' _ (AW.st (by simp [dNum];rfl) ?_));clear hK' K';refine AW_ret ?_;simp [D.le,D.le.go,takeMap]
end Go.Proofs.YthnjfeielmbfkaaGreatDoor
namespace Go.Proofs.YthnjfeielmbfkaaGreatDoor
open Go.Av
inductive Fm where
 | nil
 | mk (kind:Int) (name:List UInt8) (of:List Fm)
def ofK {α:Type} (l:List α):Option Bool:=match l with
 | []=>some false
 | _=>none
mutual
def dF:Fm→D
 | .nil=>.v (.pointer none)
 | .mk k s l=>.ip [dNum k,dS s,.sl (ofK l) (dFs l)]
def dFs:List Fm→List (List D)
 | []=>[]
 | f :: l=>[dF f] :: dFs l
end
end Go.Proofs.YthnjfeielmbfkaaGreatDoor
namespace Go.Proofs.YthnjfeielmbfkaaGreatDoor
open Go.Av
def Tab.n (t:Tab):Nat:=t.next.length
def sigN (t:Tab) (now:List Int) (s i:Nat):List Int:=now.getD s 0 :: (List.range i).flatMap fun i=>[(t.tells.getD s []).getD i 0,now.getD ((t.next.getD s []).getD i 0).toNat 0]
def sig (t:Tab) (now:List Int) (s:Nat):List Int:=sigN t now s (t.next.getD s []).length
def nextF (t:Tab) (now:List Int):List Int:=numberF ((List.range t.n).map (sig t now))
def iter (t:Tab):Nat→List Int
 | 0=>List.replicate t.n 0
 | k+1=>nextF t (iter t k)
end Go.Proofs.YthnjfeielmbfkaaGreatDoor
namespace Go.Proofs.YthnjfeielmbfkaaGreatDoor
theorem idx_neg {α:Type} {p:α→Bool} {l:List α} (h:idx p l < 0):∀ x∈l,p x=false:=by
 unfold idx at h
 split at h
 ·omega
 ·rename_i hn
  rw [List.findIdx?_eq_none_iff] at hn
  intro x hx
  simpa using hn x hx
theorem idx_pos {α:Type} {p:α→Bool} {l:List α} (h:¬ idx p l < 0):∃ k,∃ hk:k < l.length,idx p l=(k:Int)∧p l[k]=true:=by
 unfold idx at h ⊢
 split
 ·rename_i i hi
  rw [List.findIdx?_eq_some_iff_getElem] at hi
  obtain ⟨h1,h2,_⟩:=hi
  exact ⟨i,h1,rfl,h2⟩
 ·rename_i hn
  simp [hn] at h
def dn (L:List (List Int)) (n:Nat):Nat:=(numSt L n).1.length
end Go.Proofs.YthnjfeielmbfkaaGreatDoor
namespace Go.Proofs.YthnjfeielmbfkaaGreatDoor
def nx (t:Tab) (s c:Nat):Nat:=((t.next.getD s []).getD c 0).toNat
def te (t:Tab) (s c:Nat):Int:=(t.tells.getD s []).getD c 0
def wd (t:Tab):Nat:=(t.next.getD 0 []).length
end Go.Proofs.YthnjfeielmbfkaaGreatDoor
namespace Go.Proofs.YthnjfeielmbfkaaGreatDoor
open Go.Av
def pre (l row:List Int) (i:Nat):List Int:=(row.take i).map fun x=>l.getD x.toNat 0
end Go.Proofs.YthnjfeielmbfkaaGreatDoor
namespace Go.Proofs.YthnjfeielmbfkaaGreatDoor
open Go.Av
theorem okAll_succ {l:List UInt8} {i:Nat} (h:okAll l i=true) (hi:i < l.length) (hc:okC i l[i]=true):okAll l (i+1)=true:=by
 unfold okAll at h ⊢;rw [List.range_succ,List.all_append,h];simp only [List.all_cons,List.all_nil,Bool.and_true,Bool.true_and];rw [List.getD_eq_getElem?_getD,List.getElem?_eq_getElem hi];exact hc
theorem okAll_fail {l:List UInt8} {i:Nat} (hi:i < l.length) (hc:okC i l[i]=false):checkNF l=false:=by
 have:okAll l l.length=false:=by
  unfold okAll;rw [List.all_eq_false];refine ⟨i,List.mem_range.2 hi,?_⟩;rw [List.getD_eq_getElem?_getD,List.getElem?_eq_getElem hi];simp [hc]
 unfold checkNF;rw [this]
 rfl
theorem word_fail {l:List UInt8} (h:(([] :: wordsL).any fun x=>l == x)=true):checkNF l=false:=by
 unfold checkNF;rw [h];simp
theorem word_pass {l:List UInt8} (h:okAll l l.length=true) (hw:(([] :: wordsL).any fun x=>l == x)=false):decide ((l.length:Int)≤8)=checkNF l:=by
 unfold checkNF;rw [h,hw];simp only [Bool.not_false,Bool.true_and]
 by_cases h8:l.length≤8
 ·simp [h8];omega
 ·simp [h8];omega
theorem toW (l:List UInt8):(⟨l.toArray⟩:ByteArray)=bs l:=rfl
set_option maxHeartbeats 8000000 in
theorem ncheck_spec (G:Glob) (l:List UInt8) (hl:l.length < 2^60):PureC Tryz.prog G 138 [dS l] (.v (.bool (checkNF l))):=by
 refine PureC.of_body (tyOf_good _) Tryz.func138 rfl rfl (rs:=[.tmp 2]) Tryz.results138 (by simp [Tryz.ntmps138]) fun X=>?_;simp only [Tryz.ntmps138,List.map];refine rgq @dS.eq_1 [0] [] ?_;refine AW_then fun K1 hK1=>?_
 have qf:=@bs_size
 refine rgqv [0,7,8] [] ?_;refine AW_for (S:=Nat) (fun i=>i≤l.length∧okAll l i=true) (fun i=>⟨lst [(0,.d (dS l)),(7,int l.length),(8,int i)],hlst []⟩) (fun i=>l.length - i) 0 ?_ (by simp [okAll]) ?_
 ·refine Imp.to' (fun _ _=>trivial) (by simp [dS]) (by simp [dS])
 ·rintro i ⟨hi0,hok⟩
  refine rgq @dS.eq_1 [0,7,8,9] [] ?_;refine AW_then fun K2 hK2=>?_;refine AW_cond' (b:=i < l.length) (by simp [D.le,D.le.go,takeMap]) (fun hc=>?_) (fun hc=>?_)
  ·have hi:i < l.length:=hc
   refine AW_skip (hK2 _ ?_);refine AW_then fun K3 hK3=>?_;refine AW_block ?_;refine rg0 [0,3,7,8] [] ?_
   have qf:=(Aq @bs_size (Aq @bs_data @hi))
   refine rgqv [0,3,4,7,8] [] ?_
   by_cases ha:(97:Int)≤(l[i].toNat:Int)
   ·by_cases hb:(l[i].toNat:Int)≤122
    ·have qf:=(Aq @ha @hb)
     refine rgqv [0,3,4,5,7,8] [] ?_
     have qf:=(Aq @ha @hb)
     refine rgqv [0,7,8,38] [] ?_;refine AW_ff rfl ?_;refine AW_skip (hK3 _ ?_);refine AW_re (tyOf_good _) fun K' hK'=>?_;(repeat (refine sxn fun K2 hK2=>?_;simp;(repeat (refine ⟨by omega,?_⟩));refine hK2 _ ?_;clear hK2 K2));refine sxz (hK' _ ?_);clear hK' K';(try simp only [thn,inb]);refine Again.mk (i+1) ⟨by omega,okAll_succ hok hi (by simp only [okC,lowC,restC,Bool.or_eq_true,Bool.and_eq_true,decide_eq_true_eq];omega)⟩ (by omega) ?_;refine Imp.to' (fun _ _=>trivial) (by simp [dS]) (by simp [dS])
    ·by_cases hz:(i:Int)=0
     ·have hz':i=0:=by omega
      subst hz'
      have qf:=(Aq @ha @hb)
      refine rgqv [0,3,4,5,7,8] [] ?_
      have qf:=(Aq @ha @hb)
      refine rgqv [0,7,8,38] [] ?_;refine AW_tt rfl ?_;refine rg0 [2] [] ?_;refine AW_ret ?_;simp [D.le,D.le.go,takeMap];exact okAll_fail hi (by simp only [okC,lowC,restC,Bool.or_eq_false_iff,Bool.and_eq_false_iff,decide_eq_false_iff_not];omega)
     ·have hz':¬ i=0:=by omega
      by_cases hd:(48:Int)≤(l[i].toNat:Int)
      ·by_cases he:(l[i].toNat:Int)≤57
       ·have qf:=(Aq @ha (Aq @hb (Aq @hz (Aq @hz' (Aq @hd @he)))))
        refine rgqv [0,3,4,5,7,8] [] ?_
        have qf:=(Aq @ha (Aq @hb (Aq @hz (Aq @hz' (Aq @hd @he)))))
        refine rgqv [0,7,8,38] [] ?_;refine AW_ff rfl ?_;refine AW_skip (hK3 _ ?_);refine AW_re (tyOf_good _) fun K' hK'=>?_;(repeat (refine sxn fun K2 hK2=>?_;simp;(repeat (refine ⟨by omega,?_⟩));refine hK2 _ ?_;clear hK2 K2));refine sxz (hK' _ ?_);clear hK' K';(try simp only [thn,inb]);refine Again.mk (i+1) ⟨by omega,okAll_succ hok hi (by simp only [okC,lowC,restC,Bool.or_eq_true,Bool.and_eq_true,decide_eq_true_eq];omega)⟩ (by omega) ?_;refine Imp.to' (fun _ _=>trivial) (by simp [dS]) (by simp [dS])
       ·by_cases hu:(l[i].toNat:Int)=95
        ·have qf:=(Aq @ha (Aq @hb (Aq @hz (Aq @hz' (Aq @hd (Aq @he @hu))))))
         refine rgqv [0,3,4,5,7,8] [] ?_
         have qf:=(Aq @ha (Aq @hb (Aq @hz (Aq @hz' (Aq @hd (Aq @he @hu))))))
         refine rgqv [0,7,8,38] [] ?_;refine AW_ff rfl ?_;refine AW_skip (hK3 _ ?_);refine AW_re (tyOf_good _) fun K' hK'=>?_;(repeat (refine sxn fun K2 hK2=>?_;simp;(repeat (refine ⟨by omega,?_⟩));refine hK2 _ ?_;clear hK2 K2));refine sxz (hK' _ ?_);clear hK' K';(try simp only [thn,inb]);refine Again.mk (i+1) ⟨by omega,okAll_succ hok hi (by simp only [okC,lowC,restC,Bool.or_eq_true,Bool.and_eq_true,decide_eq_true_eq];omega)⟩ (by omega) ?_;refine Imp.to' (fun _ _=>trivial) (by simp [dS]) (by simp [dS])
        ·have qf:=(Aq @ha (Aq @hb (Aq @hz (Aq @hz' (Aq @hd (Aq @he @hu))))))
         refine rgqv [0,3,4,5,7,8] [] ?_
         have qf:=(Aq @ha (Aq @hb (Aq @hz (Aq @hz' (Aq @hd (Aq @he @hu))))))
         refine rgqv [0,7,8,38] [] ?_;refine AW_tt rfl ?_;refine rg0 [2] [] ?_;refine AW_ret ?_;simp [D.le,D.le.go,takeMap];exact okAll_fail hi (by simp only [okC,lowC,restC,Bool.or_eq_false_iff,Bool.and_eq_false_iff,decide_eq_false_iff_not];omega)
      ·have hu:¬ (l[i].toNat:Int)=95:=by omega
       have qf:=(Aq @ha (Aq @hb (Aq @hz (Aq @hz' (Aq @hd @hu)))))
       refine rgqv [0,3,4,5,7,8] [] ?_
       have qf:=(Aq @ha (Aq @hb (Aq @hz (Aq @hz' (Aq @hd @hu)))))
       refine rgqv [0,7,8,38] [] ?_;refine AW_tt rfl ?_;refine rg0 [2] [] ?_;refine AW_ret ?_;simp [D.le,D.le.go,takeMap];exact okAll_fail hi (by simp only [okC,lowC,restC,Bool.or_eq_false_iff,Bool.and_eq_false_iff,decide_eq_false_iff_not];omega)
   ·by_cases hz:(i:Int)=0
    ·have hz':i=0:=by omega
     subst hz'
     have qf:=@ha
     refine rgqv [0,3,4,5,7,8] [] ?_
     have qf:=@ha
     refine rgqv [0,7,8,38] [] ?_;refine AW_tt rfl ?_;refine rg0 [2] [] ?_;refine AW_ret ?_;simp [D.le,D.le.go,takeMap];exact okAll_fail hi (by simp only [okC,lowC,restC,Bool.or_eq_false_iff,Bool.and_eq_false_iff,decide_eq_false_iff_not];omega)
    ·have hz':¬ i=0:=by omega
     by_cases hd:(48:Int)≤(l[i].toNat:Int)
     ·by_cases he:(l[i].toNat:Int)≤57
      ·have qf:=(Aq @ha (Aq @hz (Aq @hz' (Aq @hd @he))))
       refine rgqv [0,3,4,5,7,8] [] ?_
       have qf:=(Aq @ha (Aq @hz (Aq @hz' (Aq @hd @he))))
       refine rgqv [0,7,8,38] [] ?_;refine AW_ff rfl ?_;refine AW_skip (hK3 _ ?_);refine AW_re (tyOf_good _) fun K' hK'=>?_;(repeat (refine sxn fun K2 hK2=>?_;simp;(repeat (refine ⟨by omega,?_⟩));refine hK2 _ ?_;clear hK2 K2));refine sxz (hK' _ ?_);clear hK' K';(try simp only [thn,inb]);refine Again.mk (i+1) ⟨by omega,okAll_succ hok hi (by simp only [okC,lowC,restC,Bool.or_eq_true,Bool.and_eq_true,decide_eq_true_eq];omega)⟩ (by omega) ?_;refine Imp.to' (fun _ _=>trivial) (by simp [dS]) (by simp [dS])
      ·by_cases hu:(l[i].toNat:Int)=95
       ·have qf:=(Aq @ha (Aq @hz (Aq @hz' (Aq @hd (Aq @he @hu)))))
        refine rgqv [0,3,4,5,7,8] [] ?_
        have qf:=(Aq @ha (Aq @hz (Aq @hz' (Aq @hd (Aq @he @hu)))))
        refine rgqv [0,7,8,38] [] ?_;refine AW_ff rfl ?_;refine AW_skip (hK3 _ ?_);refine AW_re (tyOf_good _) fun K' hK'=>?_;(repeat (refine sxn fun K2 hK2=>?_;simp;(repeat (refine ⟨by omega,?_⟩));refine hK2 _ ?_;clear hK2 K2));refine sxz (hK' _ ?_);clear hK' K';(try simp only [thn,inb]);refine Again.mk (i+1) ⟨by omega,okAll_succ hok hi (by simp only [okC,lowC,restC,Bool.or_eq_true,Bool.and_eq_true,decide_eq_true_eq];omega)⟩ (by omega) ?_;refine Imp.to' (fun _ _=>trivial) (by simp [dS]) (by simp [dS])
       ·have qf:=(Aq @ha (Aq @hz (Aq @hz' (Aq @hd (Aq @he @hu)))))
        refine rgqv [0,3,4,5,7,8] [] ?_
        have qf:=(Aq @ha (Aq @hz (Aq @hz' (Aq @hd (Aq @he @hu)))))
        refine rgqv [0,7,8,38] [] ?_;refine AW_tt rfl ?_;refine rg0 [2] [] ?_;refine AW_ret ?_;simp [D.le,D.le.go,takeMap];exact okAll_fail hi (by simp only [okC,lowC,restC,Bool.or_eq_false_iff,Bool.and_eq_false_iff,decide_eq_false_iff_not];omega)
     ·have hu:¬ (l[i].toNat:Int)=95:=by omega
      have qf:=(Aq @ha (Aq @hz (Aq @hz' (Aq @hd @hu))))
      refine rgqv [0,3,4,5,7,8] [] ?_
      have qf:=(Aq @ha (Aq @hz (Aq @hz' (Aq @hd @hu))))
      refine rgqv [0,7,8,38] [] ?_;refine AW_tt rfl ?_;refine rg0 [2] [] ?_;refine AW_ret ?_;simp [D.le,D.le.go,takeMap];exact okAll_fail hi (by simp only [okC,lowC,restC,Bool.or_eq_false_iff,Bool.and_eq_false_iff,decide_eq_false_iff_not];omega)
  ·have hil:i=l.length:=by omega
   subst hil;refine AW_exit (hK1 _ ?_);refine AW_then fun K4 hK4=>?_;refine rg0 [0,40] [] ?_;refine AW_block ?_;refine AW_then fun K5 hK5=>?_
   by_cases hw0:l=[]
   ·refine rg [0,40,41] [] (fun _ _=>trivial) fun K' hK'=>?_;(repeat (refine sxn fun K2 hK2=>?_;simp [bs_nil,bs_list,binS,dS,toW,hw0];(repeat (refine ⟨by omega,?_⟩));refine hK2 _ ?_;clear hK2 K2));refine sxz (hK' _ (AW.st (by simp [bs_nil,bs_list,binS,dS,toW,hw0];rfl) ?_));clear hK' K';refine AW_tt rfl ?_;refine AW_skip (hK5 _ ?_);refine AW_tt rfl ?_;refine rg0 [2] [] ?_;refine AW_ret ?_;simp [D.le,D.le.go,takeMap];exact word_fail (by simp [hw0,wordsL])
   have hx0:l.isEmpty=false:=by simpa using hw0
   refine rg [0,40,41] [] (fun _ _=>trivial) fun K' hK'=>?_;(repeat (refine sxn fun K2 hK2=>?_;simp [bs_nil,bs_list,binS,dS,toW,hw0,hx0];(repeat (refine ⟨by omega,?_⟩));refine hK2 _ ?_;clear hK2 K2));refine sxz (hK' _ (AW.st (by simp [bs_nil,bs_list,binS,dS,toW,hw0,hx0];rfl) ?_));clear hK' K';refine AW_ff rfl ?_
   by_cases hw1:l=[105,110,112,117,116]
   ·refine rg [0,40,41] [] (fun _ _=>trivial) fun K' hK'=>?_;(repeat (refine sxn fun K2 hK2=>?_;simp [bs_nil,bs_list,binS,dS,toW,hw1];(repeat (refine ⟨by omega,?_⟩));refine hK2 _ ?_;clear hK2 K2));refine sxz (hK' _ (AW.st (by simp [bs_nil,bs_list,binS,dS,toW,hw1];rfl) ?_));clear hK' K';refine AW_tt rfl ?_;refine AW_skip (hK5 _ ?_);refine AW_tt rfl ?_;refine rg0 [2] [] ?_;refine AW_ret ?_;simp [D.le,D.le.go,takeMap];exact word_fail (by simp [hw1,wordsL])
   have hx1:(l == [105,110,112,117,116])=false:=by simpa using hw1
   refine rg [0,40,41] [] (fun _ _=>trivial) fun K' hK'=>?_;(repeat (refine sxn fun K2 hK2=>?_;simp [bs_nil,bs_list,binS,dS,toW,hw1,hx1];(repeat (refine ⟨by omega,?_⟩));refine hK2 _ ?_;clear hK2 K2));refine sxz (hK' _ (AW.st (by simp [bs_nil,bs_list,binS,dS,toW,hw1,hx1];rfl) ?_));clear hK' K';refine AW_ff rfl ?_
   by_cases hw2:l=[99,111,105,108]
   ·refine rg [0,40,41] [] (fun _ _=>trivial) fun K' hK'=>?_;(repeat (refine sxn fun K2 hK2=>?_;simp [bs_nil,bs_list,binS,dS,toW,hw2];(repeat (refine ⟨by omega,?_⟩));refine hK2 _ ?_;clear hK2 K2));refine sxz (hK' _ (AW.st (by simp [bs_nil,bs_list,binS,dS,toW,hw2];rfl) ?_));clear hK' K';refine AW_tt rfl ?_;refine AW_skip (hK5 _ ?_);refine AW_tt rfl ?_;refine rg0 [2] [] ?_;refine AW_ret ?_;simp [D.le,D.le.go,takeMap];exact word_fail (by simp [hw2,wordsL])
   have hx2:(l == [99,111,105,108])=false:=by simpa using hw2
   refine rg [0,40,41] [] (fun _ _=>trivial) fun K' hK'=>?_;(repeat (refine sxn fun K2 hK2=>?_;simp [bs_nil,bs_list,binS,dS,toW,hw2,hx2];(repeat (refine ⟨by omega,?_⟩));refine hK2 _ ?_;clear hK2 K2));refine sxz (hK' _ (AW.st (by simp [bs_nil,bs_list,binS,dS,toW,hw2,hx2];rfl) ?_));clear hK' K';refine AW_ff rfl ?_
   by_cases hw3:l=[116,105,109,101,114]
   ·refine rg [0,40,41] [] (fun _ _=>trivial) fun K' hK'=>?_;(repeat (refine sxn fun K2 hK2=>?_;simp [bs_nil,bs_list,binS,dS,toW,hw3];(repeat (refine ⟨by omega,?_⟩));refine hK2 _ ?_;clear hK2 K2));refine sxz (hK' _ (AW.st (by simp [bs_nil,bs_list,binS,dS,toW,hw3];rfl) ?_));clear hK' K';refine AW_tt rfl ?_;refine AW_skip (hK5 _ ?_);refine AW_tt rfl ?_;refine rg0 [2] [] ?_;refine AW_ret ?_;simp [D.le,D.le.go,takeMap];exact word_fail (by simp [hw3,wordsL])
   have hx3:(l == [116,105,109,101,114])=false:=by simpa using hw3
   refine rg [0,40,41] [] (fun _ _=>trivial) fun K' hK'=>?_;(repeat (refine sxn fun K2 hK2=>?_;simp [bs_nil,bs_list,binS,dS,toW,hw3,hx3];(repeat (refine ⟨by omega,?_⟩));refine hK2 _ ?_;clear hK2 K2));refine sxz (hK' _ (AW.st (by simp [bs_nil,bs_list,binS,dS,toW,hw3,hx3];rfl) ?_));clear hK' K';refine AW_ff rfl ?_
   by_cases hw4:l=[99,111,117,110,116,101,114]
   ·refine rg [0,40,41] [] (fun _ _=>trivial) fun K' hK'=>?_;(repeat (refine sxn fun K2 hK2=>?_;simp [bs_nil,bs_list,binS,dS,toW,hw4];(repeat (refine ⟨by omega,?_⟩));refine hK2 _ ?_;clear hK2 K2));refine sxz (hK' _ (AW.st (by simp [bs_nil,bs_list,binS,dS,toW,hw4];rfl) ?_));clear hK' K';refine AW_tt rfl ?_;refine AW_skip (hK5 _ ?_);refine AW_tt rfl ?_;refine rg0 [2] [] ?_;refine AW_ret ?_;simp [D.le,D.le.go,takeMap];exact word_fail (by simp [hw4,wordsL])
   have hx4:(l == [99,111,117,110,116,101,114])=false:=by simpa using hw4
   refine rg [0,40,41] [] (fun _ _=>trivial) fun K' hK'=>?_;(repeat (refine sxn fun K2 hK2=>?_;simp [bs_nil,bs_list,binS,dS,toW,hw4,hx4];(repeat (refine ⟨by omega,?_⟩));refine hK2 _ ?_;clear hK2 K2));refine sxz (hK' _ (AW.st (by simp [bs_nil,bs_list,binS,dS,toW,hw4,hx4];rfl) ?_));clear hK' K';refine AW_ff rfl ?_
   by_cases hw5:l=[115,101,116]
   ·refine rg [0,40,41] [] (fun _ _=>trivial) fun K' hK'=>?_;(repeat (refine sxn fun K2 hK2=>?_;simp [bs_nil,bs_list,binS,dS,toW,hw5];(repeat (refine ⟨by omega,?_⟩));refine hK2 _ ?_;clear hK2 K2));refine sxz (hK' _ (AW.st (by simp [bs_nil,bs_list,binS,dS,toW,hw5];rfl) ?_));clear hK' K';refine AW_tt rfl ?_;refine AW_skip (hK5 _ ?_);refine AW_tt rfl ?_;refine rg0 [2] [] ?_;refine AW_ret ?_;simp [D.le,D.le.go,takeMap];exact word_fail (by simp [hw5,wordsL])
   have hx5:(l == [115,101,116])=false:=by simpa using hw5
   refine rg [0,40,41] [] (fun _ _=>trivial) fun K' hK'=>?_;(repeat (refine sxn fun K2 hK2=>?_;simp [bs_nil,bs_list,binS,dS,toW,hw5,hx5];(repeat (refine ⟨by omega,?_⟩));refine hK2 _ ?_;clear hK2 K2));refine sxz (hK' _ (AW.st (by simp [bs_nil,bs_list,binS,dS,toW,hw5,hx5];rfl) ?_));clear hK' K';refine AW_ff rfl ?_
   by_cases hw6:l=[114,101,115,101,116]
   ·refine rg [0,40,41] [] (fun _ _=>trivial) fun K' hK'=>?_;(repeat (refine sxn fun K2 hK2=>?_;simp [bs_nil,bs_list,binS,dS,toW,hw6];(repeat (refine ⟨by omega,?_⟩));refine hK2 _ ?_;clear hK2 K2));refine sxz (hK' _ (AW.st (by simp [bs_nil,bs_list,binS,dS,toW,hw6];rfl) ?_));clear hK' K';refine AW_tt rfl ?_;refine AW_skip (hK5 _ ?_);refine AW_tt rfl ?_;refine rg0 [2] [] ?_;refine AW_ret ?_;simp [D.le,D.le.go,takeMap];exact word_fail (by simp [hw6,wordsL])
   have hx6:(l == [114,101,115,101,116])=false:=by simpa using hw6
   refine rg [0,40,41] [] (fun _ _=>trivial) fun K' hK'=>?_;(repeat (refine sxn fun K2 hK2=>?_;simp [bs_nil,bs_list,binS,dS,toW,hw6,hx6];(repeat (refine ⟨by omega,?_⟩));refine hK2 _ ?_;clear hK2 K2));refine sxz (hK' _ (AW.st (by simp [bs_nil,bs_list,binS,dS,toW,hw6,hx6];rfl) ?_));clear hK' K';refine AW_ff rfl ?_
   by_cases hw7:l=[114,117,110]
   ·refine rg [0,40,41] [] (fun _ _=>trivial) fun K' hK'=>?_;(repeat (refine sxn fun K2 hK2=>?_;simp [bs_nil,bs_list,binS,dS,toW,hw7];(repeat (refine ⟨by omega,?_⟩));refine hK2 _ ?_;clear hK2 K2));refine sxz (hK' _ (AW.st (by simp [bs_nil,bs_list,binS,dS,toW,hw7];rfl) ?_));clear hK' K';refine AW_tt rfl ?_;refine AW_skip (hK5 _ ?_);refine AW_tt rfl ?_;refine rg0 [2] [] ?_;refine AW_ret ?_;simp [D.le,D.le.go,takeMap];exact word_fail (by simp [hw7,wordsL])
   have hx7:(l == [114,117,110])=false:=by simpa using hw7
   refine rg [0,40,41] [] (fun _ _=>trivial) fun K' hK'=>?_;(repeat (refine sxn fun K2 hK2=>?_;simp [bs_nil,bs_list,binS,dS,toW,hw7,hx7];(repeat (refine ⟨by omega,?_⟩));refine hK2 _ ?_;clear hK2 K2));refine sxz (hK' _ (AW.st (by simp [bs_nil,bs_list,binS,dS,toW,hw7,hx7];rfl) ?_));clear hK' K';refine AW_ff rfl ?_
   by_cases hw8:l=[99,111,117,110,116]
   ·refine rg [0,40,41] [] (fun _ _=>trivial) fun K' hK'=>?_;(repeat (refine sxn fun K2 hK2=>?_;simp [bs_nil,bs_list,binS,dS,toW,hw8];(repeat (refine ⟨by omega,?_⟩));refine hK2 _ ?_;clear hK2 K2));refine sxz (hK' _ (AW.st (by simp [bs_nil,bs_list,binS,dS,toW,hw8];rfl) ?_));clear hK' K';refine AW_tt rfl ?_;refine AW_skip (hK5 _ ?_);refine AW_tt rfl ?_;refine rg0 [2] [] ?_;refine AW_ret ?_;simp [D.le,D.le.go,takeMap];exact word_fail (by simp [hw8,wordsL])
   have hx8:(l == [99,111,117,110,116])=false:=by simpa using hw8
   refine rg [0,40,41] [] (fun _ _=>trivial) fun K' hK'=>?_;(repeat (refine sxn fun K2 hK2=>?_;simp [bs_nil,bs_list,binS,dS,toW,hw8,hx8];(repeat (refine ⟨by omega,?_⟩));refine hK2 _ ?_;clear hK2 K2));refine sxz (hK' _ (AW.st (by simp [bs_nil,bs_list,binS,dS,toW,hw8,hx8];rfl) ?_));clear hK' K';refine AW_ff rfl ?_
   by_cases hw9:l=[122,101,114,111]
   ·refine AW_re (tyOf_good _) fun K' hK'=>?_;(repeat (refine sxn fun K2 hK2=>?_;simp [bs_nil,bs_list,binS,dS,toW,hw9];(repeat (refine ⟨by omega,?_⟩));refine hK2 _ ?_;clear hK2 K2));refine sxz (hK' _ ?_);clear hK' K';refine hK5 _ (AW.norm [0,41] [] (fun _ _=>trivial) (AW.st (by simp [bs_nil,bs_list,binS,dS,toW,hw9];rfl) ?_));refine AW_tt rfl ?_;refine rg0 [2] [] ?_;refine AW_ret ?_;simp [D.le,D.le.go,takeMap];exact word_fail (by simp [hw9,wordsL])
   have hx9:(l == [122,101,114,111])=false:=by simpa using hw9
   refine AW_re (tyOf_good _) fun K' hK'=>?_;(repeat (refine sxn fun K2 hK2=>?_;simp [bs_nil,bs_list,binS,dS,toW,hw9,hx9];(repeat (refine ⟨by omega,?_⟩));refine hK2 _ ?_;clear hK2 K2));refine sxz (hK' _ ?_);clear hK' K';refine hK5 _ (AW.norm [0,41] [] (fun _ _=>trivial) (AW.st (by simp [bs_nil,bs_list,binS,dS,toW,hw9,hx9];rfl) ?_));refine AW_ff rfl ?_;refine AW_skip (hK4 _ ?_)
   have qf:=(Aq @dS.eq_1 @bs_size)
   refine rgqv [2] [] ?_;refine AW_ret ?_;simp [D.le,D.le.go,takeMap];exact word_pass hok (by simp [wordsL,hw0,hw1,hw2,hw3,hw4,hw5,hw6,hw7,hw8,hw9])
end Go.Proofs.YthnjfeielmbfkaaGreatDoor
namespace Go.Proofs.YthnjfeielmbfkaaGreatDoor
open Go.Av
def tr:Fm:=.mk 2 [] []
end Go.Proofs.YthnjfeielmbfkaaGreatDoor
namespace Go.Proofs.YthnjfeielmbfkaaGreatDoor
open Go.Av
def atF (n:Int) (many:Nat):Nat:=((n % 18446744073709551616) % many).toNat
structure Stp where
 kind:Int
 a:Int
 b:Int
 name:List UInt8
def stepF (all:List Fm) (x:Stp):Fm:=
 if x.kind=2 then .mk 2 [] []
 else if x.kind=3∨x.kind=6∨x.kind=9∨x.kind=10 then .mk x.kind [] [all.getD (atF x.a all.length) .nil]
 else if x.kind=4∨x.kind=5∨x.kind=7∨x.kind=8 then .mk x.kind [] [all.getD (atF x.a all.length) .nil,all.getD (atF x.b all.length) .nil]
 else .mk 1 x.name []
def IsMk (f:Fm):Prop:=∃ k s l,f = .mk k s l
theorem IsMk.ip {f:Fm} (h:IsMk f):∃ c,dF f = .ip c:=by
 obtain ⟨k,s,l,rfl⟩:=h
 exact ⟨_,rfl⟩
end Go.Proofs.YthnjfeielmbfkaaGreatDoor
namespace Go.Proofs.YthnjfeielmbfkaaGreatDoor
open Go.Av
abbrev Times:=List (List (List UInt8))
end Go.Proofs.YthnjfeielmbfkaaGreatDoor
namespace Go.Proofs.YthnjfeielmbfkaaGreatDoor
section
variable (f g:Fm)
def notF:Fm:=.mk 3 [] [f]
end
section
variable (a r:Times) (hr:0 < r.length) (f g:Fm)
include hr
end
end Go.Proofs.YthnjfeielmbfkaaGreatDoor
