/-
  Texts that belong together,in one file: E4,G1,B1,F7,P1,P2,F10,N2,B2,B4,B6,P10.
-/
import Derived.Test.YtdigkhaofjmgkaaGreatDoorMk18
import Derived.Test.YtdigkhaofjmgkaaGreatDoorMk19
import Derived.RegionTactic
import Derived.ChangeAlike
set_option linter.unusedSimpArgs false
set_option linter.unusedVariables false
namespace Go.Proofs.YtdigkhaofjmgkaaGreatDoor
open Go.RowKit Go.Extern.Stop Go.Stop Go.Extern
open Go.Av
theorem Xb (v:Value) (xT:TypeId) (w:World):(Instr.typeAssert (.iface 40 v) xT 213 true).run Tryz.prog w = .ok (.tuple #[.pointer none,.bool false]) w:=by kernel_rfl
theorem Xa (v:Value) (xT:TypeId) (w:World):(Instr.typeAssert (.iface 213 v) xT 213 true).run Tryz.prog w = .ok (.tuple #[v,.bool true]) w:=by kernel_rfl
theorem Xc (v:Value) (xT:TypeId) (w:World):(Instr.typeAssert (.iface 40 v) xT 285 true).run Tryz.prog w = .ok (.tuple #[.nilIface,.bool false]) w:=run_typeAssert_lacksB Tryz.underlying285 (by kernel_rfl) (by kernel_rfl) v xT w
set_option maxHeartbeats 1000000 in
theorem Ve (w:World):Calls Tryz.prog 135 #[.nilIface] w fun e w'=>e = .returned (.tuple #[.int .i64 0,.int .i64 (-1)])/\bU w w':=by
 go_enter Tryz.func135,Tryz.ntmps135
 go_wp2_with (go_at_call 37;refine (KZ _).mono ?_;rintro e w' ⟨rfl,rfl⟩)
 refine wp_loop_rounds 1 ?_;rw [rounds_succ]
 go_wp2
 go_ret2
 exact ⟨rfl,bU.refl _⟩
set_option maxHeartbeats 1000000 in
theorem Vd (n:Int) (w:World) (hg:w.cell? ⟨3,0,none⟩=some lf):Calls Tryz.prog 135 #[.iface 40 (.int .i64 n)] w fun e w'=>e = .returned (.tuple #[.int .i64 n,.int .i64 (-1)])/\bU w w':=by
 have t1:=Xb;have t2:=Xc
 go_enter Tryz.func135,Tryz.ntmps135
 go_wp2_with (go_at_call 37;refine (KY n _ hg).mono ?_;rintro e w' ⟨rfl,dI⟩)
 refine wp_loop_rounds 1 ?_;rw [rounds_succ]
 go_wp2
 go_ret2
 exact ⟨rfl,dI⟩
set_option maxHeartbeats 1000000 in
theorem Vc (n s:Int) (b o:Nat) (w:World) (hg:w.cell? ⟨3,0,none⟩=some lf) (ha:w.cell? ⟨b,o,none⟩=some (.int .i64 n)) (hs:w.cell? ⟨b,o+1,none⟩=some (.int .i64 s)) :
  Calls Tryz.prog 135 #[.iface 213 (.pointer (some ⟨b,o,none⟩))] w fun e w'=>e = .returned (.tuple #[.int .i64 n,.int .i64 s])/\bU w w':=by
 have t1:=Xa
 go_enter Tryz.func135,Tryz.ntmps135
 go_wp2_with (go_at_call 37;refine (KX n _ _ hg ha).mono ?_;rintro e w' ⟨rfl,dI⟩)
 have hs':w'.cell? ⟨b,o+1,none⟩=some (.int .i64 s):=by rw [World.cell?_of_block (w:=w) (dI.same b (qs hs))];exact hs
 refine wp_loop_rounds 1 ?_;rw [rounds_succ]
 go_wp2
 go_region
 all_goals (go_wp2;go_ret2;exact ⟨rfl,dI.size,dI.os,dI.tape,dI.output,dI.same⟩)
theorem Vf (G:ao) (hG:mf G) (e:Option (Int×Option Nat)):aw Tryz.prog G 135 [Z5 e] (.Z4 [.v (.int .i64 (codeF e)),.v (.int .i64 (aab e))]):=by
 refine aw.mM (eU.of Tryz.func135 rfl rfl) fun X w vs aI bz b8=>?_;have hg:=hG.cell b8;obtain ⟨v,rfl⟩:∃ v,vs = #[v]:=Array.size_eq_one_iff.1 aI;have hv:=bz 0 v _ rfl rfl
 have two:∀ (w':World) (a b:Int),RD w' X (.tuple #[.int .i64 a,.int .i64 b]) (.Z4 [.v (.int .i64 a),.v (.int .i64 b)]):=fun w' a b=>.Z4 rfl fun j u c hu hc=>by
  match j,hu,hc with
  | 0,hu,hc=>simp at hu hc;subst hu hc;exact .v _
  | 1,hu,hc=>simp at hu hc;subst hu hc;exact .v _
  | j+2,hu,hc=>simp at hu
 match e,hv with
 | none,hv=>
  have:=hv.scalar;subst this;exact (Ve w).mono fun e w' ⟨he,hw⟩=>⟨_,he,hw,two _ _ _⟩
 | some (c,none),hv=>
  obtain ⟨u,rfl,hu⟩:=hv.nt;have:=hu.scalar;subst this;exact (Vd c w hg).mono fun e w' ⟨he,hw⟩=>⟨_,he,hw,two _ _ _⟩
 | some (c,some s),hv=>
  obtain ⟨u,rfl,hu⟩:=hv.nt;obtain ⟨b,off,f,rfl,_,_,hc,hr⟩:=hu.acF;have h1:=hc 0 (by simp);have h2:=(hr 0 _ rfl).scalar;rw [h2] at h1;have h3:=hc 1 (by simp);have h4:=(hr 1 _ rfl).scalar;rw [h4] at h3;exact (Vc c s b off w hg h1 h3).mono fun e w' ⟨he,hw⟩=>⟨_,he,hw,two _ _ _⟩
end Go.Proofs.YtdigkhaofjmgkaaGreatDoor
namespace Go.Proofs.YtdigkhaofjmgkaaGreatDoor
open Go.Av
def ch (e:Option (Int×Option Nat)):D:=.agg [ab (codeF e),ab (aab e)]
def ql (G:ao):Prop:=G 2=some (.ip [ab 0,ab (-1)])
theorem xx (G:ao) (c:Int):aw Tryz.prog G 68 [ab c] (.agg [ab c,ab (-1)]):=by
 refine aw.aD (ZZ _) Tryz.func68 rfl rfl (rs:=[.cell 2 124]) Tryz.results68 (by simp [Tryz.ntmps68]) fun X=>?_;simp only [Tryz.ntmps68,List.map];refine ZW @ab.eq_1 [0,2] [2] ?_;refine ZW @ab.eq_1 [2] [2] ?_;exact aK @ab.eq_1
theorem E0 (G:ao) (n lo hi:Int):aw Tryz.prog G 164 [ab n,ab lo,ab hi] (.v (.bool (decide (lo<=n) && decide (n<=hi)))):=by
 refine aw.aD (ZZ _) Tryz.func164 rfl rfl (rs:=[.tmp 6]) Tryz.results164 (by simp [Tryz.ntmps164]) fun X=>?_;simp only [Tryz.ntmps164,List.map];refine ZW @ab.eq_1 [0,1,2] [] ?_;by_cases h1:lo<=n
 .have qf:=@h1;refine al [6] [] ?_;exact aK @h1
 .have qf:=@h1;refine al [6] [] ?_;exact aK @h1
set_option maxHeartbeats 1000000 in
theorem Sy (G:ao) (k k':Option Bool) (l l':List Int) (h:l.length < 2^63):aw Tryz.prog G 27 [acJ k l,acJ k' l'] (.v (.bool (l == l'))):=by
 refine aw.aD (ZZ _) Tryz.func27 rfl rfl (rs:=[.tmp 4]) Tryz.results27 (by simp [Tryz.ntmps27]) fun X=>?_;simp only [Tryz.ntmps27,List.map];refine aq [0,1] [] ?_;refine ae fun K1 ay=>?_;refine ZW @acJ.eq_1 [0,1,10] [] ?_;refine dG (b:=l.length≠l'.length) (by simp [D.le,D.le.go,aB]) (fun hc=>?_) (fun hc=>?_)
 .refine aq [4] [] ?_;refine bk ?_;simp [D.le,D.le.go,aB];intro e;subst e;simp at hc
 .refine ah (ay _ ?_)
  have hl:l.length=l'.length:=by simpa using hc
  refine ae fun K2 aa=>?_;refine ZW @acJ.eq_1 [0,1,5] [] ?_;refine aam (S:=Nat) (fun n=>n<=l.length/\l.take n=l'.take n) (fun n=>⟨aX [(0,.d (acJ k l)),(1,.d (acJ k' l')),(5,int n)],ZX []⟩) (fun n=>l.length - n) 0 ?_ (by simp) ?_
  .refine aU @acJ.eq_1
  .rintro n ⟨hn,ht⟩;refine ae fun K3 aQ=>?_;refine ZW @acJ.eq_1 [0,1,5,14] [] ?_;refine dG (b:=n < l.length) (by simp [D.le,D.le.go,aB]) (fun hc=>?_) (fun hc=>?_)
   .refine ah (aQ _ ?_);refine ae fun K4 bN=>?_;refine aR ?_
    have hn':n < l'.length:=by omega
    have qf:=(Aq @acJ.eq_1 (Aq @hc @hn'));refine fP [0,1,5,25] [] ?_;refine dG (b:=¬ l[n]=l'[n]) (by simp [D.le,D.le.go,aB]) (fun hc=>?_) (fun hc=>?_)
    .refine aq [4] [] ?_;refine bk ?_;simp [D.le,D.le.go,aB];intro e;subst e;simp at hc
    .refine ah (bN _ ?_);refine cI ?_;try simp only [aM,aP]
     have he:l[n]=l'[n]:=by simpa using hc
     refine aV.mk (n+1) ⟨by omega,Xi ht (by omega) hn' he⟩ (by omega) ?_;refine aU @acJ.eq_1
   .refine bH (aa _ ?_);refine aq [4] [] ?_;refine bk ?_;simp [D.le,D.le.go,aB]
    have lV:n=l.length:=by omega
    subst lV;exact Xh hl ht
set_option maxHeartbeats 1000000 in
theorem Sz (G:ao) (l l':List (List Int)) (h:l.length < 2^63) (hr:∀ r∈l,r.length < 2^63):aw Tryz.prog G 18 [acK l,acK l'] (.v (.bool (l == l'))):=by
 refine aw.aD (ZZ _) Tryz.func18 rfl rfl (rs:=[.tmp 4]) Tryz.results18 (by simp [Tryz.ntmps18]) fun X=>?_;simp only [Tryz.ntmps18,List.map];refine aq [0,1] [] ?_;refine ae fun K1 ay=>?_;refine ZW @acK.eq_1 [0,1,10] [] ?_;refine dG (b:=l.length≠l'.length) (by simp [D.le,D.le.go,aB]) (fun hc=>?_) (fun hc=>?_)
 .refine aq [4] [] ?_;refine bk ?_;simp [D.le,D.le.go,aB];intro e;subst e;simp at hc
 .refine ah (ay _ ?_)
  have hl:l.length=l'.length:=by simpa using hc
  refine ae fun K2 aa=>?_;refine ZW @acK.eq_1 [0,1,5] [] ?_;refine aam (S:=Nat) (fun n=>n<=l.length/\l.take n=l'.take n) (fun n=>⟨aX [(0,.d (acK l)),(1,.d (acK l')),(5,int n)],ZX []⟩) (fun n=>l.length - n) 0 ?_ (by simp) ?_
  .refine aU @acK.eq_1
  .rintro n ⟨hn,ht⟩;refine ae fun K3 aQ=>?_;refine ZW @acK.eq_1 [0,1,5,14] [] ?_;refine dG (b:=n < l.length) (by simp [D.le,D.le.go,aB]) (fun hc=>?_) (fun hc=>?_)
   .refine ah (aQ _ ?_);refine ae fun K4 bN=>?_;refine aR ?_
    have hn':n < l'.length:=by omega
    have qf:=(Aq @acK.eq_1 (Aq @hc @hn'));refine rU (Sy G none none l[n] l'[n] (hr _ (List.getElem_mem hc))) [0,1,5,26] [] ?_;by_cases he:l[n]=l'[n]
    .refine ag (by simp [he]) ?_;refine ah (bN _ ?_);refine cI ?_;(try simp only [aM,aP]);refine aV.mk (n+1) ⟨by omega,?_⟩ (by omega) ?_
     .rw [List.take_succ_eq_append_getElem hc,List.take_succ_eq_append_getElem hn',ht,he]
     refine aU @acK.eq_1
    .refine ak (by simp [he]) ?_;refine aq [4] [] ?_;refine bk ?_;simp [D.le,D.le.go,aB];intro e;subst e;exact he rfl
   .refine bH (aa _ ?_);refine aq [4] [] ?_;refine bk ?_;simp [D.le,D.le.go,aB]
    have lV:n=l.length:=by omega
    subst lV;rw [List.take_length] at ht;rw [ht];exact (List.take_of_length_le (by omega))
theorem Mp (G:ao) (hG:mf G) (e e':Option (Int×Option Nat)):aw Tryz.prog G 67 [Z5 e,ch e'] (.v (.bool (decide (codeF e=codeF e') && decide (aab e=aab e')))):=by
 have hp:=Vf G hG e;refine aw.aD (ZZ _) Tryz.func67 rfl rfl (rs:=[.tmp 4]) Tryz.results67 (by simp [Tryz.ntmps67]) fun X=>?_;simp only [Tryz.ntmps67,List.map];refine ZW @ch.eq_1 [0,3] [3] ?_;refine Z6 trivial hp [3,5,6] [3] ?_;by_cases h1:codeF e=codeF e'
 .have qf:=(Aq @ab.eq_1 @h1);refine al [4] [3] ?_;refine bk ?_;simp [D.le,D.le.go,aB,h1]
  try exact fun _=>h1
 .have qf:=(Aq @ab.eq_1 @h1);refine al [4] [3] ?_;refine bk ?_;simp [D.le,D.le.go,aB,h1]
  try exact fun h=>absurd h h1
theorem Mo (G:ao) (hG:mf G) (e:Option (Int×Option Nat)):aw Tryz.prog G 67 [Z5 e,ch e] (.v (.bool true)):=by
 have:=Mp G hG e e;simpa using this
def po (c:Int):Option (Int×Option Nat):=if c=0 then none else some (c,none)
theorem afy (c:Int):codeF (po c)=c:=by unfold po;split<;>simp_all [codeF]
theorem NY (c:Int):aab (po c) = -1:=by unfold po;split<;>simp [aab]
theorem Mw (G:ao) (hG:mf G) (c:Int):aw Tryz.prog G 16 [Z5 (po c),ab c] (.v (.bool true)):=by
 have h:=Mo G hG (po c);rw [show ch (po c) = .agg [ab c,ab (-1)] by rw [ch,afy,NY]] at h;refine aw.aD (ZZ _) Tryz.func16 rfl rfl (rs:=[.tmp 4]) Tryz.results16 (by simp [Tryz.ntmps16]) fun X=>?_;simp only [Tryz.ntmps16,List.map];refine aq [0,1] [] ?_;refine rg [4] [] (fun _ _=>trivial) fun K' af=>?_;(repeat (refine Z0 fun K2 aa=>?_;simp [ab];(repeat (refine ⟨by omega,?_⟩));refine aa _ ?_;clear aa K2));refine Z0 fun K2 aa=>?_;simp [ab];refine aap.data (xx G c) (by simp;rfl) (by first | exact D.bn _ | simp [aB,List.map_map,Function.comp_def,D.le,D.le.go,D.le_refl,D.bn,ab]) ?_;refine aa _ ?_;clear aa K2;simp only [Z2,dk];(repeat (refine Z0 fun K2 aa=>?_;simp [ab];(repeat (refine ⟨by omega,?_⟩));refine aa _ ?_;clear aa K2));refine Z0 fun K2 aa=>?_;simp [ab];refine aap.data (h) (by simp;rfl) (by first | exact D.bn _ | simp [aB,List.map_map,Function.comp_def,D.le,D.le.go,D.le_refl,D.bn,ab]) ?_;refine aa _ ?_;clear aa K2;simp only [Z2,dk];(repeat (refine Z0 fun K2 aa=>?_;simp [ab];(repeat (refine ⟨by omega,?_⟩));refine aa _ ?_;clear aa K2));refine Z9 (af _ (AW.st (by simp [ab];rfl) ?_));clear af K';exact gm
inductive Fm where
 | nil
 | mk (kind:Int) (name:List UInt8) (of:List Fm)
def UL {α:Type} (l:List α):Option Bool:=match l with
 | []=>some false
 | _=>none
mutual
def dF:Fm->D
 | .nil=>.v (.pointer none)
 | .mk k s l=>.ip [ab k,dS s,.sl (UL l) (F3 l)]
def F3:List Fm->List (List D)
 | []=>[]
 | f :: l=>[dF f] :: F3 l
end
def uy.n (t:uy):Nat:=t.next.length
end Go.Proofs.YtdigkhaofjmgkaaGreatDoor
namespace Go.Proofs.YtdigkhaofjmgkaaGreatDoor
theorem Rg {α:Type} {p:α->Bool} {l:List α} (h:idx p l < 0):∀ x∈l,p x=false:=by
 unfold idx at h;split at h
 .omega
 .rename_i hn;rw [List.findIdx?_eq_none_iff] at hn;intro x hx;simpa using hn x hx
theorem oS {α:Type} {p:α->Bool} {l:List α} (h:¬ idx p l < 0):∃ k,∃ hk:k < l.length,idx p l=(k:Int)/\p l[k]=true:=by
 unfold idx at h ⊢;split
 .rename_i i hi;rw [List.findIdx?_eq_some_iff_getElem] at hi;obtain ⟨h1,h2,_⟩:=hi;exact ⟨i,h1,rfl,h2⟩
 .rename_i hn;simp [hn] at h
def dn (L:List (List Int)) (n:Nat):Nat:=(UH L n).1.length
def nx (t:uy) (s c:Nat):Nat:=((t.next.getD s []).getD c 0).toNat
def te (t:uy) (s c:Nat):Int:=(t.Xk.getD s []).getD c 0
def wd (t:uy):Nat:=(t.next.getD 0 []).length
open Go.Av
def pre (l row:List Int) (i:Nat):List Int:=(row.take i).map fun x=>l.getD x.toNat 0
theorem wK {l:List UInt8} {i:Nat} (h:mN l i=true) (hi:i < l.length) (hc:okC i l[i]=true):mN l (i+1)=true:=by
 unfold mN at h ⊢;rw [List.range_succ,List.all_append,h];simp only [List.all_cons,List.all_nil,Bool.and_true,Bool.true_and];rw [List.getD_eq_getElem?_getD,List.getElem?_eq_getElem hi];exact hc
theorem tJ {l:List UInt8} {i:Nat} (hi:i < l.length) (hc:okC i l[i]=false):ml l=false:=by
 have:mN l l.length=false:=by
  unfold mN;rw [List.all_eq_false];refine ⟨i,List.mem_range.2 hi,?_⟩;rw [List.getD_eq_getElem?_getD,List.getElem?_eq_getElem hi];simp [hc]
 unfold ml;rw [this];rfl
theorem nM {l:List UInt8} (h:(([] :: iR).any fun x=>l == x)=true):ml l=false:=by
 unfold ml;rw [h];simp
theorem XZ {l:List UInt8} (h:mN l l.length=true) (hw:(([] :: iR).any fun x=>l == x)=false):decide ((l.length:Int)<=8)=ml l:=by
 unfold ml;rw [h,hw];simp only [Bool.not_false,Bool.true_and];by_cases h8:l.length<=8
 .simp [h8];omega
 .simp [h8];omega
theorem dL (l:List UInt8):(⟨l.toArray⟩:ByteArray)=bs l:=rfl
set_option maxHeartbeats 8000000 in
theorem ae8 (G:ao) (l:List UInt8) (hl:l.length < 2^60):aw Tryz.prog G 163 [dS l] (.v (.bool (ml l))):=by
 refine aw.aD (ZZ _) Tryz.func163 rfl rfl (rs:=[.tmp 2]) Tryz.results163 (by simp [Tryz.ntmps163]) fun X=>?_;simp only [Tryz.ntmps163,List.map];refine ZW @dS.eq_1 [0] [] ?_;refine ae fun K1 ay=>?_;have qf:=@bh;refine al [0,7,8] [] ?_;refine aam (S:=Nat) (fun i=>i<=l.length/\mN l i=true) (fun i=>⟨aX [(0,.d (dS l)),(7,int l.length),(8,int i)],ZX []⟩) (fun i=>l.length - i) 0 ?_ (by simp [mN]) ?_
 .refine aU @dS.eq_1
 .rintro i ⟨Hh,hok⟩;refine ZW @dS.eq_1 [0,7,8,9] [] ?_;refine ae fun K2 aa=>?_;refine dG (b:=i < l.length) (by simp [D.le,D.le.go,aB]) (fun hc=>?_) (fun hc=>?_)
  .have hi:i < l.length:=hc;refine ah (aa _ ?_);refine ae fun K3 aQ=>?_;refine aR ?_;refine aq [0,3,7,8] [] ?_;have qf:=(Aq @bh (Aq @aao @hi));refine al [0,3,4,7,8] [] ?_;by_cases ha:(97:Int)<=(l[i].toNat:Int)
   .by_cases hb:(l[i].toNat:Int)<=122
    .have qf:=(Aq @ha @hb);refine al [0,3,4,5,7,8] [] ?_;have qf:=(Aq @ha @hb);refine al [0,7,8,38] [] ?_;refine ag rfl ?_;refine ah (aQ _ ?_);refine cI ?_;(try simp only [aM,aP]);refine aV.mk (i+1) ⟨by omega,wK hok hi (by simp only [okC,j4,kW,Bool.or_eq_true,Bool.and_eq_true,decide_eq_true_eq];omega)⟩ (by omega) ?_;refine aU @dS.eq_1
    .by_cases hz:(i:Int)=0
     .have gY:i=0:=by omega
      subst gY;have qf:=(Aq @ha @hb);refine al [0,3,4,5,7,8] [] ?_;have qf:=(Aq @ha @hb);refine al [0,7,8,38] [] ?_;refine ak rfl ?_;refine aq [2] [] ?_;refine bk ?_;simp [D.le,D.le.go,aB];exact tJ hi (by simp only [okC,j4,kW,Bool.or_eq_false_iff,Bool.and_eq_false_iff,decide_eq_false_iff_not];omega)
     .have gY:¬ i=0:=by omega
      by_cases hd:(48:Int)<=(l[i].toNat:Int)
      .by_cases he:(l[i].toNat:Int)<=57
       .have qf:=(Aq @ha (Aq @hb (Aq @hz (Aq @gY (Aq @hd @he)))));refine al [0,3,4,5,7,8] [] ?_;have qf:=(Aq @ha (Aq @hb (Aq @hz (Aq @gY (Aq @hd @he)))));refine al [0,7,8,38] [] ?_;refine ag rfl ?_;refine ah (aQ _ ?_);refine cI ?_;(try simp only [aM,aP]);refine aV.mk (i+1) ⟨by omega,wK hok hi (by simp only [okC,j4,kW,Bool.or_eq_true,Bool.and_eq_true,decide_eq_true_eq];omega)⟩ (by omega) ?_;refine aU @dS.eq_1
       .by_cases hu:(l[i].toNat:Int)=95
        .have qf:=(Aq @ha (Aq @hb (Aq @hz (Aq @gY (Aq @hd (Aq @he @hu))))));refine al [0,3,4,5,7,8] [] ?_;have qf:=(Aq @ha (Aq @hb (Aq @hz (Aq @gY (Aq @hd (Aq @he @hu))))));refine al [0,7,8,38] [] ?_;refine ag rfl ?_;refine ah (aQ _ ?_);refine cI ?_;(try simp only [aM,aP]);refine aV.mk (i+1) ⟨by omega,wK hok hi (by simp only [okC,j4,kW,Bool.or_eq_true,Bool.and_eq_true,decide_eq_true_eq];omega)⟩ (by omega) ?_;refine aU @dS.eq_1
        .have qf:=(Aq @ha (Aq @hb (Aq @hz (Aq @gY (Aq @hd (Aq @he @hu))))));refine al [0,3,4,5,7,8] [] ?_;have qf:=(Aq @ha (Aq @hb (Aq @hz (Aq @gY (Aq @hd (Aq @he @hu))))));refine al [0,7,8,38] [] ?_;refine ak rfl ?_;refine aq [2] [] ?_;refine bk ?_;simp [D.le,D.le.go,aB];exact tJ hi (by simp only [okC,j4,kW,Bool.or_eq_false_iff,Bool.and_eq_false_iff,decide_eq_false_iff_not];omega)
      .have hu:¬ (l[i].toNat:Int)=95:=by omega
       have qf:=(Aq @ha (Aq @hb (Aq @hz (Aq @gY (Aq @hd @hu)))));refine al [0,3,4,5,7,8] [] ?_;have qf:=(Aq @ha (Aq @hb (Aq @hz (Aq @gY (Aq @hd @hu)))));refine al [0,7,8,38] [] ?_;refine ak rfl ?_;refine aq [2] [] ?_;refine bk ?_;simp [D.le,D.le.go,aB];exact tJ hi (by simp only [okC,j4,kW,Bool.or_eq_false_iff,Bool.and_eq_false_iff,decide_eq_false_iff_not];omega)
   .by_cases hz:(i:Int)=0
    .have gY:i=0:=by omega
     subst gY;have qf:=@ha;refine al [0,3,4,5,7,8] [] ?_;have qf:=@ha;refine al [0,7,8,38] [] ?_;refine ak rfl ?_;refine aq [2] [] ?_;refine bk ?_;simp [D.le,D.le.go,aB];exact tJ hi (by simp only [okC,j4,kW,Bool.or_eq_false_iff,Bool.and_eq_false_iff,decide_eq_false_iff_not];omega)
    .have gY:¬ i=0:=by omega
     by_cases hd:(48:Int)<=(l[i].toNat:Int)
     .by_cases he:(l[i].toNat:Int)<=57
      .have qf:=(Aq @ha (Aq @hz (Aq @gY (Aq @hd @he))));refine al [0,3,4,5,7,8] [] ?_;have qf:=(Aq @ha (Aq @hz (Aq @gY (Aq @hd @he))));refine al [0,7,8,38] [] ?_;refine ag rfl ?_;refine ah (aQ _ ?_);refine cI ?_;(try simp only [aM,aP]);refine aV.mk (i+1) ⟨by omega,wK hok hi (by simp only [okC,j4,kW,Bool.or_eq_true,Bool.and_eq_true,decide_eq_true_eq];omega)⟩ (by omega) ?_;refine aU @dS.eq_1
      .by_cases hu:(l[i].toNat:Int)=95
       .have qf:=(Aq @ha (Aq @hz (Aq @gY (Aq @hd (Aq @he @hu)))));refine al [0,3,4,5,7,8] [] ?_;have qf:=(Aq @ha (Aq @hz (Aq @gY (Aq @hd (Aq @he @hu)))));refine al [0,7,8,38] [] ?_;refine ag rfl ?_;refine ah (aQ _ ?_);refine cI ?_;(try simp only [aM,aP]);refine aV.mk (i+1) ⟨by omega,wK hok hi (by simp only [okC,j4,kW,Bool.or_eq_true,Bool.and_eq_true,decide_eq_true_eq];omega)⟩ (by omega) ?_;refine aU @dS.eq_1
       .have qf:=(Aq @ha (Aq @hz (Aq @gY (Aq @hd (Aq @he @hu)))));refine al [0,3,4,5,7,8] [] ?_;have qf:=(Aq @ha (Aq @hz (Aq @gY (Aq @hd (Aq @he @hu)))));refine al [0,7,8,38] [] ?_;refine ak rfl ?_;refine aq [2] [] ?_;refine bk ?_;simp [D.le,D.le.go,aB];exact tJ hi (by simp only [okC,j4,kW,Bool.or_eq_false_iff,Bool.and_eq_false_iff,decide_eq_false_iff_not];omega)
     .have hu:¬ (l[i].toNat:Int)=95:=by omega
      have qf:=(Aq @ha (Aq @hz (Aq @gY (Aq @hd @hu))));refine al [0,3,4,5,7,8] [] ?_;have qf:=(Aq @ha (Aq @hz (Aq @gY (Aq @hd @hu))));refine al [0,7,8,38] [] ?_;refine ak rfl ?_;refine aq [2] [] ?_;refine bk ?_;simp [D.le,D.le.go,aB];exact tJ hi (by simp only [okC,j4,kW,Bool.or_eq_false_iff,Bool.and_eq_false_iff,decide_eq_false_iff_not];omega)
  .have cQ:i=l.length:=by omega
   subst cQ;refine bH (ay _ ?_);refine ae fun K4 bN=>?_;refine aq [0,40] [] ?_;refine aR ?_;refine ae fun K5 hK5=>?_;by_cases lr:l=[]
   .refine rg [0,40,41] [] (fun _ _=>trivial) fun K' af=>?_;(repeat (refine Z0 fun K2 aa=>?_;simp [bo,aT,aN,dS,dL,lr];(repeat (refine ⟨by omega,?_⟩));refine aa _ ?_;clear aa K2));refine Z9 (af _ (AW.st (by simp [bo,aT,aN,dS,dL,lr];rfl) ?_));clear af K';refine ak rfl ?_;refine ah (hK5 _ ?_);refine ak rfl ?_;refine aq [2] [] ?_;refine bk ?_;simp [D.le,D.le.go,aB];exact nM (by simp [lr,iR])
   have pP:l.isEmpty=false:=by simpa using lr
   refine rg [0,40,41] [] (fun _ _=>trivial) fun K' af=>?_;(repeat (refine Z0 fun K2 aa=>?_;simp [bo,aT,aN,dS,dL,lr,pP];(repeat (refine ⟨by omega,?_⟩));refine aa _ ?_;clear aa K2));refine Z9 (af _ (AW.st (by simp [bo,aT,aN,dS,dL,lr,pP];rfl) ?_));clear af K';refine ag rfl ?_;by_cases gx:l=[105,110,112,117,116]
   .refine rg [0,40,41] [] (fun _ _=>trivial) fun K' af=>?_;(repeat (refine Z0 fun K2 aa=>?_;simp [bo,aT,aN,dS,dL,gx];(repeat (refine ⟨by omega,?_⟩));refine aa _ ?_;clear aa K2));refine Z9 (af _ (AW.st (by simp [bo,aT,aN,dS,dL,gx];rfl) ?_));clear af K';refine ak rfl ?_;refine ah (hK5 _ ?_);refine ak rfl ?_;refine aq [2] [] ?_;refine bk ?_;simp [D.le,D.le.go,aB];exact nM (by simp [gx,iR])
   have yR:(l == [105,110,112,117,116])=false:=by simpa using gx
   refine rg [0,40,41] [] (fun _ _=>trivial) fun K' af=>?_;(repeat (refine Z0 fun K2 aa=>?_;simp [bo,aT,aN,dS,dL,gx,yR];(repeat (refine ⟨by omega,?_⟩));refine aa _ ?_;clear aa K2));refine Z9 (af _ (AW.st (by simp [bo,aT,aN,dS,dL,gx,yR];rfl) ?_));clear af K';refine ag rfl ?_;by_cases lY:l=[99,111,105,108]
   .refine rg [0,40,41] [] (fun _ _=>trivial) fun K' af=>?_;(repeat (refine Z0 fun K2 aa=>?_;simp [bo,aT,aN,dS,dL,lY];(repeat (refine ⟨by omega,?_⟩));refine aa _ ?_;clear aa K2));refine Z9 (af _ (AW.st (by simp [bo,aT,aN,dS,dL,lY];rfl) ?_));clear af K';refine ak rfl ?_;refine ah (hK5 _ ?_);refine ak rfl ?_;refine aq [2] [] ?_;refine bk ?_;simp [D.le,D.le.go,aB];exact nM (by simp [lY,iR])
   have jZ:(l == [99,111,105,108])=false:=by simpa using lY
   refine rg [0,40,41] [] (fun _ _=>trivial) fun K' af=>?_;(repeat (refine Z0 fun K2 aa=>?_;simp [bo,aT,aN,dS,dL,lY,jZ];(repeat (refine ⟨by omega,?_⟩));refine aa _ ?_;clear aa K2));refine Z9 (af _ (AW.st (by simp [bo,aT,aN,dS,dL,lY,jZ];rfl) ?_));clear af K';refine ag rfl ?_;by_cases hw3:l=[116,105,109,101,114]
   .refine rg [0,40,41] [] (fun _ _=>trivial) fun K' af=>?_;(repeat (refine Z0 fun K2 aa=>?_;simp [bo,aT,aN,dS,dL,hw3];(repeat (refine ⟨by omega,?_⟩));refine aa _ ?_;clear aa K2));refine Z9 (af _ (AW.st (by simp [bo,aT,aN,dS,dL,hw3];rfl) ?_));clear af K';refine ak rfl ?_;refine ah (hK5 _ ?_);refine ak rfl ?_;refine aq [2] [] ?_;refine bk ?_;simp [D.le,D.le.go,aB];exact nM (by simp [hw3,iR])
   have HP:(l == [116,105,109,101,114])=false:=by simpa using hw3
   refine rg [0,40,41] [] (fun _ _=>trivial) fun K' af=>?_;(repeat (refine Z0 fun K2 aa=>?_;simp [bo,aT,aN,dS,dL,hw3,HP];(repeat (refine ⟨by omega,?_⟩));refine aa _ ?_;clear aa K2));refine Z9 (af _ (AW.st (by simp [bo,aT,aN,dS,dL,hw3,HP];rfl) ?_));clear af K';refine ag rfl ?_;by_cases rp:l=[99,111,117,110,116,101,114]
   .refine rg [0,40,41] [] (fun _ _=>trivial) fun K' af=>?_;(repeat (refine Z0 fun K2 aa=>?_;simp [bo,aT,aN,dS,dL,rp];(repeat (refine ⟨by omega,?_⟩));refine aa _ ?_;clear aa K2));refine Z9 (af _ (AW.st (by simp [bo,aT,aN,dS,dL,rp];rfl) ?_));clear af K';refine ak rfl ?_;refine ah (hK5 _ ?_);refine ak rfl ?_;refine aq [2] [] ?_;refine bk ?_;simp [D.le,D.le.go,aB];exact nM (by simp [rp,iR])
   have HQ:(l == [99,111,117,110,116,101,114])=false:=by simpa using rp
   refine rg [0,40,41] [] (fun _ _=>trivial) fun K' af=>?_;(repeat (refine Z0 fun K2 aa=>?_;simp [bo,aT,aN,dS,dL,rp,HQ];(repeat (refine ⟨by omega,?_⟩));refine aa _ ?_;clear aa K2));refine Z9 (af _ (AW.st (by simp [bo,aT,aN,dS,dL,rp,HQ];rfl) ?_));clear af K';refine ag rfl ?_;by_cases rq:l=[115,101,116]
   .refine rg [0,40,41] [] (fun _ _=>trivial) fun K' af=>?_;(repeat (refine Z0 fun K2 aa=>?_;simp [bo,aT,aN,dS,dL,rq];(repeat (refine ⟨by omega,?_⟩));refine aa _ ?_;clear aa K2));refine Z9 (af _ (AW.st (by simp [bo,aT,aN,dS,dL,rq];rfl) ?_));clear af K';refine ak rfl ?_;refine ah (hK5 _ ?_);refine ak rfl ?_;refine aq [2] [] ?_;refine bk ?_;simp [D.le,D.le.go,aB];exact nM (by simp [rq,iR])
   have HR:(l == [115,101,116])=false:=by simpa using rq
   refine rg [0,40,41] [] (fun _ _=>trivial) fun K' af=>?_;(repeat (refine Z0 fun K2 aa=>?_;simp [bo,aT,aN,dS,dL,rq,HR];(repeat (refine ⟨by omega,?_⟩));refine aa _ ?_;clear aa K2));refine Z9 (af _ (AW.st (by simp [bo,aT,aN,dS,dL,rq,HR];rfl) ?_));clear af K';refine ag rfl ?_;by_cases rr:l=[114,101,115,101,116]
   .refine rg [0,40,41] [] (fun _ _=>trivial) fun K' af=>?_;(repeat (refine Z0 fun K2 aa=>?_;simp [bo,aT,aN,dS,dL,rr];(repeat (refine ⟨by omega,?_⟩));refine aa _ ?_;clear aa K2));refine Z9 (af _ (AW.st (by simp [bo,aT,aN,dS,dL,rr];rfl) ?_));clear af K';refine ak rfl ?_;refine ah (hK5 _ ?_);refine ak rfl ?_;refine aq [2] [] ?_;refine bk ?_;simp [D.le,D.le.go,aB];exact nM (by simp [rr,iR])
   have HS:(l == [114,101,115,101,116])=false:=by simpa using rr
   refine rg [0,40,41] [] (fun _ _=>trivial) fun K' af=>?_;(repeat (refine Z0 fun K2 aa=>?_;simp [bo,aT,aN,dS,dL,rr,HS];(repeat (refine ⟨by omega,?_⟩));refine aa _ ?_;clear aa K2));refine Z9 (af _ (AW.st (by simp [bo,aT,aN,dS,dL,rr,HS];rfl) ?_));clear af K';refine ag rfl ?_;by_cases ru:l=[114,117,110]
   .refine rg [0,40,41] [] (fun _ _=>trivial) fun K' af=>?_;(repeat (refine Z0 fun K2 aa=>?_;simp [bo,aT,aN,dS,dL,ru];(repeat (refine ⟨by omega,?_⟩));refine aa _ ?_;clear aa K2));refine Z9 (af _ (AW.st (by simp [bo,aT,aN,dS,dL,ru];rfl) ?_));clear af K';refine ak rfl ?_;refine ah (hK5 _ ?_);refine ak rfl ?_;refine aq [2] [] ?_;refine bk ?_;simp [D.le,D.le.go,aB];exact nM (by simp [ru,iR])
   have HT:(l == [114,117,110])=false:=by simpa using ru
   refine rg [0,40,41] [] (fun _ _=>trivial) fun K' af=>?_;(repeat (refine Z0 fun K2 aa=>?_;simp [bo,aT,aN,dS,dL,ru,HT];(repeat (refine ⟨by omega,?_⟩));refine aa _ ?_;clear aa K2));refine Z9 (af _ (AW.st (by simp [bo,aT,aN,dS,dL,ru,HT];rfl) ?_));clear af K';refine ag rfl ?_;by_cases rv:l=[99,111,117,110,116]
   .refine rg [0,40,41] [] (fun _ _=>trivial) fun K' af=>?_;(repeat (refine Z0 fun K2 aa=>?_;simp [bo,aT,aN,dS,dL,rv];(repeat (refine ⟨by omega,?_⟩));refine aa _ ?_;clear aa K2));refine Z9 (af _ (AW.st (by simp [bo,aT,aN,dS,dL,rv];rfl) ?_));clear af K';refine ak rfl ?_;refine ah (hK5 _ ?_);refine ak rfl ?_;refine aq [2] [] ?_;refine bk ?_;simp [D.le,D.le.go,aB];exact nM (by simp [rv,iR])
   have hx8:(l == [99,111,117,110,116])=false:=by simpa using rv
   refine rg [0,40,41] [] (fun _ _=>trivial) fun K' af=>?_;(repeat (refine Z0 fun K2 aa=>?_;simp [bo,aT,aN,dS,dL,rv,hx8];(repeat (refine ⟨by omega,?_⟩));refine aa _ ?_;clear aa K2));refine Z9 (af _ (AW.st (by simp [bo,aT,aN,dS,dL,rv,hx8];rfl) ?_));clear af K';refine ag rfl ?_;by_cases ry:l=[122,101,114,111]
   .refine aaG (ZZ _) fun K' af=>?_;(repeat (refine Z0 fun K2 aa=>?_;simp [bo,aT,aN,dS,dL,ry];(repeat (refine ⟨by omega,?_⟩));refine aa _ ?_;clear aa K2));refine Z9 (af _ ?_);clear af K';refine hK5 _ (AW.norm [0,41] [] (fun _ _=>trivial) (AW.st (by simp [bo,aT,aN,dS,dL,ry];rfl) ?_));refine ak rfl ?_;refine aq [2] [] ?_;refine bk ?_;simp [D.le,D.le.go,aB];exact nM (by simp [ry,iR])
   have hx9:(l == [122,101,114,111])=false:=by simpa using ry
   refine aaG (ZZ _) fun K' af=>?_;(repeat (refine Z0 fun K2 aa=>?_;simp [bo,aT,aN,dS,dL,ry,hx9];(repeat (refine ⟨by omega,?_⟩));refine aa _ ?_;clear aa K2));refine Z9 (af _ ?_);clear af K';refine hK5 _ (AW.norm [0,41] [] (fun _ _=>trivial) (AW.st (by simp [bo,aT,aN,dS,dL,ry,hx9];rfl) ?_));refine ag rfl ?_;refine ah (bN _ ?_);have qf:=(Aq @dS.eq_1 @bh);refine al [2] [] ?_;refine bk ?_;simp [D.le,D.le.go,aB];exact XZ hok (by simp [iR,lr,gx,lY,hw3,rp,rq,rr,ru,rv,ry])
def tr:Fm:=.mk 2 [] []
def AR (n:Int) (many:Nat):Nat:=((n % 18446744073709551616) % many).toNat
structure LK where
 kind:Int
 a:Int
 b:Int
 name:List UInt8
def EI (all:List Fm) (x:LK):Fm:=
 if x.kind=2 then .mk 2 [] []
 else if x.kind=3\/x.kind=6\/x.kind=9\/x.kind=10 then .mk x.kind [] [all.getD (AR x.a all.length) .nil]
 else if x.kind=4\/x.kind=5\/x.kind=7\/x.kind=8 then .mk x.kind [] [all.getD (AR x.a all.length) .nil,all.getD (AR x.b all.length) .nil]
 else .mk 1 x.name []
def Fk (f:Fm):Prop:=∃ k s l,f = .mk k s l
theorem Fk.ip {f:Fm} (h:Fk f):∃ c,dF f = .ip c:=by
 obtain ⟨k,s,l,rfl⟩:=h;exact ⟨_,rfl⟩
abbrev LL:=List (List (List UInt8))
end Go.Proofs.YtdigkhaofjmgkaaGreatDoor
namespace Go.Proofs.YtdigkhaofjmgkaaGreatDoor
section
variable (f g:Fm)
def pZ:Fm:=.mk 3 [] [f]
end
section
variable (a r:LL) (hr:0 < r.length) (f g:Fm)
include hr
end
end Go.Proofs.YtdigkhaofjmgkaaGreatDoor
