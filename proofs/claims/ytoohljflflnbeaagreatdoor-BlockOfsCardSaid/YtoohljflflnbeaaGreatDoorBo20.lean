/- Parts. -/
import Derived.Test.YtoohljflflnbeaaGreatDoorBo18
import Derived.Test.YtoohljflflnbeaaGreatDoorBo19
import Derived.RegionTactic
import Derived.ChangeAlike
set_option linter.unusedSimpArgs false
set_option linter.unusedVariables false
set_option maxHeartbeats 8000000
open Go.Proofs.Tryz
namespace Go.Proofs.YtoohljflflnbeaaGreatDoor
open Go.RowKit Go.Extern.Stop Go.Stop Go.Extern
open Go.Av
theorem aej (v:Value) (xT:TypeId) (w:World):(Instr.typeAssert (.iface 50 v) xT 269 true).run prog w = .ok (.tuple #[.pointer none,.bool false]) w:=ah
theorem aei (v:Value) (xT:TypeId) (w:World):(Instr.typeAssert (.iface 269 v) xT 269 true).run prog w = .ok (.tuple #[v,.bool true]) w:=ah
theorem aek (v:Value) (xT:TypeId) (w:World):(Instr.typeAssert (.iface 50 v) xT 276 true).run prog w = .ok (.tuple #[.nilIface,.bool false]) w:=run_typeAssert_lacksB underlying276 ah ah v xT w
theorem acp (w:World):Calls prog 93 #[.nilIface] w fun e w'=>e = .returned (.tuple #[.int .i64 0,.int .i64 (-1)])/\cR w w':=by
 go_enter func93,ntmps93
 go_wp2_with (go_at_call 52;refine (R6 _).mono ?_;rintro e w' ⟨rfl,rfl⟩)
 refine wp_loop_rounds 1 ?_;rw[rounds_succ]
 go_wp2
 go_ret2
 exact⟨rfl,cR.refl _⟩
theorem aco (n:Int) (w:World) (hg:w.cell? ⟨4,0,none⟩=some pW):Calls prog 93 #[.iface 50 (.int .i64 n)] w fun e w'=>e = .returned (.tuple #[.int .i64 n,.int .i64 (-1)])/\cR w w':=by
 have t1:=aej;have t2:=aek
 go_enter func93,ntmps93
 go_wp2_with (go_at_call 52;refine (R5 n _ hg).mono ?_;rintro e w' ⟨rfl,fC⟩)
 refine wp_loop_rounds 1 ?_;rw[rounds_succ]
 go_wp2
 go_ret2
 exact⟨rfl,fC⟩
theorem acn (n s:Int) (b o:Nat) (w:World) (hg:w.cell? ⟨4,0,none⟩=some pW) (ha:w.cell? ⟨b,o,none⟩=some (.int .i64 n)) (hs:w.cell? ⟨b,o+1,none⟩=some (.int .i64 s)) :
  Calls prog 93 #[.iface 269 (.pointer (some ⟨b,o,none⟩))] w fun e w'=>e = .returned (.tuple #[.int .i64 n,.int .i64 s])/\cR w w':=by
 have t1:=aei
 go_enter func93,ntmps93
 go_wp2_with (go_at_call 52;refine (R4 n _ _ hg ha).mono ?_;rintro e w' ⟨rfl,fC⟩)
 have p5:w'.cell? ⟨b,o+1,none⟩=some (.int .i64 s):=by rw[World.cell?_of_block (w:=w) (fC.same b (wc hs))];exact hs
 refine wp_loop_rounds 1 ?_;rw[rounds_succ]
 go_wp2
 go_region
 all_goals (go_wp2;go_ret2;exact⟨rfl,fC.size,fC.os,fC.tape,fC.output,fC.same⟩)
theorem acq (G:aC) (hG:qm G) (e:Option (Int×Option Nat)):aD prog G 93 [bB e] (.bx [.v (.int .i64 (codeF e)),.v (.int .i64 (b7 e))]):=by
 refine aD.rJ (gS.of func93 rfl rfl) fun X w vs bg cf dz=>?_;have hg:=hG.cell dz;obtain⟨v,rfl⟩:∃ v,vs = #[v]:=Array.size_eq_one_iff.1 bg;have hv:=cf 0 v _ rfl rfl
 have two:∀ (w':World) (a b:Int),RD w' X (.tuple #[.int .i64 a,.int .i64 b]) (.bx [.v (.int .i64 a),.v (.int .i64 b)]):=fun w' a b=>.bx rfl fun j u c hu hc=>by
  match j,hu,hc with
  | 0,hu,hc=>simp at hu hc;subst hu hc;exact .v _
  | 1,hu,hc=>simp at hu hc;subst hu hc;exact .v _
  | j+2,hu,hc=>simp at hu
 match e,hv with
 | none,hv=>
  have:=hv.scalar;subst this;exact (acp w).mono fun e w' ⟨he,hw⟩=>⟨_,he,hw,two _ _ _⟩
 | some (c,none),hv=>
  obtain⟨u,rfl,hu⟩:=hv.sj;have:=hu.scalar;subst this;exact (aco c w hg).mono fun e w' ⟨he,hw⟩=>⟨_,he,hw,two _ _ _⟩
 | some (c,some s),hv=>
  obtain⟨u,rfl,hu⟩:=hv.sj;obtain⟨b,off,f,rfl,_,_,hc,hr⟩:=hu.qK;have h1:=hc 0 ak;have h2:=(hr 0 _ rfl).scalar;rw[h2]at h1;have h3:=hc 1 ak;have h4:=(hr 1 _ rfl).scalar;rw[h4]at h3;exact (acn c s b off w hg h1 h3).mono fun e w' ⟨he,hw⟩=>⟨_,he,hw,two _ _ _⟩
end Go.Proofs.YtoohljflflnbeaaGreatDoor
namespace Go.Proofs.YtoohljflflnbeaaGreatDoor
open Go.Av
def dw (e:Option (Int×Option Nat)):D:=.agg [ab (codeF e),ab (b7 e)]
def uD (G:aC):Prop:=G 0=some (.ip [ab 0,ab (-1)])
theorem Dj (G:aC) (c:Int):aD prog G 91 [ab c] (.agg [ab c,ab (-1)]):=by
 refine aD.aQ (aB _) func91 rfl rfl (rs:=[.cell 2 52]) results91 (by simp[ntmps91]) fun X=>?_;simp only[ntmps91,List.map];refine ae @aih [0,2] [2] ?_;refine ae @aih [2] [2] ?_;exact aW @aih
theorem KU (G:aC) (n lo hi:Int):aD prog G 90 [ab n,ab lo,ab hi] (.v (.bool (decide (lo<=n) && decide (n<=hi)))):=by
 refine aD.aQ (aB _) func90 rfl rfl (rs:=[.tmp 6]) results90 (by simp[ntmps90]) fun X=>?_;simp only[ntmps90,List.map];refine ae @aih [0,1,2] [] ?_;by_cases h1:lo<=n
 .have qf:=@h1;refine ay [6] [] ?_;exact aW @h1
 .have qf:=@h1;refine ay [6] [] ?_;exact aW @h1
theorem abe (G:aC) (k k':Option Bool) (l l':List Int) (h:l.length < 2^63):aD prog G 32 [mh k l,mh k' l'] (.v (.bool (l == l'))):=by
 refine aD.aQ (aB _) func32 rfl rfl (rs:=[.tmp 4]) results32 (by simp[ntmps32]) fun X=>?_;simp only[ntmps32,List.map];refine aq [0,1] [] ?_;refine ag fun K1 aF=>ae @mh.eq_1 [0,1,10] [] ?_;refine eE (b:=l.length≠l'.length) (by simp[D.le,D.le.go,aL]) (fun hc=>?_) (fun hc=>?_)
 .refine aq [4] [] ?_;refine bR ?_;simp[D.le,D.le.go,aL];intro e;subst e;simp at hc
 .refine ar (aF _ ?_)
  have hl:l.length=l'.length:=by simpa using hc
  refine ag fun K2 au=>ae @mh.eq_1 [0,1,5] [] ?_;refine cy (S:=Nat) (fun n=>n<=l.length/\l.take n=l'.take n) (fun n=>⟨bn [(0,.d (mh k l)),(1,.d (mh k' l')),(5,int n)],aw []⟩) (fun n=>l.length - n) 0 ?_ ak ?_
  .refine bq @mh.eq_1
  .rintro n ⟨hn,ht⟩;refine ag fun K3 aU=>ae @mh.eq_1 [0,1,5,14] [] ?_;refine eE (b:=n < l.length) (by simp[D.le,D.le.go,aL]) (fun hc=>?_) (fun hc=>?_)
   .refine ar (aU _ (ag fun K4 ck=>bd ?_))
    have po:n < l'.length:=aa
    have qf:=(Aq @mh.eq_1 (Aq @hc @po));refine iV [0,1,5,25] [] ?_;refine eE (b:=¬ l[n]=l'[n]) (by simp[D.le,D.le.go,aL]) (fun hc=>?_) (fun hc=>?_)
    .refine aq [4] [] ?_;refine bR ?_;simp[D.le,D.le.go,aL];intro e;subst e;simp at hc
    .refine ar (ck _ (c6 ?_));try simp only[aT,aV]
     have he:l[n]=l'[n]:=by simpa using hc
     refine ba.mk (n+1) ⟨aa,aeq ht aa po he⟩ aa ?_;refine bq @mh.eq_1
   .refine bW (au _ (aq [4] [] ?_));refine bR ?_;simp[D.le,D.le.go,aL]
    have qF:n=l.length:=aa
    subst qF;exact aep hl ht
theorem Pk (G:aC) (l l':List (List Int)) (h:l.length < 2^63) (hr:∀ r∈l,r.length < 2^63):aD prog G 46 [qv l,qv l'] (.v (.bool (l == l'))):=by
 refine aD.aQ (aB _) func46 rfl rfl (rs:=[.tmp 4]) results46 (by simp[ntmps46]) fun X=>?_;simp only[ntmps46,List.map];refine aq [0,1] [] ?_;refine ag fun K1 aF=>ae @qv.eq_1 [0,1,10] [] ?_;refine eE (b:=l.length≠l'.length) (by simp[D.le,D.le.go,aL]) (fun hc=>?_) (fun hc=>?_)
 .refine aq [4] [] ?_;refine bR ?_;simp[D.le,D.le.go,aL];intro e;subst e;simp at hc
 .refine ar (aF _ ?_)
  have hl:l.length=l'.length:=by simpa using hc
  refine ag fun K2 au=>ae @qv.eq_1 [0,1,5] [] ?_;refine cy (S:=Nat) (fun n=>n<=l.length/\l.take n=l'.take n) (fun n=>⟨bn [(0,.d (qv l)),(1,.d (qv l')),(5,int n)],aw []⟩) (fun n=>l.length - n) 0 ?_ ak ?_
  .refine bq @qv.eq_1
  .rintro n ⟨hn,ht⟩;refine ag fun K3 aU=>ae @qv.eq_1 [0,1,5,14] [] ?_;refine eE (b:=n < l.length) (by simp[D.le,D.le.go,aL]) (fun hc=>?_) (fun hc=>?_)
   .refine ar (aU _ (ag fun K4 ck=>bd ?_))
    have po:n < l'.length:=aa
    have qf:=(Aq @qv.eq_1 (Aq @hc @po));refine vB (abe G none none l[n] l'[n] (hr _ (OF hc))) [0,1,5,26] [] ?_;by_cases he:l[n]=l'[n]
    .refine cw (by simp[he]) (ar (ck _ ?_));refine c6 ?_;(try simp only[aT,aV]);refine ba.mk (n+1) ⟨aa,?_⟩ aa ?_
     .rw[agB hc,agB po,ht,he]
     refine bq @qv.eq_1
    .refine cm (by simp[he]) (aq [4] [] ?_);refine bR ?_;simp[D.le,D.le.go,aL];intro e;subst e;exact he rfl
   .refine bW (au _ (aq [4] [] ?_));refine bR ?_;simp[D.le,D.le.go,aL]
    have qF:n=l.length:=aa
    subst qF;rw[aho]at ht;rw[ht];exact (sh aa)
theorem Tv (G:aC) (hG:qm G) (e e':Option (Int×Option Nat)):aD prog G 22 [bB e,dw e'] (.v (.bool (decide (codeF e=codeF e') && decide (b7 e=b7 e')))):=by
 have hp:=acq G hG e;refine aD.aQ (aB _) func22 rfl rfl (rs:=[.tmp 4]) results22 (by simp[ntmps22]) fun X=>?_;simp only[ntmps22,List.map];refine ae @dw.eq_1 [0,3] [3] ?_;refine br trivial hp [3,5,6] [3] ?_;by_cases h1:codeF e=codeF e'
 .have qf:=(Aq @aih @h1);refine ay [4] [3] ?_;refine bR ?_;simp[D.le,D.le.go,aL,h1]
  try exact fun _=>h1
 .have qf:=(Aq @aih @h1);refine ay [4] [3] ?_;refine bR ?_;simp[D.le,D.le.go,aL,h1]
  try exact fun h=>absurd h h1
theorem Tu (G:aC) (hG:qm G) (e:Option (Int×Option Nat)):aD prog G 22 [bB e,dw e] (.v (.bool true)):=by
 have:=Tv G hG e e;simpa using this
def th (c:Int):Option (Int×Option Nat):=if c=0 then none else some (c,none)
theorem WC (c:Int):codeF (th c)=c:=by unfold th;split<;>simp_all [codeF]
theorem WD (c:Int):b7 (th c) = -1:=by unfold th;split<;>simp[b7]
theorem LH (G:aC) (hG:qm G) (c:Int):aD prog G 31 [bB (th c),ab c] (.v (.bool true)):=by
 have h:=Tu G hG (th c);rw[show dw (th c) = .agg [ab c,ab (-1)] by rw[dw,WC,WD]]at h;refine aD.aQ (aB _) func31 rfl rfl (rs:=[.tmp 4]) results31 (by simp[ntmps31]) fun X=>?_;simp only[ntmps31,List.map];refine aq [0,1] [] ?_;refine rg [4] [] aN fun K' ao=>?_;(repeat refine aM fun Kq af=>?_;simp[ab];(repeat refine⟨aa,?_⟩);refine af _ ?_);refine aM fun Kq af=>?_;simp[ab];refine dT.data (Dj G c) bA (by first | exact D.bJ _ | simp[aL,agF,agy,D.le,D.le.go,D.le_refl,D.bJ,ab]) ?_;refine af _ ?_;simp only[aR,dY];(repeat refine aM fun Kq af=>?_;simp[ab];(repeat refine⟨aa,?_⟩);refine af _ ?_);refine aM fun Kq af=>?_;simp[ab];refine dT.data (h) bA (by first | exact D.bJ _ | simp[aL,agF,agy,D.le,D.le.go,D.le_refl,D.bJ,ab]) ?_;refine af _ ?_;simp only[aR,dY];(repeat refine aM fun Kq af=>?_;simp[ab];(repeat refine⟨aa,?_⟩);refine af _ ?_);refine bK (ao _ (AW.st (by simp[ab];rfl) ?_));exact gw
inductive Fm where
 | nil
 | mk (kind:Int) (name:List UInt8) (of:List Fm)
def ofK {α:Type} (l:List α):Option Bool:=match l with
 | []=>some false
 | _=>none
mutual
def dF:Fm->D
 | .nil=>.v (.pointer none)
 | .mk k s l=>.ip [ab k,dS s,.sl (ofK l) (Mc l)]
def Mc:List Fm->List (List D)
 | []=>[]
 | f :: l=>[dF f] :: Mc l
end
end Go.Proofs.YtoohljflflnbeaaGreatDoor
namespace Go.Proofs.YtoohljflflnbeaaGreatDoor
theorem Z6 {α:Type} {p:α->Bool} {l:List α} (h:idx p l < 0):∀ x∈l,p x=false:=by
 unfold idx at h;split at h
 .omega
 .rename_i hn;rw[List.findIdx?_eq_none_iff]at hn;intro x hx;simpa using hn x hx
theorem uh {α:Type} {p:α->Bool} {l:List α} (h:¬ idx p l < 0):∃ k,∃ hk:k < l.length,idx p l=(k:Int)/\p l[k]=true:=by
 unfold idx at h ⊢;split
 .rename_i i hi;rw[ag6]at hi;obtain⟨h1,h2,_⟩:=hi;exact⟨i,h1,rfl,h2⟩
 .rename_i hn;simp[hn]at h
def dn (L:List (List Int)) (n:Nat):Nat:=(abR L n).1.length
def nx (t:Gj) (s c:Nat):Nat:=((t.next.getD s []).getD c 0).toNat
def te (t:Gj) (s c:Nat):Int:=(t.aes.getD s []).getD c 0
def wd (t:Gj):Nat:=(t.next.getD 0 []).length
open Go.Av
def pre (l row:List Int) (i:Nat):List Int:=(row.take i).map fun x=>l.getD x.toNat 0
theorem Cp {l:List UInt8} {i:Nat} (h:rK l i=true) (hi:i < l.length) (hc:fQ i l[i]=true):rK l (i+1)=true:=by
 unfold rK at h ⊢;rw[List.range_succ,List.all_append,h];simp only[List.all_cons,List.all_nil,Bool.and_true,Bool.true_and];rw[agw,By hi];exact hc
theorem zR {l:List UInt8} {i:Nat} (hi:i < l.length) (hc:fQ i l[i]=false):re l=false:=by
 have:rK l l.length=false:=by
  unfold rK;rw[List.all_eq_false];refine⟨i,ahC.2 hi,?_⟩;rw[agw,By hi];simp[hc]
 unfold re;rw[this];rfl
theorem sK {l:List UInt8} (h:(([] :: mf).any fun x=>l == x)=true):re l=false:=by
 unfold re;rw[h];simp
theorem ae8 {l:List UInt8} (h:rK l l.length=true) (hw:(([] :: mf).any fun x=>l == x)=false):decide ((l.length:Int)<=8)=re l:=by
 unfold re;rw[h,hw];simp only[ahw,Bool.true_and];by_cases h8:l.length<=8
 .simp[h8];omega
 .simp[h8];omega
theorem fG (l:List UInt8):(⟨l.toArray⟩:ByteArray)=bs l:=rfl
theorem PE (G:aC) (l:List UInt8) (hl:l.length < 2^60):aD prog G 227 [dS l] (.v (.bool (re l))):=by
 refine aD.aQ (aB _) func227 rfl rfl (rs:=[.tmp 2]) results227 (by simp[ntmps227]) fun X=>?_;simp only[ntmps227,List.map];refine ae @aii [0] [] ?_;refine ag fun K1 aF=>?_;have qf:=@bQ;refine ay [0,7,8] [] ?_;refine cy (S:=Nat) (fun i=>i<=l.length/\rK l i=true) (fun i=>⟨bn [(0,.d (dS l)),(7,int l.length),(8,int i)],aw []⟩) (fun i=>l.length - i) 0 ?_ (by simp[rK]) ?_
 .refine bq @aii
 .rintro i ⟨NH,cz⟩;refine ae @aii [0,7,8,9] [] ?_;refine ag fun K2 au=>eE (b:=i < l.length) (by simp[D.le,D.le.go,aL]) (fun hc=>?_) (fun hc=>?_)
  .have hi:i < l.length:=hc;refine ar (au _ (ag fun K3 aU=>bd (aq [0,3,7,8] [] ?_)));have qf:=(Aq @bQ (Aq @dk @hi));refine ay [0,3,4,7,8] [] ?_;by_cases ha:(97:Int)<=(l[i].toNat:Int)
   .by_cases hb:(l[i].toNat:Int)<=122
    .have qf:=(Aq @ha @hb);refine ay [0,3,4,5,7,8] [] ?_;have qf:=(Aq @ha @hb);refine ay [0,7,8,38] [] ?_;refine al (ar (aU _ ?_));refine c6 ?_;(try simp only[aT,aV]);refine ba.mk (i+1) ⟨aa,Cp cz hi (by simp only[fQ,n7,pG,ag9,abi,decide_eq_true_eq];omega)⟩ aa ?_;refine bq @aii
    .by_cases hz:(i:Int)=0
     .have kf:i=0:=aa
      subst kf;have qf:=(Aq @ha @hb);refine ay [0,3,4,5,7,8] [] ?_;have qf:=(Aq @ha @hb);refine ay [0,7,8,38] [] ?_;refine aI (aq [2] [] ?_);refine bR ?_;simp[D.le,D.le.go,aL];exact zR hi (by simp only[fQ,n7,pG,ahU,ahO,decide_eq_false_iff_not];omega)
     .have kf:¬ i=0:=aa
      by_cases hd:(48:Int)<=(l[i].toNat:Int)
      .by_cases he:(l[i].toNat:Int)<=57
       .have qf:=(Aq @ha (Aq @hb (Aq @hz (Aq @kf (Aq @hd @he)))));refine ay [0,3,4,5,7,8] [] ?_;have qf:=(Aq @ha (Aq @hb (Aq @hz (Aq @kf (Aq @hd @he)))));refine ay [0,7,8,38] [] ?_;refine al (ar (aU _ ?_));refine c6 ?_;(try simp only[aT,aV]);refine ba.mk (i+1) ⟨aa,Cp cz hi (by simp only[fQ,n7,pG,ag9,abi,decide_eq_true_eq];omega)⟩ aa ?_;refine bq @aii
       .by_cases hu:(l[i].toNat:Int)=95
        .have qf:=(Aq @ha (Aq @hb (Aq @hz (Aq @kf (Aq @hd (Aq @he @hu))))));refine ay [0,3,4,5,7,8] [] ?_;have qf:=(Aq @ha (Aq @hb (Aq @hz (Aq @kf (Aq @hd (Aq @he @hu))))));refine ay [0,7,8,38] [] ?_;refine al (ar (aU _ ?_));refine c6 ?_;(try simp only[aT,aV]);refine ba.mk (i+1) ⟨aa,Cp cz hi (by simp only[fQ,n7,pG,ag9,abi,decide_eq_true_eq];omega)⟩ aa ?_;refine bq @aii
        .have qf:=(Aq @ha (Aq @hb (Aq @hz (Aq @kf (Aq @hd (Aq @he @hu))))));refine ay [0,3,4,5,7,8] [] ?_;have qf:=(Aq @ha (Aq @hb (Aq @hz (Aq @kf (Aq @hd (Aq @he @hu))))));refine ay [0,7,8,38] [] ?_;refine aI (aq [2] [] ?_);refine bR ?_;simp[D.le,D.le.go,aL];exact zR hi (by simp only[fQ,n7,pG,ahU,ahO,decide_eq_false_iff_not];omega)
      .have hu:¬ (l[i].toNat:Int)=95:=aa
       have qf:=(Aq @ha (Aq @hb (Aq @hz (Aq @kf (Aq @hd @hu)))));refine ay [0,3,4,5,7,8] [] ?_;have qf:=(Aq @ha (Aq @hb (Aq @hz (Aq @kf (Aq @hd @hu)))));refine ay [0,7,8,38] [] ?_;refine aI (aq [2] [] ?_);refine bR ?_;simp[D.le,D.le.go,aL];exact zR hi (by simp only[fQ,n7,pG,ahU,ahO,decide_eq_false_iff_not];omega)
   .by_cases hz:(i:Int)=0
    .have kf:i=0:=aa
     subst kf;have qf:=@ha;refine ay [0,3,4,5,7,8] [] ?_;have qf:=@ha;refine ay [0,7,8,38] [] ?_;refine aI (aq [2] [] ?_);refine bR ?_;simp[D.le,D.le.go,aL];exact zR hi (by simp only[fQ,n7,pG,ahU,ahO,decide_eq_false_iff_not];omega)
    .have kf:¬ i=0:=aa
     by_cases hd:(48:Int)<=(l[i].toNat:Int)
     .by_cases he:(l[i].toNat:Int)<=57
      .have qf:=(Aq @ha (Aq @hz (Aq @kf (Aq @hd @he))));refine ay [0,3,4,5,7,8] [] ?_;have qf:=(Aq @ha (Aq @hz (Aq @kf (Aq @hd @he))));refine ay [0,7,8,38] [] ?_;refine al (ar (aU _ ?_));refine c6 ?_;(try simp only[aT,aV]);refine ba.mk (i+1) ⟨aa,Cp cz hi (by simp only[fQ,n7,pG,ag9,abi,decide_eq_true_eq];omega)⟩ aa ?_;refine bq @aii
      .by_cases hu:(l[i].toNat:Int)=95
       .have qf:=(Aq @ha (Aq @hz (Aq @kf (Aq @hd (Aq @he @hu)))));refine ay [0,3,4,5,7,8] [] ?_;have qf:=(Aq @ha (Aq @hz (Aq @kf (Aq @hd (Aq @he @hu)))));refine ay [0,7,8,38] [] ?_;refine al (ar (aU _ ?_));refine c6 ?_;(try simp only[aT,aV]);refine ba.mk (i+1) ⟨aa,Cp cz hi (by simp only[fQ,n7,pG,ag9,abi,decide_eq_true_eq];omega)⟩ aa ?_;refine bq @aii
       .have qf:=(Aq @ha (Aq @hz (Aq @kf (Aq @hd (Aq @he @hu)))));refine ay [0,3,4,5,7,8] [] ?_;have qf:=(Aq @ha (Aq @hz (Aq @kf (Aq @hd (Aq @he @hu)))));refine ay [0,7,8,38] [] ?_;refine aI (aq [2] [] ?_);refine bR ?_;simp[D.le,D.le.go,aL];exact zR hi (by simp only[fQ,n7,pG,ahU,ahO,decide_eq_false_iff_not];omega)
     .have hu:¬ (l[i].toNat:Int)=95:=aa
      have qf:=(Aq @ha (Aq @hz (Aq @kf (Aq @hd @hu))));refine ay [0,3,4,5,7,8] [] ?_;have qf:=(Aq @ha (Aq @hz (Aq @kf (Aq @hd @hu))));refine ay [0,7,8,38] [] ?_;refine aI (aq [2] [] ?_);refine bR ?_;simp[D.le,D.le.go,aL];exact zR hi (by simp only[fQ,n7,pG,ahU,ahO,decide_eq_false_iff_not];omega)
  .have dD:i=l.length:=aa
   subst dD;refine bW (aF _ (ag fun K4 ck=>aq [0,40] [] ?_));refine bd ?_;refine ag fun K5 b9=>?_;by_cases p8:l=[]
   .refine rg [0,40,41] [] aN fun K' ao=>?_;(repeat refine aM fun Kq af=>?_;simp[bX,bt,bf,dS,fG,p8];(repeat refine⟨aa,?_⟩);refine af _ ?_);refine bK (ao _ (AW.st (by simp[bX,bt,bf,dS,fG,p8];rfl) ?_));refine aI (ar (b9 _ ?_));refine aI (aq [2] [] ?_);refine bR ?_;simp[D.le,D.le.go,aL];exact sK (by simp[p8,mf])
   have zv:l.isEmpty=false:=by simpa using p8
   refine rg [0,40,41] [] aN fun K' ao=>?_;(repeat refine aM fun Kq af=>?_;simp[bX,bt,bf,dS,fG,p8,zv];(repeat refine⟨aa,?_⟩);refine af _ ?_);refine bK (ao _ (AW.st (by simp[bX,bt,bf,dS,fG,p8,zv];rfl) ?_));refine al ?_;by_cases jK:l=[105,110,112,117,116]
   .refine rg [0,40,41] [] aN fun K' ao=>?_;(repeat refine aM fun Kq af=>?_;simp[bX,bt,bf,dS,fG,jK];(repeat refine⟨aa,?_⟩);refine af _ ?_);refine bK (ao _ (AW.st (by simp[bX,bt,bf,dS,fG,jK];rfl) ?_));refine aI (ar (b9 _ ?_));refine aI (aq [2] [] ?_);refine bR ?_;simp[D.le,D.le.go,aL];exact sK (by simp[jK,mf])
   have EG:(l == [105,110,112,117,116])=false:=by simpa using jK
   refine rg [0,40,41] [] aN fun K' ao=>?_;(repeat refine aM fun Kq af=>?_;simp[bX,bt,bf,dS,fG,jK,EG];(repeat refine⟨aa,?_⟩);refine af _ ?_);refine bK (ao _ (AW.st (by simp[bX,bt,bf,dS,fG,jK,EG];rfl) ?_));refine al ?_;by_cases qI:l=[99,111,105,108]
   .refine rg [0,40,41] [] aN fun K' ao=>?_;(repeat refine aM fun Kq af=>?_;simp[bX,bt,bf,dS,fG,qI];(repeat refine⟨aa,?_⟩);refine af _ ?_);refine bK (ao _ (AW.st (by simp[bX,bt,bf,dS,fG,qI];rfl) ?_));refine aI (ar (b9 _ ?_));refine aI (aq [2] [] ?_);refine bR ?_;simp[D.le,D.le.go,aL];exact sK (by simp[qI,mf])
   have p9:(l == [99,111,105,108])=false:=by simpa using qI
   refine rg [0,40,41] [] aN fun K' ao=>?_;(repeat refine aM fun Kq af=>?_;simp[bX,bt,bf,dS,fG,qI,p9];(repeat refine⟨aa,?_⟩);refine af _ ?_);refine bK (ao _ (AW.st (by simp[bX,bt,bf,dS,fG,qI,p9];rfl) ?_));refine al ?_;by_cases xq:l=[116,105,109,101,114]
   .refine rg [0,40,41] [] aN fun K' ao=>?_;(repeat refine aM fun Kq af=>?_;simp[bX,bt,bf,dS,fG,xq];(repeat refine⟨aa,?_⟩);refine af _ ?_);refine bK (ao _ (AW.st (by simp[bX,bt,bf,dS,fG,xq];rfl) ?_));refine aI (ar (b9 _ ?_));refine aI (aq [2] [] ?_);refine bR ?_;simp[D.le,D.le.go,aL];exact sK (by simp[xq,mf])
   have Ou:(l == [116,105,109,101,114])=false:=by simpa using xq
   refine rg [0,40,41] [] aN fun K' ao=>?_;(repeat refine aM fun Kq af=>?_;simp[bX,bt,bf,dS,fG,xq,Ou];(repeat refine⟨aa,?_⟩);refine af _ ?_);refine bK (ao _ (AW.st (by simp[bX,bt,bf,dS,fG,xq,Ou];rfl) ?_));refine al ?_;by_cases xt:l=[99,111,117,110,116,101,114]
   .refine rg [0,40,41] [] aN fun K' ao=>?_;(repeat refine aM fun Kq af=>?_;simp[bX,bt,bf,dS,fG,xt];(repeat refine⟨aa,?_⟩);refine af _ ?_);refine bK (ao _ (AW.st (by simp[bX,bt,bf,dS,fG,xt];rfl) ?_));refine aI (ar (b9 _ ?_));refine aI (aq [2] [] ?_);refine bR ?_;simp[D.le,D.le.go,aL];exact sK (by simp[xt,mf])
   have Ov:(l == [99,111,117,110,116,101,114])=false:=by simpa using xt
   refine rg [0,40,41] [] aN fun K' ao=>?_;(repeat refine aM fun Kq af=>?_;simp[bX,bt,bf,dS,fG,xt,Ov];(repeat refine⟨aa,?_⟩);refine af _ ?_);refine bK (ao _ (AW.st (by simp[bX,bt,bf,dS,fG,xt,Ov];rfl) ?_));refine al ?_;by_cases xu:l=[115,101,116]
   .refine rg [0,40,41] [] aN fun K' ao=>?_;(repeat refine aM fun Kq af=>?_;simp[bX,bt,bf,dS,fG,xu];(repeat refine⟨aa,?_⟩);refine af _ ?_);refine bK (ao _ (AW.st (by simp[bX,bt,bf,dS,fG,xu];rfl) ?_));refine aI (ar (b9 _ ?_));refine aI (aq [2] [] ?_);refine bR ?_;simp[D.le,D.le.go,aL];exact sK (by simp[xu,mf])
   have Ow:(l == [115,101,116])=false:=by simpa using xu
   refine rg [0,40,41] [] aN fun K' ao=>?_;(repeat refine aM fun Kq af=>?_;simp[bX,bt,bf,dS,fG,xu,Ow];(repeat refine⟨aa,?_⟩);refine af _ ?_);refine bK (ao _ (AW.st (by simp[bX,bt,bf,dS,fG,xu,Ow];rfl) ?_));refine al ?_;by_cases xv:l=[114,101,115,101,116]
   .refine rg [0,40,41] [] aN fun K' ao=>?_;(repeat refine aM fun Kq af=>?_;simp[bX,bt,bf,dS,fG,xv];(repeat refine⟨aa,?_⟩);refine af _ ?_);refine bK (ao _ (AW.st (by simp[bX,bt,bf,dS,fG,xv];rfl) ?_));refine aI (ar (b9 _ ?_));refine aI (aq [2] [] ?_);refine bR ?_;simp[D.le,D.le.go,aL];exact sK (by simp[xv,mf])
   have Ox:(l == [114,101,115,101,116])=false:=by simpa using xv
   refine rg [0,40,41] [] aN fun K' ao=>?_;(repeat refine aM fun Kq af=>?_;simp[bX,bt,bf,dS,fG,xv,Ox];(repeat refine⟨aa,?_⟩);refine af _ ?_);refine bK (ao _ (AW.st (by simp[bX,bt,bf,dS,fG,xv,Ox];rfl) ?_));refine al ?_;by_cases xw:l=[114,117,110]
   .refine rg [0,40,41] [] aN fun K' ao=>?_;(repeat refine aM fun Kq af=>?_;simp[bX,bt,bf,dS,fG,xw];(repeat refine⟨aa,?_⟩);refine af _ ?_);refine bK (ao _ (AW.st (by simp[bX,bt,bf,dS,fG,xw];rfl) ?_));refine aI (ar (b9 _ ?_));refine aI (aq [2] [] ?_);refine bR ?_;simp[D.le,D.le.go,aL];exact sK (by simp[xw,mf])
   have Oy:(l == [114,117,110])=false:=by simpa using xw
   refine rg [0,40,41] [] aN fun K' ao=>?_;(repeat refine aM fun Kq af=>?_;simp[bX,bt,bf,dS,fG,xw,Oy];(repeat refine⟨aa,?_⟩);refine af _ ?_);refine bK (ao _ (AW.st (by simp[bX,bt,bf,dS,fG,xw,Oy];rfl) ?_));refine al ?_;by_cases xx:l=[99,111,117,110,116]
   .refine rg [0,40,41] [] aN fun K' ao=>?_;(repeat refine aM fun Kq af=>?_;simp[bX,bt,bf,dS,fG,xx];(repeat refine⟨aa,?_⟩);refine af _ ?_);refine bK (ao _ (AW.st (by simp[bX,bt,bf,dS,fG,xx];rfl) ?_));refine aI (ar (b9 _ ?_));refine aI (aq [2] [] ?_);refine bR ?_;simp[D.le,D.le.go,aL];exact sK (by simp[xx,mf])
   have Oz:(l == [99,111,117,110,116])=false:=by simpa using xx
   refine rg [0,40,41] [] aN fun K' ao=>?_;(repeat refine aM fun Kq af=>?_;simp[bX,bt,bf,dS,fG,xx,Oz];(repeat refine⟨aa,?_⟩);refine af _ ?_);refine bK (ao _ (AW.st (by simp[bX,bt,bf,dS,fG,xx,Oz];rfl) ?_));refine al ?_;by_cases xy:l=[122,101,114,111]
   .refine eU (aB _) fun K' ao=>?_;(repeat refine aM fun Kq af=>?_;simp[bX,bt,bf,dS,fG,xy];(repeat refine⟨aa,?_⟩);refine af _ ?_);refine bK (ao _ ?_);refine b9 _ (AW.norm [0,41] [] aN (AW.st (by simp[bX,bt,bf,dS,fG,xy];rfl) ?_));refine aI (aq [2] [] ?_);refine bR ?_;simp[D.le,D.le.go,aL];exact sK (by simp[xy,mf])
   have zw:(l == [122,101,114,111])=false:=by simpa using xy
   refine eU (aB _) fun K' ao=>?_;(repeat refine aM fun Kq af=>?_;simp[bX,bt,bf,dS,fG,xy,zw];(repeat refine⟨aa,?_⟩);refine af _ ?_);refine bK (ao _ ?_);refine b9 _ (AW.norm [0,41] [] aN (AW.st (by simp[bX,bt,bf,dS,fG,xy,zw];rfl) ?_));refine al (ar (ck _ ?_));have qf:=(Aq @aii @bQ);refine ay [2] [] ?_;refine bR ?_;simp[D.le,D.le.go,aL];exact ae8 cz (by simp[mf,p8,jK,qI,xq,xt,xu,xv,xw,xx,xy])
def tr:Fm:=.mk 2 [] []
def Gu (n:Int) (many:Nat):Nat:=((n % 18446744073709551616) % many).toNat
structure SR where
 kind:Int
 a:Int
 b:Int
 name:List UInt8
def KA (all:List Fm) (x:SR):Fm:=
 if x.kind=2 then .mk 2 [] []
 else if x.kind=3\/x.kind=6\/x.kind=9\/x.kind=10 then .mk x.kind [] [all.getD (Gu x.a all.length) .nil]
 else if x.kind=4\/x.kind=5\/x.kind=7\/x.kind=8 then .mk x.kind [] [all.getD (Gu x.a all.length) .nil,all.getD (Gu x.b all.length) .nil]
 else .mk 1 x.name []
abbrev SS:=List (List (List UInt8))
end Go.Proofs.YtoohljflflnbeaaGreatDoor
namespace Go.Proofs.YtoohljflflnbeaaGreatDoor
section
variable (f g:Fm)
def vu:Fm:=.mk 3 [] [f]
end
section
variable (a r:SS) (hr:0 < r.length) (f g:Fm)
include hr
end
theorem aij:type_of% @dw.eq_1:=@dw.eq_1
