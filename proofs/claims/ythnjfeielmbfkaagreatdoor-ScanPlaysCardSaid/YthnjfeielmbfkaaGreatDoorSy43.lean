/-
  Texts that belong together,in one file: Sh19,SG,JP,RT3,LE1,LT2,LD,KB,SC3,SR3,SR4,JR0,JR,LPA,SC4,IP.
-/
import Derived.Test.YthnjfeielmbfkaaGreatDoorSy42
import Derived.Test.YthnjfeielmbfkaaGreatDoorProg
import Derived.Ground.Names8Prog
import Derived.Shelf.Spec.SlicesGrow
set_option linter.unusedSimpArgs false
set_option linter.unusedVariables false
namespace Go.Proofs
open Go.Shelf
def Tryz.growI_ren:Go.Shelf.Ren:=⟨fun | 4=>154 | n=>n,fun | 22=>25 | 25=>3 | 3=>3 | 4=>4 | 9=>9 | 20=>20 | 0=>0 | n=>n,fun | n=>n⟩
theorem Tryz.growI:Go.Proofs.Lays8.n4 Tryz.prog Tryz.growI_ren:={
 mixed:=by kernel_rfl
 f4:=⟨Tryz.f154.name,by decide,Tryz.func154.trans (congrArg some (by kernel_rfl))⟩
 t0:=Tryz.underlying0
 a0:=Tryz.isAgg0
 z0:=Tryz.sizeOf0
 v0:=Tryz.zeroValue0
 t3:=Tryz.underlying3
 a3:=Tryz.isAgg3
 z3:=Tryz.sizeOf3
 v3:=Tryz.zeroValue3
 t4:=Tryz.underlying4
 a4:=Tryz.isAgg4
 z4:=Tryz.sizeOf4
 v4:=Tryz.zeroValue4
 t9:=Tryz.underlying9
 a9:=Tryz.isAgg9
 z9:=Tryz.sizeOf9
 v9:=Tryz.zeroValue9
 t20:=Tryz.underlying20
 a20:=Tryz.isAgg20
 z20:=Tryz.sizeOf20
 v20:=Tryz.zeroValue20
 t22:=Tryz.underlying25
 a22:=Tryz.isAgg25
 z22:=Tryz.sizeOf25
 v22:=Tryz.zeroValue25 }
end Go.Proofs
namespace Go.Proofs.YthnjfeielmbfkaaGreatDoor
open Go.Av Go.Shelf Go.RowKit
theorem size_grown (n G:Nat) (h:n≤G):(([]:List Value).toArray ++ Builtin.zeroCells (Value.int .i64 0).cells (0+n - 0) ++ Builtin.zeroCells (Value.int .i64 0).cells (G - (0+n))).size=G:=by
 simp [size_zeroCells,Value.cells];omega
theorem grow_mc (G:Glob) (n:Nat) (hn:n≤2^40):MC Tryz.prog G [] 154 [.d (.sl (some false) []),.d (dNum n)] (hlst []) (.own 900 0 0) (hlst [(900,.sl 3 1 [])]):=by
 refine ⟨Fun.of Tryz.func154 rfl rfl,fun X w μ vs hs hgl hsz hv=>?_⟩
 obtain ⟨a,b,rfl⟩:∃ a b,vs = #[a,b]:=by
  match vs,hsz with
  | ⟨[a,b]⟩,_=>exact ⟨a,b,rfl⟩
 obtain rfl:a = .slice none 0 0:=by
  rcases (hv 0 a _ rfl rfl).data.sl_inv with ⟨rfl,_⟩ | ⟨_,_,_,hk,_⟩
  ·rfl
  ·exact absurd rfl hk
 obtain rfl:b = .int .i64 n:=(hv 1 b _ rfl rfl).scalar
 have hL:=Tryz.growI
 have hin:In w X G μ ⟨0,[],none⟩ { tmps:=#[],defers:=[] } ⟨fun _=>none,hlst []⟩:=⟨hs,⟨rfl,rfl,fun i x h=>by cases h⟩,hgl⟩
 have hH:∀ row,hup (hlst []) 900 row=hlst [(900,row)]:=fun row=>by
  funext q
  by_cases h:q=900
  ·subst h;rfl
  ·have hq:(q == 900)=false:=by simpa using h
   simp only [hup,if_neg h,hlst,List.lookup,hq]
 by_cases h0:n=0
 ·subst h0;refine (Any8.slices_Grow_room hL none 0 0 0 w (by omega) (by omega) (by omega) (by omega)).mono fun e w' ⟨he,hw⟩=>?_;subst hw
  obtain ⟨h1,ev⟩:=hin.alloc (Mv:=notIn []) (w':=w') (m:=⟨none,1,0⟩) (d:=900) rfl (Grew.refl _) (by simp) (row:=.sl 3 1 []) fun _=>.nil rfl rfl
  have h2:=h1.sim
  dsimp only at h2
  rw [hH] at h2;exact ⟨_,_,_,_,he,⟨rfl,rfl⟩,.own (m:=⟨none,1,0⟩) (by simp [mup]) (.inl ⟨rfl,rfl,rfl,rfl⟩),h2,ev⟩
 ·obtain ⟨i0,hi,hz0,hz1,hz2⟩:=info_parts (P:=Tryz.prog) (e:=3) (z:=.int .i64 0) (size:=1) (bytes:=8) (by kernel_rfl)
  refine (Any8.slices_Grow_grow hL i0 (.int .i64 0) hi hz0 (by omega) none 0 0 n [] w (by omega) (by omega) (by rw [hz2];omega) (by omega) (by simp) (fun _=>rfl) (fun a e=>by cases e)).mono fun e w' ⟨he,hw⟩=>?_
  have hge:n≤grownCap w (0+n) 0 3:=by have:=grownCap_ge w (0+n) 0 3;omega
  have hle:grownCap w (0+n) 0 3≤maxLen:=grownCap_le_maxLen w (0+n) 0 3 (by unfold maxLen;omega)
  have he:e = .returned (.slice (some ⟨w.heap.size,0,none⟩) 0 (grownCap w (0+n) 0 3)):=he
  have hw:w'=w.drew.alloc (.cells (([]:List Value).toArray ++ Builtin.zeroCells (Value.int .i64 0).cells (0+n - 0) ++ Builtin.zeroCells (Value.int .i64 0).cells (grownCap w (0+n) 0 3 - (0+n))) 3):=hw
  have hsz:=size_grown n (grownCap w (0+n) 0 3) hge
  generalize grownCap w (0+n) 0 3=C at he hw hge hle hsz;generalize (([]:List Value).toArray ++ Builtin.zeroCells (Value.int .i64 0).cells (0+n - 0) ++ Builtin.zeroCells (Value.int .i64 0).cells (C - (0+n)))=Z at hw hsz;subst hw
  have g1:=Grew.drew w
  have g2:=Grew.alloc w.drew (.cells Z 3)
  have hg:Grew w (w.drew.alloc (.cells Z 3)):=⟨Nat.le_trans g1.size g2.size,g2.os.trans g1.os,g2.tape.trans g1.tape,g2.output.trans g1.output,fun b hb=>(g2.same b (Nat.lt_of_lt_of_le hb g1.size)).trans (g1.same b hb)⟩
  have hnew:(w.drew.alloc (.cells Z 3)).heap[w.heap.size]? = some (.cells Z 3 (0,0)):=heap_alloc_new w.drew _
  obtain ⟨h1,ev⟩:=hin.alloc (Mv:=notIn []) (w':=w.drew.alloc (.cells Z 3)) (m:=⟨some w.heap.size,1,C⟩) (d:=900) rfl hg (by rintro b h;injection h with h;omega) (row:=.sl 3 1 []) fun _=>
   .sl (b:=w.heap.size) rfl rfl hnew (by simpa using hsz) (by simp) hle (by simp) (by omega) (by simp)
  have h2:=h1.sim
  dsimp only at h2
  rw [hH] at h2;exact ⟨_,_,_,_,he,⟨rfl,rfl⟩,.own (m:=⟨some w.heap.size,1,C⟩) (by simp [mup]) (.inr ⟨_,rfl,by simp,by simp⟩),h2,ev⟩
def dPls (l:List Nat):List (List D):=l.map fun (n:Nat)=>[dNum (n:Int)]
theorem dPls_app (a b:List Nat):dPls (a ++ b)=dPls a ++ dPls b:=by unfold dPls;rw [List.map_append]
def ct3 {α:Type} (a b c:α):Nat→α
 | 0=>a
 | 1=>b
 | _=>c
set_option maxHeartbeats 4000000 in
theorem concat_spec (G:Glob) (a b:List Nat) (ha:a.length≤2^30) (hb:b.length≤2^30):PureC Tryz.prog G 93 [.sl none [[.sl none (dPls a)],[.sl none (dPls b)]]] (.sl none (dPls (a ++ b))):=by
 rw [dPls_app]
 have hA1:(∀ el∈dPls a,el.length=1)=True:=eq_true (by simp [dPls])
 have hB1:(∀ el∈dPls b,el.length=1)=True:=eq_true (by simp [dPls])
 have hA2:(∀ el∈dPls a,∀ c∈el,c.one=true)=True:=eq_true (by simp [dPls,dNum,D.one])
 have hB2:(∀ el∈dPls b,∀ c∈el,c.one=true)=True:=eq_true (by simp [dPls,dNum,D.one])
 have hAl:(dPls a).length≤2^30:=by simpa [dPls] using ha
 have hBl:(dPls b).length≤2^30:=by simpa [dPls] using hb
 generalize dPls a=A at *;generalize dPls b=B at *
 have hgr:=grow_mc G (A.length+B.length) (by omega)
 simp only [dNum] at hgr;refine PureC.of_body (tyOf_good _) Tryz.func93 rfl rfl (rs:=[.tmp 2]) Tryz.results93 (by simp [Tryz.ntmps93]) fun X=>?_;simp only [Tryz.ntmps93,List.map]
 have fw:=@dNum.eq_1
 refine rgq fw [0] [] ?_;refine rgq fw [0,3] [] ?_;refine AW_then fun K1 hK1=>?_;refine rgq fw [0,3,9,10,11] [] ?_;refine AW_for (S:=Nat) (fun n=>n≤2) (fun n=>⟨lst [(0,.d (.sl none [[.sl none A],[.sl none B]])),(3,int (ct3 0 (A.length:Int) ((A.length:Int)+B.length) n)),(9,.d (.sl none [[.sl none A],[.sl none B]])),(10,int 2),(11,int n)],hlst []⟩) (fun n=>2 - n) 0 ?_ (by omega) ?_
 ·refine Imp.to' (fun _ _=>trivial) (by simp [dNum,ct3]) (by simp [dNum,ct3])
 ·intro n hn
  rcases (by omega:n=0∨n=1∨n=2) with rfl | rfl | rfl
  ·simp only [ct3];refine rgq fw [0,3,9,10,11,12] [] ?_;refine AW_then fun K2 hK2=>?_;refine AW_tt rfl ?_;refine AW_skip (hK2 _ ?_);refine AW_then fun K3 hK3=>?_;refine AW_block ?_;refine rgq fw [0,3,5,9,10,11] [] ?_;refine rgq fw [0,3,9,10,11] [] ?_;refine rgq fw [0,3,9,10,11,20] [] ?_;refine AW_ff rfl ?_;refine AW_skip (hK3 _ ?_);refine AW_re (tyOf_good _) fun K' hK'=>?_;(repeat (refine sxn fun K2 hK2=>?_;simp [dNum];(repeat (refine ⟨by omega,?_⟩));refine hK2 _ ?_;clear hK2 K2));refine sxz (hK' _ ?_);clear hK' K';(try simp only [thn,inb]);refine Again.mk 1 (by omega) (by omega) ?_;refine Imp.to' (fun _ _=>trivial) (by simp [dNum,ct3]) (by simp [dNum,ct3])
  ·simp only [ct3];refine rgq fw [0,3,9,10,11,12] [] ?_;refine AW_then fun K2 hK2=>?_;refine AW_tt rfl ?_;refine AW_skip (hK2 _ ?_);refine AW_then fun K3 hK3=>?_;refine AW_block ?_;refine rgq fw [0,3,5,9,10,11] [] ?_;refine rgq fw [0,3,9,10,11] [] ?_;refine rgq fw [0,3,9,10,11,20] [] ?_;refine AW_ff rfl ?_;refine AW_skip (hK3 _ ?_);refine AW_re (tyOf_good _) fun K' hK'=>?_;(repeat (refine sxn fun K2 hK2=>?_;simp [dNum];(repeat (refine ⟨by omega,?_⟩));refine hK2 _ ?_;clear hK2 K2));refine sxz (hK' _ ?_);clear hK' K';(try simp only [thn,inb]);refine Again.mk 2 (by omega) (by omega) ?_;refine Imp.to' (fun _ _=>trivial) (by simp [dNum,ct3]) (by simp [dNum,ct3])
  ·simp only [ct3];refine rgq fw [0,3,9,10,11,12] [] ?_;refine AW_then fun K2 hK2=>?_;refine AW_ff rfl ?_;refine AW_exit (hK1 _ ?_);refine rgm fw hgr [0,6] [900] ?_;refine AW_then fun K4 hK4=>?_;refine rgq fw [6,25,26,27] [900] ?_;refine AW_for (S:=Nat) (fun n=>n≤2) (fun n=>⟨lst [(6,.own 900 0 (ct3 0 A.length (A.length+B.length) n)),(25,.d (.sl none [[.sl none A],[.sl none B]])),(26,int 2),(27,int n)],hlst [(900,.sl 3 1 (ct3 [] A (A ++ B) n))]⟩) (fun n=>2 - n) 0 ?_ (by omega) ?_
   ·refine Imp.to' (fun _ _=>trivial) (by simp [dNum,ct3]) (by simp [dNum,ct3])
   ·intro n hn
    rcases (by omega:n=0∨n=1∨n=2) with rfl | rfl | rfl
    ·simp only [ct3];refine rgq fw [6,25,26,27,28] [900] ?_;refine AW_then fun K5 hK5=>?_;refine AW_tt rfl ?_;refine AW_skip (hK5 _ ?_);refine AW_then fun K6 hK6=>?_;refine AW_block ?_;refine rgq fw [6,8,25,26,27] [900] ?_
     have qf:=(Aq fw (Aq @hA1 @hA2))
     refine reKv hK6 [6,25,26,27] [900] ?_;refine AW_re (tyOf_good _) fun K' hK'=>?_;(repeat (refine sxn fun K2 hK2=>?_;simp [dNum];(repeat (refine ⟨by omega,?_⟩));refine hK2 _ ?_;clear hK2 K2));refine sxz (hK' _ ?_);clear hK' K';(try simp only [thn,inb]);refine Again.mk 1 (by omega) (by omega) ?_;refine Imp.to' (fun _ _=>trivial) (by simp [dNum,ct3]) (by simp [dNum,ct3])
    ·simp only [ct3];refine rgq fw [6,25,26,27,28] [900] ?_;refine AW_then fun K5 hK5=>?_;refine AW_tt rfl ?_;refine AW_skip (hK5 _ ?_);refine AW_then fun K6 hK6=>?_;refine AW_block ?_;refine rgq fw [6,8,25,26,27] [900] ?_;refine AW_re (tyOf_good _) fun K' hK'=>?_;(repeat (refine sxn fun K2 hK2=>?_;simp [dNum,hB1,hB2,List.take_of_length_le];(repeat (refine ⟨by omega,?_⟩));refine hK2 _ ?_;clear hK2 K2));refine sxz (hK' _ ?_);clear hK' K';refine hK6 _ (AW.norm [6,25,26,27] [900] (fun _ _=>trivial) (AW.st (by simp [dNum,hB1,hB2,List.take_of_length_le];rfl) ?_));refine AW_re (tyOf_good _) fun K' hK'=>?_;(repeat (refine sxn fun K2 hK2=>?_;simp [dNum];(repeat (refine ⟨by omega,?_⟩));refine hK2 _ ?_;clear hK2 K2));refine sxz (hK' _ ?_);clear hK' K';(try simp only [thn,inb]);refine Again.mk 2 (by omega) (by omega) ?_;refine Imp.to' (fun _ _=>trivial) (by simp [dNum,ct3]) (by simp [dNum,ct3])
    ·simp only [ct3];refine rgq fw [6,25,26,27,28] [900] ?_;refine AW_then fun K5 hK5=>?_;refine AW_ff rfl ?_;refine AW_exit (hK4 _ ?_);refine AW.imp (Imp.freeze 900 trivial) ?_;refine AW.st (by simp [dNum];rfl) ?_;refine rgq fw [2] [] ?_;refine AW_ret ?_;simp [D.le,D.le.go,takeMap,dNum,D.le_refl,D.leGo_refl]
end Go.Proofs.YthnjfeielmbfkaaGreatDoor
namespace Go.Proofs.YthnjfeielmbfkaaGreatDoor
open Go.Av
theorem AW0_then {P:Program} {Mv X:Nat→Prop} {G:Glob} {n s:Nat} {x y:Code} {Q:Exit→St→Prop} {σ:St} (h:∀ K:St→Prop,(∀ σ',AW0 P Mv X G n s y Q σ'→K σ')→∀ X' ds,AW P Mv X' G ⟨n,ds,none⟩ x (thn K Q) σ):AW0 P Mv X G n s (.seq x y) Q σ:=
 AW0_seq (AW0_of (h _ fun _ h=>h))
theorem AW0_thn {P:Program} {Mv X:Nat→Prop} {G:Glob} {n s:Nat} {x y:Code} {Q:Exit→St→Prop} {σ:St} (h:∀ K:St→Prop,(∀ σ',AW0 P Mv X G n s y Q σ'→K σ')→AW0 P Mv X G n s x (thn K Q) σ):AW0 P Mv X G n s (.seq x y) Q σ:=
 AW0_seq (h _ fun _ h=>h)
theorem round_assign {P:Program} {Mv X:Nat→Prop} {G:Glob} {N:Fr} {x y:Code} {Q:Exit→St→Prop} {σ:St} (h:∀ K:St→Prop,(∀ σ',AW P Mv X G N y Q σ'→K σ')→AW P Mv X G N x (thn K (fun _ _=>False)) σ):AW P Mv X G N x (thn (AW P Mv X G N y Q) (fun _ _=>False)) σ:=
 h _ fun _ h=>h
section
variable {P:Program} {X:Nat→Prop} {G:Glob} {n s:Nat} {σ τ τ':St} {p:Prop}
theorem AW0.norm (l ns:List Nat) {c:Code} {Q:Exit→St→Prop} (h:AW0 P (fun _=>True) X G n s c Q (σ.norm l ns)):AW0 P (fun _=>True) X G n s c Q σ:=AW0.imp (fun X' ds=>Imp.norm l ns fun _ _=>trivial) h
theorem AW0.st {c:Code} {Q:Exit→St→Prop} (h:σ=τ) (h':AW0 P (fun _=>True) X G n s c Q τ):AW0 P (fun _=>True) X G n s c Q σ:=h ▸ h'
theorem rz0 (q:p) (l ns:List Nat) {id:Nat} {ops:Array Oper} {y:Code} {Q:Exit→St→Prop} (k:AW0 P (fun _=>True) X G n s y Q τ')
  (h:p→∀ (X':Nat→Prop) (ds:List Deferred) (K':St→Prop),K' τ→sxf P (tyOf P) (fun _=>True) X' G ⟨n,ds,none⟩ ops K' ops.toList σ:=by
   intro q X' ds K' hK'
   repeat (refine sxn fun K2 hK2=>?_;simp [q];(repeat (refine ⟨by omega,?_⟩));refine hK2 _ ?_;clear hK2 K2)
   exact sxz hK')
  (hn:p→τ.norm l ns=τ':=by intro q;simp [q];rfl):AW0 P (fun _=>True) X G n s (.seq (.region id ops false) y) Q σ:=
 AW0_seq (AW0_of fun X' ds=>AW_re (tyOf_good _) fun K hK=>h q X' ds K (hK _ (AW0.norm l ns (hn q ▸ k))))
theorem rz0m (q:p) {fx:List Nat} {g:FuncId} {xs:List AV} {rows1 rows2:List (Nat×Row)} {yv:AV} (hc:MC P G fx g xs (hlst rows1) yv (hlst rows2)) (l ns:List Nat) {id:Nat} {ops:Array Oper} {y:Code} {Q:Exit→St→Prop} (k:AW0 P (fun _=>True) X G n s y Q τ')
  (h:p→MC P G fx g xs (hlst rows1) yv (hlst rows2)→∀ (X':Nat→Prop) (ds:List Deferred) (K':St→Prop),K' τ→sxf P (tyOf P) (fun _=>True) X' G ⟨n,ds,none⟩ ops K' ops.toList σ:=by
   intro q hc X' ds K' hK'
   (repeat (refine sxn fun K2 hK2=>?_;simp [q];(repeat (refine ⟨by omega,?_⟩));refine hK2 _ ?_;clear hK2 K2));refine sxn fun K2 hK2=>?_;simp [q];refine callK.mc hc (by simp [q]) (by simp [q]) (by simp [q]) (by simp [q]) ?_;simp [q];refine hK2 _ ?_;clear hK2 K2;repeat (refine sxn fun K2 hK2=>?_;simp [q];(repeat (refine ⟨by omega,?_⟩));refine hK2 _ ?_;clear hK2 K2)
   exact sxz hK')
  (hn:p→τ.norm l ns=τ':=by intro q;simp [q];rfl):AW0 P (fun _=>True) X G n s (.seq (.region id ops false) y) Q σ:=
 AW0_seq (AW0_of fun X' ds=>AW_re (tyOf_good _) fun K hK=>h q hc X' ds K (hK _ (AW0.norm l ns (hn q ▸ k))))
end
def nil2:D:=.sl (some false) []
def pHp (NN RR NA RA:List (List D)) (pl:Int):Heap:=hlst [(2,.box 29 [.d nil2,.d nil2]),(3,.box 31 [.d (.v .nilIface)]),(4,.box 29 [.own 801 0 NN.length,.own 802 0 RR.length]),(5,.box 25 [.own 803 0 NA.length]),(6,.box 25 [.own 804 0 RA.length]),(7,.box 3 [int pl]),(801,.sl 73 3 NN),(802,.sl 114 3 RR),(803,.sl 3 1 NA),(804,.sl 3 1 RA)]
theorem dC_one (c:Option Ex):(dC c).one=true:=by
 cases c with
 | none=>rfl
 | some e=>obtain ⟨a,b,h⟩:=dE_ifc e;rw [dC,h];rfl
theorem getD_nat (l:List Nat) (i:Nat) (h:i < l.length):(dPls l)[i]? = some [dNum ((l.getD i 0:Nat):Int)]:=by
 rw [List.getD_eq_getElem?_getD];unfold dPls;simp [h]
theorem check_lt {p:PgP} {c:Int} {i:Nat} (h:checkP p=some (c,some i)):i < p.names.length+p.rungs.length:=by
 unfold checkP at h
 split at h
 ·cases h
 ·split at h
  ·rename_i e k hf
   have:=firstBad_lt hf
   simp only [Option.some.injEq,Prod.mk.injEq] at h
   omega
  ·split at h
   ·rename_i e k hf
    have:=firstBad_lt hf
    simp only [Option.some.injEq,Prod.mk.injEq] at h
    omega
   ·cases h
theorem rungP_bad {k:Int} {nm hd rest:Tx} {c:Int} {off:Nat} (h:rungP k nm hd rest = .bad c off):off≤hd.length+1+rest.length:=by
 unfold rungP at h
 split at h
 ·rename_i c' o hp
  simp only [LnR.bad.injEq] at h
  cases o with
  | none=>simp at h;omega
  | some o=>
   have:=parse_at hp
   simp at h;omega
 ·cases h
theorem line_bad {s:Tx} {c:Int} {off:Nat} (h:lineP s = .bad c off):off≤2 * s.length+1:=by
 have hle:=cutAt_le 61 s
 have nb:∀ l,nameL l≠.bad c off:=fun l=>by
  match l with
  | []=>simp [nameL]
  | [a]=>simp [nameL,nameP]
  | [a,b]=>simp only [nameL,nameP];split<;>simp
  | [a,b,c]=>simp only [nameL,nameP];split<;>(try split)<;>simp
  | a :: b :: c :: d :: l=>simp [nameL,nameP]
 unfold lineP at h
 split at h
 ·have h2:off≤(cutAt 61 s).1.length+1+(cutAt 61 s).2.length:=by
   match hw:wordsT (cutAt 61 s).1,h with
   | [a],h=>exact rungP_bad h
   | [a,b],h=>
    simp only [rungL] at h
    split at h
    ·cases h
    ·exact rungP_bad h
  omega
 ·exact absurd h (nb _)
theorem lxq:(⟨#[]⟩:ByteArray)=bs []:=rfl
theorem lxq32:(⟨#[32]⟩:ByteArray)=bs [32]:=rfl
set_option maxRecDepth 100000 in
set_option maxHeartbeats 32000000 in
theorem lparse_spec (G:Glob) (hM:HasMax G) (hP:HasP10 G) (hG:HasErr G) {es er:Value} (hE:HasNE G es er) (t:Tx):PureC Tryz.prog G 40 [dS t] (.tup [dPg (parseP t).2,dErr (parseP t).1]):=by
 refine PureC.of_body0 (tyOf_good _) Tryz.func40 rfl rfl (rs:=[.cell 2 29,.cell 3 31]) Tryz.results40 (by simp [Tryz.ntmps40]) fun X s0=>?_;simp only [Tryz.ntmps40,List.map]
 have fw:=(Aq @dNum.eq_1 @dS.eq_1)
 refine rz0 fw [0,2,3] [2,3] ?_;refine AW0_then fun K1 hK1 X' ds=>?_
 by_cases ht:20000 < t.length
 ·have ht1:(t.length:Int) > 20000:=by omega
  have hp:parseP t=(some (4,none),⟨[],[]⟩):=by unfold parseP;rw [if_pos ht]
  have qf:=(Aq fw (Aq @bs_size @ht1))
  refine rgqv [0,2,3,19] [2,3] ?_;refine AW_cond true (by simp [ht1]) (fun _=>?_) (fun h=>by cases h);refine rgq fw [2,3] [2,3] ?_;refine AW_ret ?_;simp [D.le,D.le.go,takeMap,dNum,dS,hp,dPg,cPg,dNms,dRgs,dErr]
 have ht1:¬ (t.length:Int) > 20000:=by omega
 have hseq:=splitSeq_mc2 G t
 have qf:=(Aq fw (Aq @bs_size @ht1))
 refine rgqv [0,2,3,19] [2,3] ?_;refine AW_cond false (by simp [ht1]) (fun h=>by cases h) (fun _=>?_);refine AW_skip (hK1 _ ?_);refine rz0 fw [0,2,3,4] [2,3,4] ?_;refine rz0 fw [0,2,3,4,5,6] [2,3,4,5,6] ?_;refine rz0 fw [0,2,3,4,5,6,7] [2,3,4,5,6,7] ?_;refine AW0_thn fun K5 hK5=>?_;refine AW0.imp (fun X' ds=>Imp.adoptCell 4 0 801 73 3 rfl rfl rfl) ?_;refine AW0.st (by simp;rfl) ?_;refine AW0.imp (fun X' ds=>Imp.adoptCell 4 1 802 114 3 rfl rfl rfl) ?_;refine AW0.st (by simp;rfl) ?_;refine AW0.imp (fun X' ds=>Imp.adoptCell 5 0 803 3 1 rfl rfl rfl) ?_;refine AW0.st (by simp;rfl) ?_;refine AW0.imp (fun X' ds=>Imp.adoptCell 6 0 804 3 1 rfl rfl rfl) ?_;refine AW0.st (by simp;rfl) ?_;simp only [seqRows,seqFn,dS,dNum] at hseq;refine rz0m (Aq @lxs10 fw) hseq [2,3,4,5,6,7,23] [2,3,4,5,6,7,511,512,513,801,802,803,804] ?_;refine AW0_block ?_
 obtain ⟨l,hl⟩:∃ l,l=cutT 10 t:=⟨_,rfl⟩
 have hllen:=cutT_len 10 t
 rw [← hl] at hllen
 obtain ⟨inv,hinvD⟩:∃ f:Nat→Heap,f=fun k=>match prK l k with
  | .inl _=>hno
  | .inr s=>pHp (s.names.map cNm) (s.rungs.map cRg) (dPls s.nAt) (dPls s.rAt) (placeK l k):=⟨_,rfl⟩
 have hinv:∀ k s,prK l k = .inr s→inv k=pHp (s.names.map cNm) (s.rungs.map cRg) (dPls s.nAt) (dPls s.rAt) (placeK l k):=fun k s h=>by rw [hinvD];dsimp only;rw [h]
 refine AW0_rangeFunc (l.map fun s=>.string (bs s)) [511,512,513] [2,3,4,5,6,7] (lst [(2,.ref 2 0 0),(3,.ref 3 0 0),(4,.ref 4 0 0),(5,.ref 5 0 0),(6,.ref 6 0 0),(7,.ref 7 0 0)]) inv (fun k=>∃ s,prK l k = .inr s) ⟨prS0,rfl⟩ (gf:=188) (caps:=[.ref 512 0 0,.ref 511 0 0,.ref 513 0 0]) (by simp) (Fun.of Tryz.func188 rfl rfl) (by decide) ?hIt ?he1 ?hH (fun _ _=>trivial) ?hfx ?round ?done
 case hIt=>
  intro w X μ lb hs hgl hsz hlr
  rw [hl];refine seq_iter G hM t (by omega) w X μ lb ?_ hgl hsz ?_
  ·simpa [seqRows,dS,dNum] using hs
  ·intro i u x hu hx
   have h:=hlr i u x hu hx
   match i,hx with
   | 0,hx=>obtain rfl:=Option.some.inj hx;exact h
   | 1,hx=>obtain rfl:=Option.some.inj hx;exact h
   | 2,hx=>obtain rfl:=Option.some.inj hx;exact h
 case he1=>
  intro i x hx
  have h:=lst_mem hx
  simp only [List.mem_cons,List.not_mem_nil,or_false,Prod.mk.injEq] at h
  rcases h with ⟨rfl,rfl⟩ | ⟨rfl,rfl⟩ | ⟨rfl,rfl⟩ | ⟨rfl,rfl⟩ | ⟨rfl,rfl⟩ | ⟨rfl,rfl⟩<;>exact ⟨rfl,_,rfl,rfl⟩
 case hH=>
  rw [hinv 0 prS0 rfl];simp [pHp,prS0,dPls,placeK_zero,nil2]
  try rfl
 case hfx=>
  intro q h
  simp at h ⊢
  omega
 case done=>
  rintro ⟨s,hs⟩
  rw [List.length_map] at hs ⊢
  have hpe:=parseP_end (s:=s) (by omega) (hl ▸ hs)
  have hok:=prOk_k (t:=t) (by omega) (Nat.le_refl _) (hl ▸ hs)
  have hsm:=prOk_small hok (by rw [← hl];omega)
  have hchk:=ladderCheck_spec G ⟨s.names,s.rungs⟩ hsm
  rw [hinv _ _ hs];refine hK5 _ (AW0_of fun X' ds=>?_)
  obtain ⟨hnl,hrl,hnm,_,_⟩:=hok
  rw [← hl] at hnm
  have hplace:∀ c i,checkP ⟨s.names,s.rungs⟩=some (c,some i)→i < (s.nAt ++ s.rAt).length:=fun c i h=>by have:=check_lt h;simp at this ⊢;omega
  unfold pHp;refine AW.imp (Imp.freeze 801 trivial) ?_;refine AW.st (by simp [dNum,dS];rfl) ?_;refine AW.imp (Imp.freeze 802 trivial) ?_;refine AW.st (by simp [dNum,dS];rfl) ?_;refine AW.imp (Imp.freeze 803 trivial) ?_;refine AW.st (by simp [dNum,dS];rfl) ?_;refine AW.imp (Imp.freeze 804 trivial) ?_;refine AW.st (by simp [dNum,dS];rfl) ?_
  have hcc:=concat_spec G s.nAt s.rAt (by omega) (by omega)
  have hgd:=fun i h=>getD_nat (s.nAt ++ s.rAt) i h
  simp only [dPg,cPg,dNms,dRgs] at hchk;generalize hNN:s.names.map cNm=NN at hchk ⊢;generalize hRR:s.rungs.map cRg=RR at hchk ⊢;generalize dPls s.nAt=NA at hcc ⊢;generalize dPls s.rAt=RA at hcc ⊢;generalize dPls (s.nAt ++ s.rAt)=CC at hcc hgd
  cases hck:checkP ⟨s.names,s.rungs⟩ with
  | none=>
   rw [hck] at hchk hpe;simp only [dErr] at hchk;refine rgc fw hchk [2,3,4,5,6,14] [2,3,4,5,6,7] ?_;refine AW_then fun K7 hK7=>?_;refine rgq (Aq fw (Aq @pairA.eq_1 (Aq @pairA.eq_2 @assertA.eq_1))) [2,3,4,5,6,14,15,16] [2,3,4,5,6,7] ?_;refine rgq fw [2,3,4,5,6,14,15,108] [2,3,4,5,6,7] ?_;refine AW_ff rfl ?_;refine AW_skip (hK7 _ ?_);refine AW_then fun K8 hK8=>?_;refine rgq fw [2,3,4,14,127] [2,3,4,5,6,7] ?_;refine AW_ff rfl ?_;refine AW_skip (hK8 _ ?_);refine rgq fw [2,3] [2,3,4,5,6,7] ?_;refine AW_ret ?_;simp [D.le,D.le.go,takeMap,dNum,dS,hpe,dPg,cPg,dNms,dRgs,dErr,hNN,hRR,D.le_refl,D.leGo_refl]
  | some ci=>
   obtain ⟨c,i⟩:=ci
   rw [hck] at hchk hpe
   cases i with
   | none=>
    simp only [dErr] at hchk;refine rgc fw hchk [2,3,4,5,6,14] [2,3,4,5,6,7] ?_;refine AW_then fun K7 hK7=>?_;refine rgq (Aq fw (Aq @pairA.eq_1 (Aq @pairA.eq_2 @assertA.eq_1))) [2,3,4,5,6,14,15,16] [2,3,4,5,6,7] ?_;refine rgq fw [2,3,4,5,6,14,15,108] [2,3,4,5,6,7] ?_;refine AW_ff rfl ?_;refine AW_skip (hK7 _ ?_);refine AW_then fun K8 hK8=>?_;refine rgq fw [2,3,4,14,127] [2,3,4,5,6,7] ?_;refine AW_tt rfl ?_;refine rgq fw [2,3] [2,3,4,5,6,7] ?_;refine AW_ret ?_;simp [D.le,D.le.go,takeMap,dNum,dS,hpe,dPg,cPg,dNms,dRgs,dErr]
   | some i=>
    have hi:=hplace c i hck
    have hgi:=hgd i hi
    dsimp only at hpe
    obtain ⟨hil,hgv⟩:=List.getElem?_eq_some_iff.1 hgi
    simp only [dErr] at hchk;simp only [dNum] at hgv;clear hgi;generalize (s.nAt ++ s.rAt).getD i 0=pl at hgv hpe;refine rgc fw hchk [2,3,4,5,6,14] [2,3,4,5,6,7] ?_;refine AW_then fun K7 hK7=>?_;refine rgq (Aq fw (Aq @pairA.eq_1 (Aq @pairA.eq_2 @assertA.eq_1))) [2,3,4,5,6,14,15,16] [2,3,4,5,6,7] ?_;refine rgq fw [2,3,4,5,6,14,15,108] [2,3,4,5,6,7] ?_;refine AW_tt rfl ?_;refine AW_rbe (tyOf_good _) (by kernel_rfl) ([6,15]) (List.range 18) (by kernel_rfl) fun K' hK'=>?_;(repeat (refine sxb_nextO rfl fun K2 hK2=>?_;simp [dNum,dS,hil,hgv];(repeat (refine ⟨by omega,?_⟩));refine hK2 _ ?_;clear hK2 K2));refine sxb_nextO rfl fun K2 hK2=>?_;simp [dNum,dS,hil,hgv];refine callD.mk (hcc) (by simp;rfl) (by simp;rfl) (by first | exact D.leGo_refl _ | simp [takeMap,List.map_map,Function.comp_def,D.le,D.le.go,D.le_refl,D.leGo_refl,dNum,dS,hil,hgv]) (by simp) ?_;refine hK2 _ ?_;clear hK2 K2;simp only [putd,upd_lst];(repeat (refine sxb_nextO rfl fun K2 hK2=>?_;simp [dNum,dS,hil,hgv];(repeat (refine ⟨by omega,?_⟩));refine hK2 _ ?_;clear hK2 K2));refine sxb_nilO (hK' _ ?_);clear hK' K';refine hK7 _ (AW.norm [2,3,4,14] [2,3,4,5,6,7] (fun _ _=>trivial) (AW.st (by simp [dNum,dS,hil,hgv];rfl) ?_));refine AW_then fun K8 hK8=>?_;refine rgq fw [2,3,4,14,127] [2,3,4,5,6,7] ?_;refine AW_tt rfl ?_;refine rgq fw [2,3] [2,3,4,5,6,7] ?_;refine AW_ret ?_;simp [D.le,D.le.go,takeMap,dNum,dS,hpe,dPg,cPg,dNms,dRgs,dErr]
 case round=>
  rintro X' L k hk ⟨s,hs⟩
  have hk':k < l.length:=by simpa using hk
  obtain ⟨ln,hln⟩:∃ ln,ln=l[k]:=⟨_,rfl⟩
  rw [hinv k s hs,show (l.map fun s=>Value.string (bs s))[k] = .string (bs ln) by simp [hln]]
  have hpb:placeK l k+ln.length≤t.length:=by rw [hln];subst hl;exact piece_le hk'
  have hpl:(placeK l (k+1):Int)=(placeK l k:Int)+((ln.length:Int)+1):=by rw [placeK_succ hk',← hln];omega
  have hok:=prOk_k (t:=t) (by omega) (Nat.le_of_lt (hl ▸ hk')) (hl ▸ hs)
  have hnx:∀ s',stepS s (placeK l k) ln = .inr s'→prK l (k+1) = .inr s':=fun s' h=>prK_next hk' hs (hln ▸ h)
  have herr:∀ c i,stepS s (placeK l k) ln = .inl (c,i)→parseP t=(some (c,some i),⟨[],[]⟩):=fun c i h=>parseP_bad (by omega) (hl ▸ prK_err hk' hs (hln ▸ h))
  obtain ⟨hnl,hrl,hnm,_,_⟩:=hok
  have htr:=trim1_spec G ln (by omega)
  have htw:=trim_words ln
  have hline:=fun h=>line_spec G hM hP hG hE ln (by omega) h
  generalize hpk:placeK l k=pk at *
  have hN2:(s.names.map cNm).length=s.names.length:=by simp
  have hR2:(s.rungs.map cRg).length=s.rungs.length:=by simp
  have hNA2:(dPls s.nAt).length=s.names.length:=by simp [dPls,hnl]
  have hRA2:(dPls s.rAt).length=s.rungs.length:=by simp [dPls,hrl]
  generalize hNN:s.names.map cNm=NN at *;generalize hRR:s.rungs.map cRg=RR at *;generalize hNA:dPls s.nAt=NA at *;generalize hRA:dPls s.rAt=RA at *;unfold pHp;refine AW.st (by simp;rfl) ?_;refine round_assign fun K7 hK7=>?_;refine reK fw hK7 [2,3,4,5,6,7,8] [2,3,4,5,6,7,801,802,803,804] ?_;refine AW_block ?_;refine AW_then fun K8 hK8=>?_;simp only [dS] at htr
  by_cases h0:wordsT ln=[]
  ·have hz:=htw.2 h0
   rw [hz] at htr
   have hst:stepS s pk ln = .inr s:=by unfold stepS;rw [if_pos h0]
   have hn:=hnx _ hst
   refine rg [2,3,4,5,6,7,8,27] [2,3,4,5,6,7,801,802,803,804] (notIn_ok rfl) fun K' hK'=>?_;(repeat (refine sxn fun K2 hK2=>?_;simp [dNum,dS,lxq,lxq32,binS,bs_list];(repeat (refine ⟨by omega,?_⟩));refine hK2 _ ?_;clear hK2 K2));refine sxn fun K2 hK2=>?_;simp [dNum,dS,lxq,lxq32,binS,bs_list];refine callK.data (htr) (by simp;rfl) (by first | exact D.leGo_refl _ | simp [takeMap,List.map_map,Function.comp_def,D.le,D.le.go,D.le_refl,D.leGo_refl,dNum,dS,lxq,lxq32,binS,bs_list]) ?_;refine hK2 _ ?_;clear hK2 K2;simp only [putd,upd_lst];(repeat (refine sxn fun K2 hK2=>?_;simp [dNum,dS,lxq,lxq32,binS,bs_list];(repeat (refine ⟨by omega,?_⟩));refine hK2 _ ?_;clear hK2 K2));refine sxz (hK' _ (AW.st (by simp [dNum,dS,lxq,lxq32,binS,bs_list];rfl) ?_));clear hK' K';refine AW_ff rfl ?_;refine AW_skip (hK8 _ ?_);refine AW_re (tyOf_good _) fun K' hK'=>?_;(repeat (refine sxn fun K2 hK2=>?_;simp [dNum,dS,bs_size];(repeat (refine ⟨by omega,?_⟩));refine hK2 _ ?_;clear hK2 K2));refine sxz (hK' _ ?_);clear hK' K';(try simp only [thn,inb]);refine And.intro ⟨s,hn⟩ ?_;rw [hinv _ _ hn,hpl,hNN,hRR,hNA,hRA];unfold pHp;refine (show Imp _ _ _ _ _ ⟨lst [],hlst _⟩ from ?_);refine Imp.to' (notIn_ok rfl) (by simp [dNum,dS,hpl]) (by simp [dNum,dS,hpl])
  have hz:Lib.trimB ln 32≠[]:=fun h=>h0 (htw.1 h)
  have hst0:stepS s pk ln=match lineP ln with
   | .form=>.inl (3,pk)
   | .bad c off=>.inl (c,pk+off)
   | .name n=>if s.rungs=[] then .inr ⟨s.names ++ [n],s.nAt ++ [pk],s.rungs,s.rAt⟩ else .inl (3,pk)
   | .rung r=>.inr ⟨s.names,s.nAt,s.rungs ++ [r],s.rAt ++ [pk]⟩:=by unfold stepS;rw [if_neg h0];cases lineP ln<;>rfl
  have hlp:=hline h0
  simp only [dS] at hlp;generalize Lib.trimB ln 32=tz at htr hz;refine rg [2,3,4,5,6,7,8,27] [2,3,4,5,6,7,801,802,803,804] (notIn_ok rfl) fun K' hK'=>?_;(repeat (refine sxn fun K2 hK2=>?_;simp [dNum,dS,lxq,lxq32,binS,bs_list,hz];(repeat (refine ⟨by omega,?_⟩));refine hK2 _ ?_;clear hK2 K2));refine sxn fun K2 hK2=>?_;simp [dNum,dS,lxq,lxq32,binS,bs_list,hz];refine callK.data (htr) (by simp;rfl) (by first | exact D.leGo_refl _ | simp [takeMap,List.map_map,Function.comp_def,D.le,D.le.go,D.le_refl,D.leGo_refl,dNum,dS,lxq,lxq32,binS,bs_list,hz]) ?_;refine hK2 _ ?_;clear hK2 K2;simp only [putd,upd_lst];(repeat (refine sxn fun K2 hK2=>?_;simp [dNum,dS,lxq,lxq32,binS,bs_list,hz];(repeat (refine ⟨by omega,?_⟩));refine hK2 _ ?_;clear hK2 K2));refine sxz (hK' _ (AW.st (by simp [dNum,dS,lxq,lxq32,binS,bs_list,hz];rfl) ?_));clear hK' K';refine AW_cond true (by simp [hz]) (fun _=>?_) (fun h=>by cases h)
  have hlb:=fun c off=>line_bad (s:=ln) (c:=c) (off:=off)
  cases hlk:lineP ln with
  | form=>
   rw [hlk] at hlp hst0
   dsimp only at hst0
   simp only [dLine] at hlp
   have hp:=herr _ _ hst0
   refine rgc fw hlp [2,3,4,5,6,7,8,9,10,11] [2,3,4,5,6,7,801,802,803,804] ?_;refine AW_then fun K9 hK9=>?_;refine rgq (Aq fw (Aq @pairA.eq_1 (Aq @pairA.eq_2 @assertA.eq_1))) [2,3,4,5,6,7,8,9,10,11,12,13] [2,3,4,5,6,7,801,802,803,804] ?_;refine rgq fw [2,3,4,5,6,7,8,9,10,11,12,39] [2,3,4,5,6,7,801,802,803,804] ?_;refine AW_ff rfl ?_;refine AW_skip (hK9 _ ?_);refine AW_block ?_;refine AW_then fun K10 hK10=>?_;refine rgq fw [2,3,4,5,6,7,8,9,10,66] [2,3,4,5,6,7,801,802,803,804] ?_;refine AW_tt rfl ?_;refine AW_skip (hK10 _ ?_);refine AW_tt rfl ?_;refine AW_rQ (tyOf_good _) (by kernel_rfl) ([3]) ([(1,7),(5,2),(6,3)]) (List.range 7) [2,3] [2,3,4,5,6,7,801,802,803,804] (notIn_ok rfl) (by kernel_rfl) fun K' hK'=>?_;(repeat (refine sxQ_nextO rfl fun K2 hK2=>?_;simp [dNum,dS];(repeat (refine ⟨by omega,?_⟩));refine hK2 _ ?_;clear hK2 K2));refine sxQ_nilO (hK' _ ?_);refine AW.st (by simp [dNum,dS];rfl) ?_;clear hK' K';refine AW_ret (Exists.intro _ (And.intro (Imp.env (by intro i x h;cases h)) ?_));simp [D.le,D.le.go,takeMap,hp,dPg,cPg,dNms,dRgs,dErr,nil2,dNum]
  | bad c off=>
   rw [hlk] at hlp hst0
   dsimp only at hst0
   simp only [dLine] at hlp
   have hp:=herr _ _ hst0
   have ho:=hlb c off hlk
   have hcs:((pk+off:Nat):Int)=(pk:Int)+(off:Int):=by omega
   refine rgc fw hlp [2,3,4,5,6,7,8,9,10,11] [2,3,4,5,6,7,801,802,803,804] ?_;refine AW_then fun K9 hK9=>?_;refine rgq (Aq fw (Aq @pairA.eq_1 (Aq @pairA.eq_2 @assertA.eq_1))) [2,3,4,5,6,7,8,9,10,11,12,13] [2,3,4,5,6,7,801,802,803,804] ?_;refine rgq fw [2,3,4,5,6,7,8,9,10,11,12,39] [2,3,4,5,6,7,801,802,803,804] ?_;refine AW_tt rfl ?_;refine AW_rQ (tyOf_good _) (by kernel_rfl) ([12]) ([(4,999),(5,7),(9,999),(14,2),(15,3)]) (List.range 16) [2,3] [2,3,4,5,6,7,801,802,803,804] (notIn_ok rfl) (by kernel_rfl) fun K' hK'=>?_;(repeat (refine sxQ_nextO rfl fun K2 hK2=>?_;simp [dNum,dS];(repeat (refine ⟨by omega,?_⟩));refine hK2 _ ?_;clear hK2 K2));refine sxQ_nilO (hK' _ ?_);refine AW.st (by simp [dNum,dS];rfl) ?_;clear hK' K';refine AW_ret (Exists.intro _ (And.intro (Imp.env (by intro i x h;cases h)) ?_));simp [D.le,D.le.go,takeMap,hp,dPg,cPg,dNms,dRgs,dErr,nil2,dNum,hcs]
  | name n=>
   rw [hlk] at hlp hst0
   dsimp only at hst0
   simp only [dLine] at hlp
   have hcn:cNm n=[.v (.string (bs n.name)),.v (.int .i64 n.kind),.v (.int .i64 n.count)]:=rfl
   have hNs:(s.names ++ [n]).map cNm=NN ++ [cNm n]:=by rw [List.map_append,hNN];rfl
   have hAs:dPls (s.nAt ++ [pk])=NA ++ [[.v (.int .i64 pk)]]:=by rw [← hNA];unfold dPls;rw [List.map_append];rfl
   generalize bs n.name=nm at hcn;generalize n.kind=kd at hcn;generalize n.count=ct at hcn;rw [hcn] at hlp hNs;refine rgc fw hlp [2,3,4,5,6,7,8,9,10,11] [2,3,4,5,6,7,801,802,803,804] ?_;refine AW_then fun K9 hK9=>?_;refine rgq (Aq fw (Aq @pairA.eq_1 (Aq @pairA.eq_2 @assertA.eq_1))) [2,3,4,5,6,7,8,9,10,11,12,13] [2,3,4,5,6,7,801,802,803,804] ?_;refine rgq fw [2,3,4,5,6,7,8,9,10,11,12,39] [2,3,4,5,6,7,801,802,803,804] ?_;refine AW_ff rfl ?_;refine AW_skip (hK9 _ ?_);refine AW_block ?_;refine AW_then fun K10 hK10=>?_;refine rgq fw [2,3,4,5,6,7,8,9,10,66] [2,3,4,5,6,7,801,802,803,804] ?_;refine AW_ff rfl ?_
   by_cases hr0:s.rungs=[]
   ·rw [if_pos hr0] at hst0
    have hn:=hnx _ hst0
    have hra0:RA=[]:=List.length_eq_zero_iff.1 (by rw [hRA2,hr0];rfl)
    subst hra0;refine reK fw hK10 [2,3,4,5,6,7,8,9,10,66] [2,3,4,5,6,7,801,802,803,804] ?_;refine AW_ff rfl ?_;refine rgq fw [2,3,4,5,6,7,8,9,10,81] [2,3,4,5,6,7,801,802,803,804] ?_;refine AW_ff rfl ?_;refine AW_rle (tyOf_good _) (by kernel_rfl) ([(6,(801,59)),(10,(803,63))]) ([(7,[801]),(8,[801]),(9,[801]),(11,[803])]) ([0,1,2,3,4,7,8,5,9,6,11,10,12,13]) (by kernel_rfl) fun K' hK'=>?_;(repeat (refine sxl_nextO rfl fun K2 hK2=>?_;simp [dNum,dS,List.take_of_length_le];(repeat (refine ⟨by omega,?_⟩));refine hK2 _ ?_;clear hK2 K2));refine sxl_nilO (hK' _ ?_);clear hK' K';refine hK8 _ (AW.norm [2,3,4,5,6,7,8] [2,3,4,5,6,7,801,802,803,804] (notIn_ok rfl) (AW.st (by simp [dNum,dS,List.take_of_length_le];rfl) ?_));refine AW_re (tyOf_good _) fun K' hK'=>?_;(repeat (refine sxn fun K2 hK2=>?_;simp [dNum,dS,bs_size];(repeat (refine ⟨by omega,?_⟩));refine hK2 _ ?_;clear hK2 K2));refine sxz (hK' _ ?_);clear hK' K';(try simp only [thn,inb]);refine And.intro ⟨_,hn⟩ ?_;rw [hinv _ _ hn,hpl]
    dsimp only
    rw [hNs,hAs,hRR,hRA];unfold pHp;refine (show Imp _ _ _ _ _ ⟨lst [],hlst _⟩ from ?_);refine Imp.to' (notIn_ok rfl) (by simp [dNum,dS,hpl]) (by simp [dNum,dS,hpl])
   ·rw [if_neg hr0] at hst0
    have hp:=herr _ _ hst0
    have hra0:0 < RA.length:=by rw [hRA2];exact List.length_pos_iff.2 hr0
    have qf:=(Aq fw @hra0)
    refine reKv hK10 [2,3,4,5,6,7,8,9,10,66] [2,3,4,5,6,7,801,802,803,804] ?_;refine AW_cond true (by simp [hra0]) (fun _=>?_) (fun h=>by cases h);refine AW_rQ (tyOf_good _) (by kernel_rfl) ([3]) ([(1,7),(5,2),(6,3)]) (List.range 7) [2,3] [2,3,4,5,6,7,801,802,803,804] (notIn_ok rfl) (by kernel_rfl) fun K' hK'=>?_;(repeat (refine sxQ_nextO rfl fun K2 hK2=>?_;simp [dNum,dS];(repeat (refine ⟨by omega,?_⟩));refine hK2 _ ?_;clear hK2 K2));refine sxQ_nilO (hK' _ ?_);refine AW.st (by simp [dNum,dS];rfl) ?_;clear hK' K';refine AW_ret (Exists.intro _ (And.intro (Imp.env (by intro i x h;cases h)) ?_));simp [D.le,D.le.go,takeMap,hp,dPg,cPg,dNms,dRgs,dErr,nil2,dNum]
  | rung r=>
   rw [hlk] at hlp hst0
   dsimp only at hst0
   simp only [dLine] at hlp
   have hn:=hnx _ hst0
   have ho1:=dC_one r.cond
   have hcr:cRg r=[.v (.int .i64 r.kind),.v (.string (bs r.name)),dC r.cond]:=rfl
   have hRs:(s.rungs ++ [r]).map cRg=RR ++ [cRg r]:=by rw [List.map_append,hRR];rfl
   have hAs:dPls (s.rAt ++ [pk])=RA ++ [[.v (.int .i64 pk)]]:=by rw [← hRA];unfold dPls;rw [List.map_append];rfl
   generalize bs r.name=nm at hcr;generalize r.kind=kd at hcr;generalize dC r.cond=dc at hcr ho1;rw [hcr] at hlp hRs;refine rgc fw hlp [2,3,4,5,6,7,8,9,10,11] [2,3,4,5,6,7,801,802,803,804] ?_;refine AW_then fun K9 hK9=>?_;refine rgq (Aq fw (Aq @pairA.eq_1 (Aq @pairA.eq_2 @assertA.eq_1))) [2,3,4,5,6,7,8,9,10,11,12,13] [2,3,4,5,6,7,801,802,803,804] ?_;refine rgq fw [2,3,4,5,6,7,8,9,10,11,12,39] [2,3,4,5,6,7,801,802,803,804] ?_;refine AW_ff rfl ?_;refine AW_skip (hK9 _ ?_);refine AW_block ?_;refine AW_then fun K10 hK10=>?_;refine rgq fw [2,3,4,5,6,7,8,9,10,66] [2,3,4,5,6,7,801,802,803,804] ?_;refine AW_ff rfl ?_;refine reK fw hK10 [2,3,4,5,6,7,8,9,10,66] [2,3,4,5,6,7,801,802,803,804] ?_;refine AW_ff rfl ?_;refine rgq fw [2,3,4,5,6,7,8,9,10,81] [2,3,4,5,6,7,801,802,803,804] ?_;refine AW_tt rfl ?_;refine AW_rle (tyOf_good _) (by kernel_rfl) ([(6,(802,89)),(10,(804,93))]) ([(7,[802]),(8,[802]),(9,[802]),(11,[804])]) ([0,1,2,3,4,7,8,5,9,6,11,10,12,13]) (by kernel_rfl) fun K' hK'=>?_;(repeat (refine sxl_nextO rfl fun K2 hK2=>?_;simp [dNum,dS,List.take_of_length_le,ho1];(repeat (refine ⟨by omega,?_⟩));refine hK2 _ ?_;clear hK2 K2));refine sxl_nilO (hK' _ ?_);clear hK' K';refine hK8 _ (AW.norm [2,3,4,5,6,7,8] [2,3,4,5,6,7,801,802,803,804] (notIn_ok rfl) (AW.st (by simp [dNum,dS,List.take_of_length_le,ho1];rfl) ?_));refine AW_re (tyOf_good _) fun K' hK'=>?_;(repeat (refine sxn fun K2 hK2=>?_;simp [dNum,dS,bs_size];(repeat (refine ⟨by omega,?_⟩));refine hK2 _ ?_;clear hK2 K2));refine sxz (hK' _ ?_);clear hK' K';(try simp only [thn,inb]);refine And.intro ⟨_,hn⟩ ?_;rw [hinv _ _ hn,hpl]
   dsimp only
   rw [hRs,hAs,hNN,hNA];unfold pHp;refine (show Imp _ _ _ _ _ ⟨lst [],hlst _⟩ from ?_);refine Imp.to' (notIn_ok rfl) (by simp [dNum,dS,hpl]) (by simp [dNum,dS,hpl])
end Go.Proofs.YthnjfeielmbfkaaGreatDoor
namespace Go.Proofs.YthnjfeielmbfkaaGreatDoor
open Go.Av
def limT (S P:Int) (n:Nat):Prop:=S < 1∨3 < S∨P < 0∨2 < P∨n < 1∨3 < n
instance (S P:Int) (n:Nat):Decidable (limT S P n):=inferInstanceAs (Decidable (_∨_))
end Go.Proofs.YthnjfeielmbfkaaGreatDoor
namespace Go.Proofs.YthnjfeielmbfkaaGreatDoor
open Go.Av
set_option maxHeartbeats 1000000 in
theorem ldw_ix (G:Glob) (k0:Option Bool) (t:List (List UInt8)) (s:List UInt8) (hs:s≠[]) (ht:t.length < 2^60):PureC Tryz.prog G 86 [.sl k0 (t.map fun x=>[dS x]),dS s] (dNum (idx (fun x=>x == s) t)):=by
 have hs0:s.isEmpty=false:=by rw [List.isEmpty_eq_false_iff];exact hs
 refine PureC.of_body (tyOf_good _) Tryz.func86 rfl rfl (rs:=[.tmp 4]) Tryz.results86 (by simp [Tryz.ntmps86]) fun X=>?_;simp only [Tryz.ntmps86,List.map]
 have fw:=@dNum.eq_1
 refine rgq fw [0,1] [] ?_;refine AW_then fun K1 hK1=>?_;refine rgq fw [1,7,8,9] [] ?_;refine AW_for (S:=Nat) (fun n=>n≤t.length∧∀ i (hi:i < t.length),i < n→(t[i] == s)=false) (fun n=>⟨lst [(1,.d (dS s)),(7,.d (.sl k0 (t.map fun x=>[dS x]))),(8,int t.length),(9,int n)],hlst []⟩) (fun n=>t.length - n) 0 ?_ (by simp) ?_
 ·refine Imp.to' (fun _ _=>trivial) (by simp [dNum]) (by simp [dNum])
 ·rintro n ⟨hn,hp⟩
  refine rgq fw [1,7,8,9,10] [] ?_;refine AW_then fun K2 hK2=>?_;refine AW_cond' (b:=n < t.length) (by simp [D.le,D.le.go,takeMap,dNum]) (fun hc=>?_) (fun hc=>?_)
  ·have hnt:n < t.length:=hc
   refine AW_skip (hK2 _ ?_);refine AW_then fun K3 hK3=>?_;refine AW_block ?_
   have qf:=(Aq fw @hnt)
   refine rgqv [1,5,6,7,8,9] [] ?_
   cases he:(t[n] == s) with
   | true=>
    have he2:t[n]=s:=by simpa using he
    refine rg [1,5,7,8,9,20] [] (fun _ _=>trivial) fun K' hK'=>?_;(repeat (refine sxn fun K2 hK2=>?_;simp [dNum,dS,he2,binS,bs_nil,bs_list,hs,hs0];(repeat (refine ⟨by omega,?_⟩));refine hK2 _ ?_;clear hK2 K2));refine sxz (hK' _ (AW.st (by simp [dNum,dS,he2,binS,bs_nil,bs_list,hs,hs0];rfl) ?_));clear hK' K';refine AW_tt rfl ?_;refine rgq fw [4] [] ?_;refine AW_ret ?_;simp [D.le,D.le.go,takeMap,dNum];exact (idx_hit hnt he fun i hi=>hp i (by omega) hi).symm
   | false=>
    have he2:¬ t[n]=s:=by simpa using he
    refine rg [1,5,7,8,9,20] [] (fun _ _=>trivial) fun K' hK'=>?_;(repeat (refine sxn fun K2 hK2=>?_;simp [dNum,dS,he,he2,binS,bs_nil,bs_list];(repeat (refine ⟨by omega,?_⟩));refine hK2 _ ?_;clear hK2 K2));refine sxz (hK' _ (AW.st (by simp [dNum,dS,he,he2,binS,bs_nil,bs_list];rfl) ?_));clear hK' K';refine AW_ff rfl ?_;refine AW_skip ?_;refine hK3 _ (AW.norm [1,7,8,9] [] (fun _ _=>trivial) (AW.st (by simp [dNum];rfl) ?_));refine AW_re (tyOf_good _) fun K' hK'=>?_;(repeat (refine sxn fun K2 hK2=>?_;simp [dNum];(repeat (refine ⟨by omega,?_⟩));refine hK2 _ ?_;clear hK2 K2));refine sxz (hK' _ ?_);clear hK' K';(try simp only [thn,inb]);refine Again.mk (n+1) ⟨by omega,fun i hi hin=>?_⟩ (by omega) ?_
    ·by_cases h:i=n
     ·subst h;exact he
     ·exact hp i hi (by omega)
    refine Imp.to' (fun _ _=>trivial) (by simp [dNum,dS]) (by simp [dNum,dS])
  ·refine AW_exit (hK1 _ ?_);refine rgq fw [4] [] ?_;refine AW_ret ?_;simp [D.le,D.le.go,takeMap,dNum];exact (idx_miss fun i hi=>hp i hi (by omega)).symm
end Go.Proofs.YthnjfeielmbfkaaGreatDoor
namespace Go.Proofs.YthnjfeielmbfkaaGreatDoor
open Go.Av
def HasNW (G:Glob):Prop:=G 3=some (.ip [.sl none [[.v (.string (bs []))],[.v (.string (bs [105,110,112,117,116]))],[.v (.string (bs [99,111,105,108]))],[.v (.string (bs [116,105,109,101,114]))],[.v (.string (bs [99,111,117,110,116,101,114]))]]])
def HasRW (G:Glob):Prop:=G 2=some (.ip [.sl none [[.v (.string (bs []))],[.v (.string (bs []))],[.v (.string (bs [115,101,116]))],[.v (.string (bs [114,101,115,101,116]))],[.v (.string (bs [114,117,110]))],[.v (.string (bs [99,111,117,110,116]))],[.v (.string (bs [122,101,114,111]))]]])
end Go.Proofs.YthnjfeielmbfkaaGreatDoor
namespace Go.Proofs.YthnjfeielmbfkaaGreatDoor
open Go.Av
theorem checkP_code {p:PgP} {c:Int} {o:Option Nat} (h:checkP p=some (c,o)):c≠0:=by
 unfold checkP at h
 split at h
 ·simp only [Option.some.injEq,Prod.mk.injEq] at h;omega
 split at h
 ·rename_i hf
  simp only [Option.some.injEq,Prod.mk.injEq] at h
  have:=(firstBad_lt hf).2.2
  rw [← h.1];exact this
 split at h
 ·rename_i hf
  simp only [Option.some.injEq,Prod.mk.injEq] at h
  have:=(firstBad_lt hf).2.2
  rw [← h.1];exact this
 ·cases h
theorem nameF_len {s:Tx} (h:nameF s=true):s≠[]∧s.length≤8:=by
 unfold nameF at h;simp only [Bool.and_eq_true,decide_eq_true_eq] at h;exact ⟨h.1,h.2.1⟩
end Go.Proofs.YthnjfeielmbfkaaGreatDoor
namespace Go.Proofs.YthnjfeielmbfkaaGreatDoor
open Go.Av
theorem lineP_dp {s:Tx} {r:RgP} (h:lineP s = .rung r):∃ e,r.cond=some e∧WfE e∧dpI e≤20∧bE e≤10000:=by
 unfold lineP at h
 split at h
 ·obtain ⟨k,nm,hm,hr⟩:=rungL_ok h
  obtain ⟨e,he,hp,_,hn,_⟩:=rungP_ok hr
  exact ⟨e,he,(parse_wf hp).1,(parse_wf hp).2,parse_b hp⟩
 ·exact absurd h nameL_rung
def CondOk (r:RgP):Prop:=∃ e,r.cond=some e∧WfE e∧dpI e≤20∧bE e≤10000
theorem prK_cond {l:List Tx}:∀ {k:Nat} {s:PrS},prK l k = .inr s→∀ r∈s.rungs,CondOk r
 | 0,s,h=>by
  simp only [prK,Sum.inr.injEq] at h;subst h;simp [prS0]
 | k+1,s,h=>by
  rw [prK] at h
  cases hk:prK l k with
  | inl e=>rw [hk] at h;cases h
  | inr s0=>
   rw [hk] at h
   dsimp only at h
   have ih:=prK_cond hk
   unfold stepS at h
   split at h
   ·simp only [Sum.inr.injEq] at h;subst h;exact ih
   ·split at h
    ·cases h
    ·cases h
    ·split at h
     ·simp only [Sum.inr.injEq] at h;subst h;exact ih
     ·cases h
    ·rename_i r hr
     simp only [Sum.inr.injEq] at h;subst h
     intro r' hr'
     rcases List.mem_append.1 hr' with h1 | h1
     ·exact ih r' h1
     ·obtain rfl:=List.mem_singleton.1 h1
      exact lineP_dp hr
theorem parse_ok {t:Tx} {p:PgP} (h:parseP t=(none,p)):checkP p=none∧∀ r∈p.rungs,CondOk r:=by
 unfold parseP at h
 split at h
 ·cases h
 ·split at h
  ·cases h
  ·rename_i s hs
   split at h
   ·rename_i hc
    simp only [Prod.mk.injEq,true_and] at h;subst h;exact ⟨hc,prK_cond hs⟩
   ·cases h
   ·cases h
theorem parse_err {t:Tx} {e:Int×Option Nat} (h:(parseP t).1=some e):(parseP t).2=⟨[],[]⟩:=by
 by_cases h1:20000 < t.length
 ·unfold parseP;rw [if_pos h1]
 ·cases hs:prK (cutT 10 t) (cutT 10 t).length with
  | inl ci=>obtain ⟨c,i⟩:=ci;rw [parseP_bad (by omega) hs]
  | inr s=>
   rw [parseP_end (by omega) hs] at h ⊢
   cases hc:checkP ⟨s.names,s.rungs⟩ with
   | none=>rw [hc] at h;cases h
   | some co=>
    obtain ⟨c,o⟩:=co
    cases o<;>rfl
end Go.Proofs.YthnjfeielmbfkaaGreatDoor
namespace Go.Proofs.YthnjfeielmbfkaaGreatDoor
open Go.Av
theorem rungs_take (p:PgP) (s t0:StP) {n:Nat} (h:n < p.rungs.length):(p.rungs.take (n+1)).foldl (rungS p s) t0=rungS p s ((p.rungs.take n).foldl (rungS p s) t0) p.rungs[n]:=by
 rw [List.take_succ_eq_append_getElem h,List.foldl_append];rfl
theorem rung_ask {p:PgP} (hc:checkP p=none) (hk:∀ r∈p.rungs,CondOk r) {r:RgP} (hr:r∈p.rungs):∃ e,r.cond=some e∧AskE (fun nm=>¬ numP p nm < 0) (fun nm=>¬ numP p nm < 0) e∧bE e≤2^28:=by
 obtain ⟨e,he,hw,_,hb⟩:=hk r hr
 obtain ⟨_,_,e',he',hin⟩:=checkP_rung hc r hr
 rw [he] at he'
 obtain rfl:=Option.some.inj he'
 refine ⟨e,he,ask_in hw (fun s hs=>hin s (namesE_mem.2 hs)) (fun s hs=>hin s (names_sub (namesE_mem.2 hs))),by omega⟩
set_option maxRecDepth 100000 in
set_option maxHeartbeats 32000000 in
theorem do_spec (G:Glob) (p:PgP) (hck:checkP p=none) (hk:∀ r∈p.rungs,CondOk r) (s:StP) (hs:InvS p s) (inn:List Bool) (hin:inn.length=(inputP p).length):PureC Tryz.prog G 56 [dPg p,dSt s,dBl inn] (dSt (doP p s inn)):=by
 have hg:=checkP_good hck
 have hnm:=hg.names
 have hrn:=hg.rungs
 have hs1:=hs.l1
 have hs2:=hs.l2
 have hkd:=lkind_spec G p (by omega) 1
 have hcb:=cloneB_mc G s.is (by omega)
 have hci:=cloneI_mc G s.ct (by omega)
 have hnum:=fun x=>lc_num G p (by omega) x
 have hiL:=kindN_len p.names 1 p.names.length
 obtain ⟨t0,ht0,hI0⟩:∃ t0,t0=(⟨putIn (inputP p) inn s.is (inputP p).length,s.ct⟩:StP)∧InvS p t0:=⟨_,rfl,(putIn_inv inn hs _ (Nat.le_refl _)).1⟩
 obtain ⟨T,hT⟩:∃ T:Nat→StP,∀ n,T n=(p.rungs.take n).foldl (rungS p s) t0:=⟨_,fun _=>rfl⟩
 have hT0:T 0=t0:=hT 0
 have hTs:∀ n (h:n < p.rungs.length),T (n+1)=rungS p s (T n) p.rungs[n]:=fun n h=>by rw [hT,hT,rungs_take p s t0 h]
 have hTe:T p.rungs.length=doP p s inn:=by rw [hT,List.take_length,ht0];rfl
 have hTi:∀ n,InvS p (T n):=fun n=>by rw [hT];exact (rungs_inv hck s _ (fun r hr=>List.mem_of_mem_take hr) hI0).1
 have hask:∀ n (h:n < p.rungs.length),∃ e,p.rungs[n].cond=some e∧PureC Tryz.prog G 114 [dE e,.fn (.func 112) [.ip (cSt (T n)),.ip (cPg p)],.fn (.func 113) [.ip (cSt s),.ip (cPg p)]] (.v (.bool (evE (bitF p (T n).is) (bitF p s.is) e))):=fun n h=>by
  obtain ⟨e,he,ha,hb⟩:=rung_ask hck hk (List.getElem_mem h)
  exact ⟨e,he,eval_on G _ _ _ _ _ _ _ _ (ask1 G p (by omega) (T n) (hTi n).l1) (ask2 G p (by omega) s hs1) e ha hb⟩
 clear hT;rw [← hTe]
 have hput:∀ k,k≤(inputP p).length→(putIn (inputP p) inn s.is k).length=p.names.length:=fun k hk=>(putIn_inv inn hs k hk).1.l1
 have hpus:∀ k (h:k < (inputP p).length) (h2:k < inn.length),∃ i,i < p.names.length∧(inputP p)[k]=(i:Int)∧putIn (inputP p) inn s.is (k+1)=(putIn (inputP p) inn s.is k).set i inn[k]:=fun k h h2=>by
  obtain ⟨i,hi,he,_⟩:=input_at h
  refine ⟨i,hi,he,?_⟩;rw [putIn_succ h he]
  congr 1
  exact getD_of h2
 have hp0:putIn (inputP p) inn s.is 0=s.is:=rfl
 have hpe:t0=⟨putIn (inputP p) inn s.is (inputP p).length,s.ct⟩:=ht0
 clear ht0;generalize hPI:putIn (inputP p) inn s.is=PI at hput hpus hp0 hpe;clear hPI
 have hkI:kindN p.names 1 p.names.length=inputP p:=rfl
 rw [hkI] at hkd hiL;generalize inputP p=KI at *;simp only [dPg,cPg,dNms,dRgs,dBl,dIl,cSt] at hkd hcb hci hnum hask;simp only [dPg,cPg,dNms,dRgs,dSt,cSt,dBl,dIl]
 have hNl:(p.names.map cNm).length=p.names.length:=by simp
 have hNg:∀ i (h:i < p.names.length),(p.names.map cNm)[i]? = some [.v (.string (bs p.names[i].name)),.v (.int .i64 p.names[i].kind),.v (.int .i64 p.names[i].count)]:=fun i h=>by simp [h,cNm,dS]
 have hRl:(p.rungs.map cRg).length=p.rungs.length:=by simp
 have hRg:∀ i (h:i < p.rungs.length),(p.rungs.map cRg)[i]? = some (cRg p.rungs[i]):=fun i h=>by simp [h]
 generalize p.names.map cNm=NN at *;generalize p.rungs.map cRg=RR at *;refine PureC.of_body (tyOf_good _) Tryz.func56 rfl rfl (rs:=[.cell 6 45]) Tryz.results56 (by simp [Tryz.ntmps56]) fun X=>?_;simp only [Tryz.ntmps56,List.map]
 have fw:=@dNum.eq_1
 refine rgq fw [2,3,4,6] [3,4,6] ?_;refine AW.imp (Imp.freezeB 3 trivial) ?_;refine AW.st (by simp [dNum];rfl) ?_;refine AW.imp (Imp.freezeB 4 trivial) ?_;refine AW.st (by simp [dNum];rfl) ?_;refine AW_ra (tyOf_good _) (by kernel_rfl) ([]) ([7]) ([]) ([2,5]) ([(1,.d (.ip [.sl none (s.is.map fun b=>[.v (.bool b)]),.sl none (s.ct.map fun n=>[.v (.int .i64 n)])])),(4,.d (.ip [.sl none (s.ct.map fun n=>[.v (.int .i64 n)])]))]) (List.range 9) [2,3,4,6,7] [6,7,701,702] (fun _ _=>trivial) (by kernel_rfl) (by simp [OffE]) fun K' hK'=>?_;(repeat (refine sxa_nextO rfl fun K2 hK2=>?_;simp [dNum];(repeat (refine ⟨by omega,?_⟩));refine hK2 _ ?_;clear hK2 K2));refine sxa_nextO rfl fun K2 hK2=>?_;simp [dNum];refine haK.mc (hcb) (by simp [dNum]) (by simp [dNum]) (by simp [dNum]) (by simp [dNum]) (by simp [dNum]) (by simp [dNum]) (by simp [dNum]) (by simp [LdSame,dNum]) ?_;simp [dNum];refine hK2 _ ?_;clear hK2 K2;(repeat (refine sxa_nextO rfl fun K2 hK2=>?_;simp [dNum];(repeat (refine ⟨by omega,?_⟩));refine hK2 _ ?_;clear hK2 K2));refine sxa_nextO rfl fun K2 hK2=>?_;simp [dNum];refine haK.mc (hci) (by simp [dNum]) (by simp [dNum]) (by simp [dNum]) (by simp [dNum]) (by simp [dNum]) (by simp [dNum]) (by simp [dNum]) (by simp [LdSame,dNum]) ?_;simp [dNum];refine hK2 _ ?_;clear hK2 K2;(repeat (refine sxa_nextO rfl fun K2 hK2=>?_;simp [dNum];(repeat (refine ⟨by omega,?_⟩));refine hK2 _ ?_;clear hK2 K2));refine sxa_nilO (hK' _ ?_);refine AW.st (by simp [dNum];rfl) ?_;clear hK' K';refine AW_then fun K1 hK1=>?_;refine rgc fw hkd [2,3,4,6,7,24,25,26] [6,7,701,702] ?_;refine AW_for (S:=Nat) (fun k=>k≤KI.length) (fun k=>⟨lst [(2,.d (.sl none (inn.map fun b=>[.v (.bool b)]))),(3,.d (.ip [.sl none NN,.sl none RR])),(4,.d (.ip [.sl none (s.is.map fun b=>[.v (.bool b)]),.sl none (s.ct.map fun n=>[.v (.int .i64 n)])])),(6,.ref 6 0 0),(7,.ref 7 0 0),(24,.d (.sl none (KI.map fun x=>[.v (.int .i64 x)]))),(25,int KI.length),(26,int k)],hlst [(6,.box 45 [.d (.sl (some false) []),.d (.sl (some false) [])]),(7,.box 45 [.own 701 0 (PI k).length,.own 702 0 s.ct.length]),(701,.sl 4 1 ((PI k).map fun b=>[.v (.bool b)])),(702,.sl 3 1 (s.ct.map fun n=>[.v (.int .i64 n)]))]⟩) (fun k=>KI.length - k) 0 ?_ (by omega) ?_
 ·rw [hp0];refine Imp.to' (fun _ _=>trivial) (by simp [dNum]) (by simp [dNum])
 ·intro k hkk
  have hPl:=hput k hkk
  have hPs:=hpus k
  generalize hPk:PI k=P at hPl hPs ⊢;refine rgq fw [2,3,4,6,7,24,25,26,27] [6,7,701,702] ?_;refine AW_then fun K2 hK2=>?_;refine AW_cond' (b:=k < KI.length) (by simp [D.le,D.le.go,takeMap,dNum]) (fun hc=>?_) (fun hc=>?_)
  ·have hlt:=hc
   have hk2:k < inn.length:=by omega
   obtain ⟨i,hi,hKi,hPn⟩:=hPs hlt hk2
   have hi2:i < P.length:=by omega
   refine AW_skip (hK2 _ ?_);refine AW_then fun K3 hK3=>?_;refine AW_block ?_
   have qf:=(Aq fw (Aq @hlt @hKi))
   refine rgqv [2,3,4,6,7,8,9,24,25,26] [6,7,701,702] ?_;refine AW_rdge (tyOf_good _) (by kernel_rfl) [(1,7),(6,999),(7,701),(8,701)] (by kernel_rfl) fun K' hK'=>?_;(repeat (refine sxg_next fun K2 hK2=>?_;simp [dNum,hi2,hk2];(repeat (refine ⟨by omega,?_⟩));refine hK2 _ ?_;clear hK2 K2));refine sxg_nil (hK' _ ?_);clear hK' K';refine hK3 _ (AW.norm [2,3,4,6,7,24,25,26] [6,7,701,702] (fun _ _=>trivial) (AW.st (by simp [dNum,hi2,hk2];rfl) ?_));refine AW_re (tyOf_good _) fun K' hK'=>?_;(repeat (refine sxn fun K2 hK2=>?_;simp [dNum];(repeat (refine ⟨by omega,?_⟩));refine hK2 _ ?_;clear hK2 K2));refine sxz (hK' _ ?_);clear hK' K';(try simp only [thn,inb]);refine Again.mk (k+1) (by omega) (by omega) ?_;rw [hPn];refine Imp.to' (fun _ _=>trivial) (by simp [dNum,List.map_set]) (by simp [dNum,List.map_set])
  ·have hke:k=KI.length:=by omega
   refine AW_exit (hK1 _ ?_)
   have ht0e:t0=⟨P,s.ct⟩:=by rw [hpe,← hke,hPk]
   refine rgq fw [3,4,6,7,10] [6,7,701,702] ?_;refine rgq fw [3,6,7,10,11] [6,7,701,702] ?_;refine AW_then fun K4 hK4=>?_;refine rgq fw [3,6,7,10,11,43,44,45] [6,7,701,702] ?_;refine AW_for (S:=Nat) (fun n=>n≤p.rungs.length) (fun n=>⟨lst [(3,.d (.ip [.sl none NN,.sl none RR])),(6,.ref 6 0 0),(7,.ref 7 0 0),(10,.fn (.func 112) [.ref 7 0 0,.d (.ip [.sl none NN,.sl none RR])]),(11,.d (.fn (.func 113) [.ip [.sl none (s.is.map fun b=>[.v (.bool b)]),.sl none (s.ct.map fun n=>[.v (.int .i64 n)])],.ip [.sl none NN,.sl none RR]])),(43,.d (.sl none RR)),(44,int RR.length),(45,int n)],hlst [(6,.box 45 [.d (.sl (some false) []),.d (.sl (some false) [])]),(7,.box 45 [.own 701 0 (T n).is.length,.own 702 0 (T n).ct.length]),(701,.sl 4 1 ((T n).is.map fun b=>[.v (.bool b)])),(702,.sl 3 1 ((T n).ct.map fun n=>[.v (.int .i64 n)]))]⟩) (fun n=>p.rungs.length - n) 0 ?_ (by omega) ?_
   ·rw [hT0,ht0e];refine Imp.to' (fun _ _=>trivial) (by simp [dNum]) (by simp [dNum])
   ·intro n hn
    have hTn:=hTs n
    have hin2:=hTi n
    have hasn:=hask n
    generalize hTn0:T n=tn at hTn hin2 hasn ⊢
    obtain ⟨I,C⟩:=tn
    have hIl:=hin2.l1
    have hCl:=hin2.l2
    have hsm:=inv_small hck hin2
    dsimp only at hIl hCl hsm hasn ⊢
    refine rgq fw [3,6,7,10,11,43,44,45,46] [6,7,701,702] ?_;refine AW_then fun K5 hK5=>?_
    by_cases hlt:n < p.rungs.length
    ·have hlt2:n < RR.length:=by omega
     have hlt3:(n:Int) < (RR.length:Int):=by omega
     refine AW_cond true (by simp [hlt2]) (fun _=>?_) (fun h=>by cases h);refine AW_skip (hK5 _ ?_);refine AW_then fun K6 hK6=>?_;refine AW_block ?_
     obtain ⟨e,he,hev⟩:=hasn hlt
     obtain ⟨i,hi,hni,_,hcnt⟩:=rung_at hck (List.getElem_mem hlt)
     obtain ⟨hkr,_⟩:=checkP_rung hck _ (List.getElem_mem hlt)
     have hTn2:=hTn hlt
     have hRi:=hRg n hlt
     have hnu:=hnum p.rungs[n].name
     rw [hni] at hnu;unfold rungS at hTn2;simp only [hni,Int.toNat_natCast,hcnt,he,evC] at hTn2;unfold cRg at hRi;rw [he] at hRi;generalize p.rungs[n]=r at hRi hnu hkr hTn2
     obtain ⟨rk,rn,rc⟩:=r
     dsimp only at hRi hnu hkr hTn2
     generalize evE (bitF p I) (bitF p s.is) e=yes at hev hTn2
     obtain ⟨ety,ev,hee⟩:=dE_ifc e
     rw [show dC (some e)=dE e from rfl,hee] at hRi;rw [hee] at hev;simp only [dS] at hnu hRi
     have hNi:=hNg i hi
     have hi1:i < I.length:=by omega
     have hi2:i < C.length:=by omega
     have hi3:i < NN.length:=by omega
     have hNi2:NN[i]=[.v (.string (bs p.names[i].name)),.v (.int .i64 p.names[i].kind),.v (.int .i64 p.names[i].count)]:=by
      rw [List.getElem?_eq_getElem hi3] at hNi;exact Option.some.inj hNi
     have hRi2:RR[n]=[.v (.int .i64 rk),.v (.string (bs rn)),.ifc ety ev]:=by
      rw [List.getElem?_eq_getElem hlt2] at hRi;exact Option.some.inj hRi
     have hrun:=run_mc G ⟨I,C⟩ i p.names[i].count yes hi1 hi2 (fun x hx=>by have:=hsm x hx;omega)
     generalize p.names[i].count=m at hNi2 hTn2 hrun;generalize p.names[i].name=nmi at hNi2;generalize p.names[i].kind=kdi at hNi2
     have qf:=(Aq fw (Aq @hlt2 (Aq @hlt3 @hRi2)))
     refine rgqv [3,6,7,10,11,13,43,44,45] [6,7,701,702,13] ?_;refine AW.imp (Imp.freezeB 13 trivial) ?_;refine AW.st (by simp [dNum];rfl) ?_;refine rgc fw hnu [3,6,7,10,11,13,14,43,44,45] [6,7,701,702] ?_;refine rg [3,6,7,10,11,13,14,15,43,44,45] [6,7,701,702] (fun _ _=>trivial) fun K' hK'=>?_;(repeat (refine sxn fun K2 hK2=>?_;simp [dNum];(repeat (refine ⟨by omega,?_⟩));refine hK2 _ ?_;clear hK2 K2));refine sxn fun K2 hK2=>?_;simp [dNum];refine callK.lend (hev) (by simp;rfl) (by first | exact D.leGo_refl _ | simp [takeMap,List.map_map,Function.comp_def,D.le,D.le.go,D.le_refl,D.leGo_refl,dNum]) (by simp [D.scalar]) ?_;refine hK2 _ ?_;clear hK2 K2;simp only [putd,upd_lst];(repeat (refine sxn fun K2 hK2=>?_;simp [dNum];(repeat (refine ⟨by omega,?_⟩));refine hK2 _ ?_;clear hK2 K2));refine sxz (hK' _ (AW.st (by simp [dNum];rfl) ?_));clear hK' K';refine rgq fw [3,6,7,10,11,14,15,43,44,45,59] [6,7,701,702] ?_;refine AW_block ?_
     have hk6:rk=1∨rk=2∨rk=3∨rk=4∨rk=5∨rk=6:=by omega
     rcases hk6 with rfl | rfl | rfl | rfl | rfl | rfl
     ·have hTn2:=hTn2
      simp at hTn2;refine rgq fw [3,6,7,10,11,14,15,43,44,45,59,60] [6,7,701,702] ?_;refine AW_tt rfl ?_
      have qf:=(Aq fw @hi1)
      refine reKv hK6 [3,6,7,10,11,43,44,45] [6,7,701,702] ?_;refine AW_re (tyOf_good _) fun K' hK'=>?_;(repeat (refine sxn fun K2 hK2=>?_;simp [dNum];(repeat (refine ⟨by omega,?_⟩));refine hK2 _ ?_;clear hK2 K2));refine sxz (hK' _ ?_);clear hK' K';(try simp only [thn,inb]);refine Again.mk (n+1) (by omega) (by omega) ?_;rw [hTn2];refine Imp.to' (fun _ _=>trivial) (by simp [dNum,List.map_set]) (by simp [dNum,List.map_set])
     ·have hTn2:=hTn2
      rw [getD_of hi1] at hTn2;refine rgq fw [3,6,7,10,11,14,15,43,44,45,59,60] [6,7,701,702] ?_;refine AW_ff rfl ?_;refine rgq fw [3,6,7,10,11,14,15,43,44,45,59,67] [6,7,701,702] ?_;refine AW_tt rfl ?_
      cases hIb:I[i] with
      | true=>
       rw [hIb] at hTn2;simp at hTn2;refine AW_rdge (tyOf_good _) (by kernel_rfl) [(1,7),(4,7),(6,701),(7,701),(11,701),(12,701)] (by kernel_rfl) fun K' hK'=>?_;(repeat (refine sxg_next fun K2 hK2=>?_;simp [dNum,hi1,hIb];(repeat (refine ⟨by omega,?_⟩));refine hK2 _ ?_;clear hK2 K2));refine sxg_nil (hK' _ ?_);clear hK' K';refine hK6 _ (AW.norm [3,6,7,10,11,43,44,45] [6,7,701,702] (fun _ _=>trivial) (AW.st (by simp [dNum,hi1,hIb];rfl) ?_));refine AW_re (tyOf_good _) fun K' hK'=>?_;(repeat (refine sxn fun K2 hK2=>?_;simp [dNum];(repeat (refine ⟨by omega,?_⟩));refine hK2 _ ?_;clear hK2 K2));refine sxz (hK' _ ?_);clear hK' K';(try simp only [thn,inb]);refine Again.mk (n+1) (by omega) (by omega) ?_;rw [hTn2];refine Imp.to' (fun _ _=>trivial) (by simp [dNum,List.map_set]) (by simp [dNum,List.map_set])
      | false=>
       rw [hIb] at hTn2;simp at hTn2;refine AW_rdge (tyOf_good _) (by kernel_rfl) [(1,7),(4,7),(6,701),(7,701),(11,701),(12,701)] (by kernel_rfl) fun K' hK'=>?_;(repeat (refine sxg_next fun K2 hK2=>?_;simp [dNum,hi1,hIb];(repeat (refine ⟨by omega,?_⟩));refine hK2 _ ?_;clear hK2 K2));refine sxg_nil (hK' _ ?_);clear hK' K';refine hK6 _ (AW.norm [3,6,7,10,11,43,44,45] [6,7,701,702] (fun _ _=>trivial) (AW.st (by simp [dNum,hi1,hIb];rfl) ?_));refine AW_re (tyOf_good _) fun K' hK'=>?_;(repeat (refine sxn fun K2 hK2=>?_;simp [dNum];(repeat (refine ⟨by omega,?_⟩));refine hK2 _ ?_;clear hK2 K2));refine sxz (hK' _ ?_);clear hK' K';(try simp only [thn,inb]);refine Again.mk (n+1) (by omega) (by omega) ?_;rw [hTn2];refine Imp.to' (fun _ _=>trivial) (by simp [dNum,List.map_set]) (by simp [dNum,List.map_set])
     ·have hTn2:=hTn2
      rw [getD_of hi1] at hTn2;refine rgq fw [3,6,7,10,11,14,15,43,44,45,59,60] [6,7,701,702] ?_;refine AW_ff rfl ?_;refine rgq fw [3,6,7,10,11,14,15,43,44,45,59,67] [6,7,701,702] ?_;refine AW_ff rfl ?_;refine rgq fw [3,6,7,10,11,14,15,43,44,45,59,81] [6,7,701,702] ?_;refine AW_tt rfl ?_
      cases hIb:I[i] with
      | true=>
       rw [hIb] at hTn2;simp at hTn2;refine AW_rdge (tyOf_good _) (by kernel_rfl) [(1,7),(4,7),(6,701),(7,701),(12,701),(13,701)] (by kernel_rfl) fun K' hK'=>?_;(repeat (refine sxg_next fun K2 hK2=>?_;simp [dNum,hi1,hIb];(repeat (refine ⟨by omega,?_⟩));refine hK2 _ ?_;clear hK2 K2));refine sxg_nil (hK' _ ?_);clear hK' K';refine hK6 _ (AW.norm [3,6,7,10,11,43,44,45] [6,7,701,702] (fun _ _=>trivial) (AW.st (by simp [dNum,hi1,hIb];rfl) ?_));refine AW_re (tyOf_good _) fun K' hK'=>?_;(repeat (refine sxn fun K2 hK2=>?_;simp [dNum];(repeat (refine ⟨by omega,?_⟩));refine hK2 _ ?_;clear hK2 K2));refine sxz (hK' _ ?_);clear hK' K';(try simp only [thn,inb]);refine Again.mk (n+1) (by omega) (by omega) ?_;rw [hTn2];refine Imp.to' (fun _ _=>trivial) (by simp [dNum,List.map_set]) (by simp [dNum,List.map_set])
      | false=>
       rw [hIb] at hTn2;simp at hTn2;refine AW_rdge (tyOf_good _) (by kernel_rfl) [(1,7),(4,7),(6,701),(7,701),(12,701),(13,701)] (by kernel_rfl) fun K' hK'=>?_;(repeat (refine sxg_next fun K2 hK2=>?_;simp [dNum,hi1,hIb];(repeat (refine ⟨by omega,?_⟩));refine hK2 _ ?_;clear hK2 K2));refine sxg_nil (hK' _ ?_);clear hK' K';refine hK6 _ (AW.norm [3,6,7,10,11,43,44,45] [6,7,701,702] (fun _ _=>trivial) (AW.st (by simp [dNum,hi1,hIb];rfl) ?_));refine AW_re (tyOf_good _) fun K' hK'=>?_;(repeat (refine sxn fun K2 hK2=>?_;simp [dNum];(repeat (refine ⟨by omega,?_⟩));refine hK2 _ ?_;clear hK2 K2));refine sxz (hK' _ ?_);clear hK' K';(try simp only [thn,inb]);refine Again.mk (n+1) (by omega) (by omega) ?_;rw [hTn2];refine Imp.to' (fun _ _=>trivial) (by simp [dNum,List.map_set]) (by simp [dNum,List.map_set])
     ·have hTn2:=hTn2
      simp at hTn2;refine rgq fw [3,6,7,10,11,14,15,43,44,45,59,60] [6,7,701,702] ?_;refine AW_ff rfl ?_;refine rgq fw [3,6,7,10,11,14,15,43,44,45,59,67] [6,7,701,702] ?_;refine AW_ff rfl ?_;refine rgq fw [3,6,7,10,11,14,15,43,44,45,59,81] [6,7,701,702] ?_;refine AW_ff rfl ?_;refine rgq fw [3,6,7,10,11,14,15,43,44,45,59,96] [6,7,701,702] ?_;refine AW_tt rfl ?_
      obtain ⟨I2,C2,hIC,hI2,hC2⟩:∃ I2 C2,runS ⟨I,C⟩ i m yes=⟨I2,C2⟩∧I2.length=I.length∧C2.length=C.length:=⟨_,_,rfl,by simp,by simp⟩
      rw [hIC] at hrun hTn2;simp only [stR,dNum] at hrun
      have hj1:i < I2.length:=by omega
      have hj2:i < C2.length:=by omega
      have qf:=(Aq fw (Aq @hi3 @hNi2))
      refine rgmv hrun [3,6,7,10,11,14,15,43,44,45] [6,7,701,702] ?_;refine rgq fw [3,6,7,10,11,14,43,44,45,108] [6,7,701,702] ?_
      cases yes with
      | true=>
       simp only [if_true] at hTn2;refine AW_ff rfl ?_;refine AW_skip ?_;refine hK6 _ (AW.norm [3,6,7,10,11,43,44,45] [6,7,701,702] (fun _ _=>trivial) (AW.st (by simp [dNum];rfl) ?_));refine AW_re (tyOf_good _) fun K' hK'=>?_;(repeat (refine sxn fun K2 hK2=>?_;simp [dNum];(repeat (refine ⟨by omega,?_⟩));refine hK2 _ ?_;clear hK2 K2));refine sxz (hK' _ ?_);clear hK' K';(try simp only [thn,inb]);refine Again.mk (n+1) (by omega) (by omega) ?_;rw [hTn2];refine Imp.to' (fun _ _=>trivial) (by simp [dNum,List.map_set]) (by simp [dNum,List.map_set])
      | false=>
       simp only [Bool.false_eq_true,if_false,zeroS] at hTn2;refine AW_tt rfl ?_
       have qf:=(Aq fw (Aq @hj1 @hj2))
       refine reKv hK6 [3,6,7,10,11,43,44,45] [6,7,701,702] ?_;refine AW_re (tyOf_good _) fun K' hK'=>?_;(repeat (refine sxn fun K2 hK2=>?_;simp [dNum];(repeat (refine ⟨by omega,?_⟩));refine hK2 _ ?_;clear hK2 K2));refine sxz (hK' _ ?_);clear hK' K';(try simp only [thn,inb]);refine Again.mk (n+1) (by omega) (by omega) ?_;rw [hTn2];refine Imp.to' (fun _ _=>trivial) (by simp [dNum,List.map_set]) (by simp [dNum,List.map_set])
     ·have hTn2:=hTn2
      simp at hTn2;refine rgq fw [3,6,7,10,11,14,15,43,44,45,59,60] [6,7,701,702] ?_;refine AW_ff rfl ?_;refine rgq fw [3,6,7,10,11,14,15,43,44,45,59,67] [6,7,701,702] ?_;refine AW_ff rfl ?_;refine rgq fw [3,6,7,10,11,14,15,43,44,45,59,81] [6,7,701,702] ?_;refine AW_ff rfl ?_;refine rgq fw [3,6,7,10,11,14,15,43,44,45,59,96] [6,7,701,702] ?_;refine AW_ff rfl ?_;refine rgq fw [3,6,7,10,11,14,15,43,44,45,59,117] [6,7,701,702] ?_;refine AW_tt rfl ?_
      obtain ⟨I2,C2,hIC,hI2,hC2⟩:∃ I2 C2,runS ⟨I,C⟩ i m yes=⟨I2,C2⟩∧I2.length=I.length∧C2.length=C.length:=⟨_,_,rfl,by simp,by simp⟩
      rw [hIC] at hrun hTn2;simp only [stR,dNum] at hrun;refine AW_re (tyOf_good _) fun K' hK'=>?_;(repeat (refine sxn fun K2 hK2=>?_;simp [dNum,hi3,hNi2];(repeat (refine ⟨by omega,?_⟩));refine hK2 _ ?_;clear hK2 K2));refine sxn fun K2 hK2=>?_;simp [dNum,hi3,hNi2];refine callK.mc (hrun) ?_ ?_ ?_ ?_ ?_<;>simp [dNum,hi3,hNi2];refine hK2 _ ?_;clear hK2 K2;(repeat (refine sxn fun K2 hK2=>?_;simp [dNum,hi3,hNi2];(repeat (refine ⟨by omega,?_⟩));refine hK2 _ ?_;clear hK2 K2));refine sxz (hK' _ ?_);clear hK' K';refine hK6 _ (AW.norm [3,6,7,10,11,43,44,45] [6,7,701,702] (fun _ _=>trivial) (AW.st (by simp [dNum,hi3,hNi2];rfl) ?_));refine AW_re (tyOf_good _) fun K' hK'=>?_;(repeat (refine sxn fun K2 hK2=>?_;simp [dNum];(repeat (refine ⟨by omega,?_⟩));refine hK2 _ ?_;clear hK2 K2));refine sxz (hK' _ ?_);clear hK' K';(try simp only [thn,inb]);refine Again.mk (n+1) (by omega) (by omega) ?_;rw [hTn2];refine Imp.to' (fun _ _=>trivial) (by simp [dNum,List.map_set]) (by simp [dNum,List.map_set])
     ·have hTn2:=hTn2
      simp at hTn2;refine rgq fw [3,6,7,10,11,14,15,43,44,45,59,60] [6,7,701,702] ?_;refine AW_ff rfl ?_;refine rgq fw [3,6,7,10,11,14,15,43,44,45,59,67] [6,7,701,702] ?_;refine AW_ff rfl ?_;refine rgq fw [3,6,7,10,11,14,15,43,44,45,59,81] [6,7,701,702] ?_;refine AW_ff rfl ?_;refine rgq fw [3,6,7,10,11,14,15,43,44,45,59,96] [6,7,701,702] ?_;refine AW_ff rfl ?_;refine rgq fw [3,6,7,10,11,14,15,43,44,45,59,117] [6,7,701,702] ?_;refine AW_ff rfl ?_;refine rgq fw [3,6,7,10,11,14,15,43,44,45,128] [6,7,701,702] ?_;refine AW_tt rfl ?_;refine rgq fw [3,6,7,10,11,14,43,44,45,130] [6,7,701,702] ?_
      cases yes with
      | true=>
       simp only [if_true,zeroS] at hTn2;refine AW_tt rfl ?_
       have qf:=(Aq fw (Aq @hi1 @hi2))
       refine reKv hK6 [3,6,7,10,11,43,44,45] [6,7,701,702] ?_;refine AW_re (tyOf_good _) fun K' hK'=>?_;(repeat (refine sxn fun K2 hK2=>?_;simp [dNum];(repeat (refine ⟨by omega,?_⟩));refine hK2 _ ?_;clear hK2 K2));refine sxz (hK' _ ?_);clear hK' K';(try simp only [thn,inb]);refine Again.mk (n+1) (by omega) (by omega) ?_;rw [hTn2];refine Imp.to' (fun _ _=>trivial) (by simp [dNum,List.map_set]) (by simp [dNum,List.map_set])
      | false=>
       simp only [Bool.false_eq_true,if_false] at hTn2;refine AW_ff rfl ?_;refine AW_skip ?_;refine hK6 _ (AW.norm [3,6,7,10,11,43,44,45] [6,7,701,702] (fun _ _=>trivial) (AW.st (by simp [dNum];rfl) ?_));refine AW_re (tyOf_good _) fun K' hK'=>?_;(repeat (refine sxn fun K2 hK2=>?_;simp [dNum];(repeat (refine ⟨by omega,?_⟩));refine hK2 _ ?_;clear hK2 K2));refine sxz (hK' _ ?_);clear hK' K';(try simp only [thn,inb]);refine Again.mk (n+1) (by omega) (by omega) ?_;rw [hTn2];refine Imp.to' (fun _ _=>trivial) (by simp [dNum,List.map_set]) (by simp [dNum,List.map_set])
    ·have hlt3:¬ (n:Int) < (RR.length:Int):=by omega
     have hne:n=p.rungs.length:=by omega
     refine AW_cond false (by simp;omega) (fun h=>by cases h) (fun _=>?_);refine AW_exit (hK4 _ ?_)
     have hTl:T p.rungs.length=⟨I,C⟩:=by rw [← hne];exact hTn0
     refine rgq fw [6] [6,7,701,702] ?_;refine AW_ret ?_;simp [D.le,D.le.go,takeMap,dNum,hTl,D.le_refl,D.leGo_refl]
end Go.Proofs.YthnjfeielmbfkaaGreatDoor
namespace Go.Proofs.YthnjfeielmbfkaaGreatDoor
open Go.Av
def mpIn (p:PgP) (inn:List Bool) (I:List (Value×Value)):Nat→List (Value×Value)
 | 0=>I
 | k+1=>putK (mpIn p inn I k) (bs (p.names.getD ((inputP p).getD k 0).toNat ⟨[],0,0⟩).name) (.bool (inn.getD k false))
abbrev Mp2:=List (Value×Value)×List (Value×Value)
def mpRung (p:PgP) (yes:Bool) (r:RgP) (m:Mp2):Mp2:=
 let k:=bs r.name
 let top:=(p.names.getD (numP p r.name).toNat ⟨[],0,0⟩).count
 if r.kind=1 then (putK m.1 k (.bool yes),m.2)
 else if r.kind=2 then (if yes then putK m.1 k (.bool true) else m.1,m.2)
 else if r.kind=3 then (if yes then putK m.1 k (.bool false) else m.1,m.2)
 else if r.kind=6 then (if yes then (putK m.1 k (.bool false),putK m.2 k (.int .i64 0)) else m)
 else
  let c:=intV (lookK m.2 k)
  let C1:=if yes then (if c < top then putK m.2 k (.int .i64 (c+1)) else m.2) else (if r.kind=4 then putK m.2 k (.int .i64 0) else m.2)
  (putK m.1 k (.bool (intV (lookK C1 k) == top)),C1)
def mpRungs (p:PgP) (old t:StP):List RgP→Mp2→Mp2
 | [],m=>m
 | r :: l,m=>mpRungs p old (rungS p old t r) l (mpRung p (evC (bitF p t.is) (bitF p old.is) r.cond) r m)
def mpStep (p:PgP) (s:StP) (inn:List Bool) (m:Mp2):Mp2:=mpRungs p s ⟨putIn (inputP p) inn s.is (inputP p).length,s.ct⟩ p.rungs (mpIn p inn m.1 (inputP p).length,m.2)
theorem mpRungs_take (p:PgP) (old:StP):∀ (l:List RgP) (t:StP) (m:Mp2) (n:Nat) (h:n < l.length),mpRungs p old t (l.take (n+1)) m=mpRung p (evC (bitF p ((l.take n).foldl (rungS p old) t).is) (bitF p old.is) l[n].cond) l[n] (mpRungs p old t (l.take n) m)
 | r :: l,t,m,0,_=>rfl
 | r :: l,t,m,n+1,h=>by
  have:=mpRungs_take p old l (rungS p old t r) (mpRung p (evC (bitF p t.is) (bitF p old.is) r.cond) r m) n (by simpa using h)
  simp only [List.take_succ_cons,mpRungs,List.foldl_cons,List.getElem_cons_succ];exact this
theorem mpIn_rel {p:PgP} (hg:GoodP p) {s:StP} (hs:InvS p s) (inn:List Bool) {I C:List (Value×Value)} (h:RelS p s I C):∀ k,k≤(inputP p).length→RelS p ⟨putIn (inputP p) inn s.is k,s.ct⟩ (mpIn p inn I k) C
 | 0,_=>h
 | k+1,hk=>by
  have ih:=mpIn_rel hg hs inn h k (by omega)
  obtain ⟨i,hi,he,_⟩:=input_at (p:=p) (j:=k) (by omega)
  have e1:(inputP p).getD k 0=(i:Int):=by rw [getD_of (by omega)];exact he
  have e2:p.names.getD i ⟨[],0,0⟩=p.names[i]:=getD_of hi
  rw [mpIn,e1,Int.toNat_natCast,e2,putIn_succ (by omega) he];exact rel_set hg ih (putIn_inv inn hs k (by omega)).1.l1 hi _
theorem set_self {α:Type} {l:List α} {i:Nat} {d x:α} (hi:i < l.length) (h:l.getD i d=x):l.set i x=l:=by
 rw [getD_of hi] at h;rw [← h,List.set_getElem_self]
theorem mpRung_rel {p:PgP} (hck:checkP p=none) {r:RgP} (hr:r∈p.rungs) (old:StP) {t:StP} (ht:InvS p t) {m:Mp2} (h:RelS p t m.1 m.2):RelS p (rungS p old t r) (mpRung p (evC (bitF p t.is) (bitF p old.is) r.cond) r m).1 (mpRung p (evC (bitF p t.is) (bitF p old.is) r.cond) r m).2:=by
 have hg:=checkP_good hck
 obtain ⟨i,hi,hn,hw,hd⟩:=rung_at hck hr
 obtain ⟨hk,hneg,_⟩:=checkP_rung hck r hr
 obtain ⟨i2,hi2,he2,hs2⟩:=idx_pos hneg
 have hnm:r.name=p.names[i].name:=by
  have h1:numP p r.name=(i2:Int):=he2
  have:i2=i:=by omega
  subst this
  have:p.names[i2].name=r.name:=by simpa using hs2
  exact this.symm
 have hl1:=ht.l1
 have hl2:=ht.l2
 have hlo:=ht.lo i
 have hhi:=ht.hi i hi
 have his:=h.is i hi
 have hct:=h.ct i hi
 have hcnt:=hg.count _ (List.getElem_mem hi)
 unfold mpRung rungS;simp only [hn,Int.toNat_natCast,hd];generalize evC (bitF p t.is) (bitF p old.is) r.cond=yes
 obtain ⟨kd,nm,cd⟩:=r
 dsimp only at hnm hk hw hn ⊢
 subst hnm;clear hneg he2 hs2 hr hn
 obtain ⟨is,ct⟩:=t
 obtain ⟨I,C⟩:=m
 dsimp only at his hct hl1 hl2 hlo hhi h ⊢
 have hi1:i < is.length:=by omega
 have hi2:i < ct.length:=by omega
 generalize hv:ct.getD i 0=v at *
 have hself:ct.set i v=ct:=set_self hi2 hv
 have put:∀ n,intV (lookK (putK C (bs p.names[i].name) (.int .i64 n)) (bs p.names[i].name))=n:=fun n=>by rw [lookK_put,if_pos rfl];rfl
 have fin:∀ (c:Int) (C1:List (Value×Value)),RelS p ⟨is,ct.set i c⟩ I C1→intV (lookK C1 (bs p.names[i].name))=c→∀ b,(c == p.names[i].count)=b→RelS p ⟨is.set i b,ct.set i c⟩ (putK I (bs p.names[i].name) (.bool (intV (lookK C1 (bs p.names[i].name)) == p.names[i].count))) C1:=fun c C1 h1 h2 b h3=>by
  rw [h2,h3];exact rel_set (s:=⟨is,ct.set i c⟩) hg h1 hl1 hi b
 have hk6:kd=1∨kd=2∨kd=3∨kd=4∨kd=5∨kd=6:=by omega
 have run:(kd=4∨kd=5)→∀ C1,C1=(if yes then (if intV (lookK C (bs p.names[i].name)) < p.names[i].count then putK C (bs p.names[i].name) (.int .i64 (intV (lookK C (bs p.names[i].name))+1)) else C) else C)→RelS p (runS ⟨is,ct⟩ i p.names[i].count yes) (putK I (bs p.names[i].name) (.bool (intV (lookK C1 (bs p.names[i].name)) == p.names[i].count))) C1:=fun hkd C1 hC1=>by
  have htop:1≤p.names[i].count:=by
   have:p.names[i].kind=3∨p.names[i].kind=4:=by
    rcases hkd with rfl | rfl
    ·exact .inl hw
    ·exact .inr hw
   omega
  rw [hct] at hC1;unfold runS;simp only [hv]
  cases yes with
  | true=>
   simp only [if_true] at hC1 ⊢
   by_cases hlt:v < p.names[i].count
   ·rw [if_pos hlt] at hC1
    have e:(if v+1 < p.names[i].count then v+1 else p.names[i].count)=v+1:=by split<;>omega
    rw [e,hC1];refine fin (v+1) _ (rel_cnt hg h hl2 hi _) (put _) _ ?_;exact Bool.eq_iff_iff.2 (by simp;omega)
   ·rw [if_neg hlt] at hC1
    have e:(if v+1 < p.names[i].count then v+1 else p.names[i].count)=v:=by split<;>omega
    rw [e,hC1];refine fin v C (by rw [hself];exact h) hct _ ?_;exact Bool.eq_iff_iff.2 (by simp;omega)
  | false=>
   simp only [Bool.false_eq_true,if_false] at hC1 ⊢;rw [hC1];refine fin v C (by rw [hself];exact h) hct _ ?_;exact Bool.eq_iff_iff.2 (by simp;omega)
 rcases hk6 with rfl | rfl | rfl | rfl | rfl | rfl
 ·exact rel_set hg h hl1 hi yes
 ·cases yes with
  | true=>
   show RelS p ⟨is.set i (is.getD i false || true),ct⟩ (putK I _ (.bool true)) C
   rw [Bool.or_true];exact rel_set hg h hl1 hi true
  | false=>
   show RelS p ⟨is.set i (is.getD i false || false),ct⟩ I C
   rw [Bool.or_false,set_self hi1 rfl];exact h
 ·cases yes with
  | true=>
   show RelS p ⟨is.set i (is.getD i false && !true),ct⟩ (putK I _ (.bool false)) C
   rw [Bool.not_true,Bool.and_false];exact rel_set hg h hl1 hi false
  | false=>
   show RelS p ⟨is.set i (is.getD i false && !false),ct⟩ I C
   rw [Bool.not_false,Bool.and_true,set_self hi1 rfl];exact h
 ·cases yes with
  | true=>exact run (.inl rfl) _ rfl
  | false=>
   show RelS p (zeroS (runS ⟨is,ct⟩ i p.names[i].count false) i) (putK I _ (.bool (intV (lookK (putK C _ (.int .i64 0)) _) == p.names[i].count))) (putK C _ (.int .i64 0))
   have htop:1≤p.names[i].count:=by
    have:p.names[i].kind=3:=hw
    omega
   have e:zeroS (runS ⟨is,ct⟩ i p.names[i].count false) i=⟨is.set i false,ct.set i 0⟩:=by
    simp [zeroS,runS,List.set_set]
   rw [e];refine fin 0 _ (rel_cnt hg h hl2 hi _) (put _) false ?_;simp;omega
 ·cases yes with
  | true=>exact run (.inr rfl) _ rfl
  | false=>exact run (.inr rfl) _ rfl
 ·cases yes with
  | true=>exact rel_cnt (s:=⟨is.set i false,ct⟩) hg (rel_set hg h hl1 hi false) hl2 hi 0
  | false=>exact h
theorem mpRungs_rel {p:PgP} (hck:checkP p=none) (old:StP):∀ (l:List RgP) {t:StP} {m:Mp2},(∀ r∈l,r∈p.rungs)→InvS p t→RelS p t m.1 m.2→RelS p (l.foldl (rungS p old) t) (mpRungs p old t l m).1 (mpRungs p old t l m).2
 | [],t,m,_,_,h=>h
 | r :: l,t,m,hl,ht,h=>mpRungs_rel hck old l (fun r hr=>hl r (by simp [hr])) (rung_inv hck (hl r (by simp)) old ht).1 (mpRung_rel hck (hl r (by simp)) old ht h)
theorem mpStep_rel {p:PgP} (hck:checkP p=none) {s:StP} (hs:InvS p s) (inn:List Bool) {m:Mp2} (h:RelS p s m.1 m.2):RelS p (doP p s inn) (mpStep p s inn m).1 (mpStep p s inn m).2:=
 mpRungs_rel hck s p.rungs (fun r hr=>hr) (putIn_inv inn hs _ (Nat.le_refl _)).1 (mpIn_rel (checkP_good hck) hs inn h _ (Nat.le_refl _))
end Go.Proofs.YthnjfeielmbfkaaGreatDoor
namespace Go.Proofs.YthnjfeielmbfkaaGreatDoor
open Go.Av
structure EqM (L L':List (Value×Value)):Prop where
 ok:MapOk L
 same:∀ k,lookK L k=lookK L' k
theorem eqm_put {L L':List (Value×Value)} (h:EqM L L') (s:ByteArray) (x:Value):EqM (putK L s x) (putK L' s x):=⟨mapOk_put s x h.ok,fun k=>by rw [lookK_put,lookK_put,h.same]⟩
theorem perm_of_mem:∀ {L L':List (Value×Value)},L.Nodup→L'.Nodup→(∀ x,x∈L↔x∈L')→L.Perm L'
 | [],L',_,_,h=>by
  cases L' with
  | nil=>exact .nil
  | cons y l=>exact absurd ((h y).2 (by simp)) (by simp)
 | x :: L,L',h1,h2,h=>by
  obtain ⟨A,B,rfl⟩:=List.append_of_mem ((h x).1 (by simp))
  rw [List.nodup_cons] at h1
  have h3:(x :: (A ++ B)).Nodup:=(List.perm_middle.nodup_iff).1 h2
  rw [List.nodup_cons] at h3;refine (List.Perm.cons x (perm_of_mem h1.2 h3.2 fun y=>?_)).trans List.perm_middle.symm
  constructor
  ·intro hy
   have h4:=(h y).1 (by simp [hy])
   rcases List.mem_append.1 h4 with h5 | h5
   ·simp [h5]
   ·rcases List.mem_cons.1 h5 with rfl | h5
    ·exact absurd hy h1.1
    ·simp [h5]
  ·intro hy
   have h4:=(h y).2 (by rcases List.mem_append.1 hy with h5 | h5<;>simp [h5])
   rcases List.mem_cons.1 h4 with rfl | h4
   ·exact absurd hy h3.1
   ·exact h4
theorem mapOk_nodup {L:List (Value×Value)} (h:MapOk L):L.Nodup:=(List.pairwise_map.1 h.once).imp fun h e=>h (by rw [e])
theorem mapOk_perm {E I:List (Value×Value)} (hp:E.Perm I) (h:MapOk I):MapOk E:=⟨fun p hm=>h.str p (hp.mem_iff.1 hm),((hp.map _).nodup_iff).2 h.once⟩
theorem look_mem {L:List (Value×Value)} (h:MapOk L) {s:ByteArray} {v:Value}:lookK L s=some v↔(.string s,v)∈L:=by
 constructor
 ·intro hl
  obtain ⟨j,hj,h1,h2⟩:=lookK_some hl
  have:L[j]=(.string s,v):=Prod.ext h1 h2
  rw [← this];exact List.getElem_mem hj
 ·intro hm
  obtain ⟨j,hj,he⟩:=List.mem_iff_getElem.1 hm
  have:=lookK_at h hj (s:=s) (by rw [he])
  rw [this,he]
theorem eqm_perm {L L':List (Value×Value)} (h:EqM L L') (h':MapOk L'):L.Perm L':=by
 refine perm_of_mem (mapOk_nodup h.ok) (mapOk_nodup h') fun x=>?_
 obtain ⟨k,v⟩:=x
 constructor
 ·intro hm
  obtain ⟨s,hs⟩:=h.ok.str _ hm
  have hs:k = .string s:=hs
  subst hs;exact (look_mem h').1 (by rw [← h.same];exact (look_mem h.ok).2 hm)
 ·intro hm
  obtain ⟨s,hs⟩:=h'.str _ hm
  have hs:k = .string s:=hs
  subst hs;exact (look_mem h.ok).1 (by rw [h.same];exact (look_mem h').2 hm)
theorem look_perm {E I:List (Value×Value)} (hp:E.Perm I) (h:MapOk I) (k:ByteArray):lookK E k=lookK I k:=by
 have h2:=mapOk_perm hp h
 cases hl:lookK I k with
 | some v=>exact (look_mem h2).2 (hp.mem_iff.2 ((look_mem h).1 hl))
 | none=>
  cases hl2:lookK E k with
  | none=>rfl
  | some v=>
   have:=(look_mem h).2 (hp.mem_iff.1 ((look_mem h2).1 hl2))
   rw [hl] at this;cases this
theorem copied {E I L:List (Value×Value)} (hp:E.Perm I) (h:MapOk I) {seen:List Nat} (hc:CopyOk E seen L) (hall:∀ j,j < E.length→j∈seen):EqM L I:=⟨hc.ok,fun k=>by rw [copy_all (mapOk_perm hp h) hc hall,look_perm hp h]⟩
theorem less_left {n:Nat} {seen:List Nat} {j:Nat} (hj:j < n) (hns:j ∉ seen):((List.range n).filter fun k=>!(seen ++ [j]).contains k).length < ((List.range n).filter fun k=>!seen.contains k).length:=by
 refine filter_lt (fun k=>!seen.contains k) (fun k=>!(seen ++ [j]).contains k) (fun k hk=>?_) j ?_ ?_ _ (List.mem_range.2 hj)
 ·simp at hk ⊢;exact hk.1
 ·simpa using hns
 ·simp
theorem ent_cases {C N:List (Value×Value)} (h:EqM C N) (hi:∀ k v,lookK N k=some v→∃ n,v = .int .i64 n) (k:ByteArray):(entGet (.string k) (dmE C)=none∧intV (lookK N k)=0)∨entGet (.string k) (dmE C)=some (.v (.int .i64 (intV (lookK N k)))):=by
 rw [entGet_dmE,h.same]
 cases hl:lookK N k with
 | none=>exact .inl ⟨rfl,rfl⟩
 | some v=>
  obtain ⟨n,rfl⟩:=hi k v hl
  exact .inr rfl
theorem ent_put (C:List (Value×Value)) (k:ByteArray) (x:Value):entGet (.string k) (dmE (putK C k x))=some (.v x):=by
 rw [entGet_dmE,lookK_put,if_pos rfl];rfl
set_option maxRecDepth 100000 in
set_option maxHeartbeats 64000000 in
theorem rstep_spec (G:Glob) (p:PgP) (hck:checkP p=none) (hk:∀ r∈p.rungs,CondOk r) (s:StP) (hs:InvS p s) (inn:List Bool) (hin:inn.length=(inputP p).length) (I C:List (Value×Value)) (hr:RelS p s I C) :
  PureC Tryz.prog G 32 [dPw p,.agg [.dm false I,.dm false C],dBl inn] (.agg [.dm false (mpStep p s inn (I,C)).1,.dm false (mpStep p s inn (I,C)).2]):=by
 have hg:=checkP_good hck
 have hnm:=hg.names
 have hrn:=hg.rungs
 have hst:=rstart_mc G
 have hkd:=wkind_spec G p (by omega) 1
 have hnum:=fun x=>wnum_spec G p (by omega) x
 have hiL:=kindN_len p.names 1 p.names.length
 obtain ⟨t0,ht0,hI0⟩:∃ t0,t0=(⟨putIn (inputP p) inn s.is (inputP p).length,s.ct⟩:StP)∧InvS p t0:=⟨_,rfl,(putIn_inv inn hs _ (Nat.le_refl _)).1⟩
 obtain ⟨T,hT⟩:∃ T:Nat→StP,∀ n,T n=(p.rungs.take n).foldl (rungS p s) t0:=⟨_,fun _=>rfl⟩
 obtain ⟨MI,hMI⟩:∃ MI:Nat→List (Value×Value),∀ k,MI k=mpIn p inn I k:=⟨_,fun _=>rfl⟩
 obtain ⟨M,hM⟩:∃ M:Nat→Mp2,∀ n,M n=mpRungs p s t0 (p.rungs.take n) (mpIn p inn I (inputP p).length,C):=⟨_,fun _=>rfl⟩
 have hM0:M 0=(MI (inputP p).length,C):=by rw [hM,hMI];rfl
 have hMs:∀ n (h:n < p.rungs.length),M (n+1)=mpRung p (evC (bitF p (T n).is) (bitF p s.is) p.rungs[n].cond) p.rungs[n] (M n):=fun n h=>by
  rw [hM,hM,hT];exact mpRungs_take p s p.rungs t0 _ n h
 have hMe:M p.rungs.length=mpStep p s inn (I,C):=by rw [hM,List.take_length,ht0];rfl
 have hTi:∀ n,InvS p (T n):=fun n=>by rw [hT];exact (rungs_inv hck s _ (fun r hr=>List.mem_of_mem_take hr) hI0).1
 have hMr:∀ n,RelS p (T n) (M n).1 (M n).2:=fun n=>by
  rw [hT,hM];refine mpRungs_rel hck s _ (fun r hr=>List.mem_of_mem_take hr) hI0 ?_;rw [ht0];exact mpIn_rel hg hs inn hr _ (Nat.le_refl _)
 have hask:∀ n (h:n < p.rungs.length) (L1 L2:List (Value×Value)),EqM L1 (M n).1→EqM L2 (M n).2→∃ e,p.rungs[n].cond=some e∧PureC Tryz.prog G 79 [dR e,.fn (.func 80) [.ip [.dm false L1,.dm false L2]],.fn (.func 81) [.ip [.dm false I,.dm false C]]] (.v (.bool (evE (bitF p (T n).is) (bitF p s.is) e))):=fun n h L1 L2 h1 h2=>by
  obtain ⟨e,he,ha,hb⟩:=rung_ask hck hk (List.getElem_mem h)
  obtain ⟨e',he',hw,_⟩:=hk _ (List.getElem_mem h)
  rw [he] at he'
  obtain rfl:=Option.some.inj he'
  exact ⟨e,he,reval_on G _ _ _ _ _ _ _ _ (rask1 G (rel_same (hMr n) h1.ok h2.ok h1.same h2.same)) (rask2 G hr) e ha hw hb⟩
 have hMk:∀ n,MapOk (M n).1∧MapOk (M n).2:=fun n=>⟨(hMr n).okI,(hMr n).okC⟩
 have hMc:∀ n i (hi:i < p.names.length),0≤intV (lookK (M n).2 (bs p.names[i].name))∧intV (lookK (M n).2 (bs p.names[i].name))≤7:=fun n i hi=>by
  rw [(hMr n).ct i hi]
  have h1:=(hTi n).lo i
  have h2:=(hTi n).hi i hi
  rcases hg.count _ (List.getElem_mem hi) with h3 | h3<;>omega
 have hMiC:=fun n=>(hMr n).iC
 have hMI0:MI 0=I:=hMI 0
 have hMIs:∀ k (h:k < (inputP p).length) (h2:k < inn.length),∃ i,∃ hi:i < p.names.length,(inputP p)[k]=(i:Int)∧MI (k+1)=putK (MI k) (bs p.names[i].name) (.bool inn[k]):=fun k h h2=>by
  obtain ⟨i,hi,he,_⟩:=input_at h
  refine ⟨i,hi,he,?_⟩
  have e1:(inputP p).getD k 0=(i:Int):=by rw [getD_of h];exact he
  have e2:p.names.getD i ⟨[],0,0⟩=p.names[i]:=getD_of hi
  have e3:inn.getD k false=inn[k]:=getD_of h2
  rw [hMI,hMI,mpIn,e1,Int.toNat_natCast,e2,e3]
 clear hM hMI hT hTi hMr hI0 ht0
 have okI:=hr.okI
 have okC:=hr.okC
 clear hr
 have hkI:kindN p.names 1 p.names.length=inputP p:=rfl
 rw [hkI] at hkd hiL;clear hkI;rw [← hMe];generalize inputP p=KI at *;simp only [dPw,cPw,dNms,dBl,dS] at hkd hnum ⊢
 have hNl:(p.names.map cNm).length=p.names.length:=by simp
 have hNg:∀ i (h:i < p.names.length),(p.names.map cNm)[i]? = some [.v (.string (bs p.names[i].name)),.v (.int .i64 p.names[i].kind),.v (.int .i64 p.names[i].count)]:=fun i h=>by simp [h,cNm,dS]
 have hRl:(p.rungs.map cRw').length=p.rungs.length:=by simp
 have hRg:∀ i (h:i < p.rungs.length),(p.rungs.map cRw')[i]? = some (cRw' p.rungs[i]):=fun i h=>by simp [h]
 generalize p.names.map cNm=NN at *;generalize p.rungs.map cRw'=RR at *;refine PureC.of_body (tyOf_good _) Tryz.func32 rfl rfl (rs:=[.cell 6 84]) Tryz.results32 (by simp [Tryz.ntmps32]) fun X=>?_;simp only [Tryz.ntmps32,List.map];refine rg0 [2,3,4,6] [3,4,6] ?_;refine AW.imp (Imp.freezeB 3 trivial) ?_;refine AW.st (by simp;rfl) ?_;refine AW.imp (Imp.freezeB 4 trivial) ?_;refine AW.st (by simp;rfl) ?_;refine rgm trivial hst [2,3,4,6,7] [6,7,601,602] ?_;refine AW_then fun K1 hK1=>?_;refine AW_rx (tyOf_good _) [2,3,4,6,7,21] [6,7,601,602,21] (fun _ _=>trivial) fun K' hK'=>?_
 (repeat (refine sxI_next fun K2 hK2=>?_;simp;(repeat (refine ⟨by omega,?_⟩));refine hK2 _ ?_;clear hK2 K2))
 refine sxI_rng (y:=false) (ents:=I) rfl rfl (by simp) (by simp) (by simp) (by simp) (by simp) fun E1 hE1=>?_;refine sxI_nil (hK' _ ?_);refine AW.st (by simp;rfl) ?_;clear hK' K';refine AW_for (S:=List Nat×List (Value×Value)) (fun x=>CopyOk E1 x.1 x.2) (fun x=>⟨lst [(2,.d (.sl none (inn.map fun b=>[.v (.bool b)]))),(3,.d (.ip [.sl none NN,.sl none RR])),(4,.d (.ip [.dm false I,.dm false C])),(6,.ref 6 0 0),(7,.ref 7 0 0),(21,.ref 21 0 0)],hlst [(6,.box 84 [.d (.v (.map none)),.d (.v (.map none))]),(7,.box 84 [.mp 601,.mp 602]),(601,.mp 81 (dmE x.2)),(602,.mp 82 []),(21,.it E1 x.1)]⟩) (fun x=>((List.range E1.length).filter fun k=>!x.1.contains k).length) ([],[]) ?_ (copy_nil E1) ?_
 ·refine Imp.to' (fun _ _=>trivial) (by simp [dmE]) (by simp [dmE])
 ·rintro ⟨seen1,L1⟩ hL1
  dsimp only at hL1 ⊢
  refine AW_rx (tyOf_good _) [2,3,4,6,7,21,23] [6,7,601,602,21] (fun _ _=>trivial) fun K' hK'=>?_;refine sxI_nx (r:=21) (ents:=E1) (seen:=seen1) rfl rfl (by simp) (by simp) (by simp) (by simp) (fun hall=>?_) (fun j hj hns=>?_)
  rotate_left
  ·have hk0:=keys_dmE hL1.ok
   simp at hk0
   have hk1:=eq_true hk0
   obtain ⟨s1,hs1⟩:=(mapOk_perm hE1 okI).str E1[j] (List.getElem_mem hj)
   (repeat (refine sxI_next fun K2 hK2=>?_;simp;(repeat (refine ⟨by omega,?_⟩));refine hK2 _ ?_;clear hK2 K2))
   refine sxI_nil (hK' _ ?_);refine AW.st (by simp;rfl) ?_;clear hK' K';refine AW_then fun K2 hK2=>?_;refine AW_tt rfl ?_;refine AW_skip (hK2 _ ?_);refine AW_block ?_;refine AW_rx (tyOf_good _) [2,3,4,6,7,8,9,21] [6,7,601,602,21] (fun _ _=>trivial) fun K' hK'=>?_;refine sxI_ent (r:=21) (ents:=E1) (seen:=seen1) (j:=j) rfl rfl (by simp) (by simp) (by simp) (by simp) hj ?_
   (repeat (refine sxI_next fun K2 hK2=>?_;simp [hs1];(repeat (refine ⟨by omega,?_⟩));refine hK2 _ ?_;clear hK2 K2))
   refine sxI_nil (hK' _ ?_);refine AW.st (by simp [hs1];rfl) ?_;clear hK' K';refine AW_re (tyOf_good _) fun K' hK'=>?_;(repeat (refine sxn fun K2 hK2=>?_;simp [hs1,hk1,entPut_dmE];(repeat (refine ⟨by omega,?_⟩));refine hK2 _ ?_;clear hK2 K2));refine sxz (hK' _ ?_);clear hK' K';(try simp only [thn,inb]);refine Again.mk (seen1 ++ [j],putK L1 s1 E1[j].2) (copy_next (mapOk_perm hE1 okI) hL1 hj hs1) (less_left hj hns) ?_;refine Imp.to' (fun _ _=>trivial) (by simp) (by simp)
  ·have hL1E:=copied hE1 okI hL1 hall
   clear hL1 hall
   (repeat (refine sxI_next fun K2 hK2=>?_;simp;(repeat (refine ⟨by omega,?_⟩));refine hK2 _ ?_;clear hK2 K2))
   refine sxI_nil (hK' _ ?_);refine AW.st (by simp;rfl) ?_;clear hK' K';refine AW_then fun K2 hK2=>?_;refine AW_ff rfl ?_;refine AW_exit (hK1 _ ?_);refine AW_then fun K3 hK3=>?_;refine AW_rx (tyOf_good _) [2,3,4,6,7,33] [6,7,601,602,33] (fun _ _=>trivial) fun K' hK'=>?_
   (repeat (refine sxI_next fun K2 hK2=>?_;simp;(repeat (refine ⟨by omega,?_⟩));refine hK2 _ ?_;clear hK2 K2))
   refine sxI_rng (y:=false) (ents:=C) rfl rfl (by simp) (by simp) (by simp) (by simp) (by simp) fun E2 hE2=>?_;refine sxI_nil (hK' _ ?_);refine AW.st (by simp;rfl) ?_;clear hK' K';refine AW_for (S:=List Nat×List (Value×Value)) (fun x=>CopyOk E2 x.1 x.2) (fun x=>⟨lst [(2,.d (.sl none (inn.map fun b=>[.v (.bool b)]))),(3,.d (.ip [.sl none NN,.sl none RR])),(4,.d (.ip [.dm false I,.dm false C])),(6,.ref 6 0 0),(7,.ref 7 0 0),(33,.ref 33 0 0)],hlst [(6,.box 84 [.d (.v (.map none)),.d (.v (.map none))]),(7,.box 84 [.mp 601,.mp 602]),(601,.mp 81 (dmE L1)),(602,.mp 82 (dmE x.2)),(33,.it E2 x.1)]⟩) (fun x=>((List.range E2.length).filter fun k=>!x.1.contains k).length) ([],[]) ?_ (copy_nil E2) ?_
   ·refine Imp.to' (fun _ _=>trivial) (by simp [dmE]) (by simp [dmE])
   ·rintro ⟨seen2,L2⟩ hL2
    dsimp only at hL2 ⊢
    refine AW_rx (tyOf_good _) [2,3,4,6,7,33,35] [6,7,601,602,33] (fun _ _=>trivial) fun K' hK'=>?_;refine sxI_nx (r:=33) (ents:=E2) (seen:=seen2) rfl rfl (by simp) (by simp) (by simp) (by simp) (fun hall=>?_) (fun j hj hns=>?_)
    rotate_left
    ·have hk0:=keys_dmE hL2.ok
     simp at hk0
     have hk1:=eq_true hk0
     obtain ⟨s1,hs1⟩:=(mapOk_perm hE2 okC).str E2[j] (List.getElem_mem hj)
     (repeat (refine sxI_next fun K2 hK2=>?_;simp;(repeat (refine ⟨by omega,?_⟩));refine hK2 _ ?_;clear hK2 K2))
     refine sxI_nil (hK' _ ?_);refine AW.st (by simp;rfl) ?_;clear hK' K';refine AW_then fun K4 hK4=>?_;refine AW_tt rfl ?_;refine AW_skip (hK4 _ ?_);refine AW_block ?_;refine AW_rx (tyOf_good _) [2,3,4,6,7,10,11,33] [6,7,601,602,33] (fun _ _=>trivial) fun K' hK'=>?_;refine sxI_ent (r:=33) (ents:=E2) (seen:=seen2) (j:=j) rfl rfl (by simp) (by simp) (by simp) (by simp) hj ?_
     (repeat (refine sxI_next fun K2 hK2=>?_;simp [hs1];(repeat (refine ⟨by omega,?_⟩));refine hK2 _ ?_;clear hK2 K2))
     refine sxI_nil (hK' _ ?_);refine AW.st (by simp [hs1];rfl) ?_;clear hK' K';refine AW_re (tyOf_good _) fun K' hK'=>?_;(repeat (refine sxn fun K2 hK2=>?_;simp [hs1,hk1,entPut_dmE];(repeat (refine ⟨by omega,?_⟩));refine hK2 _ ?_;clear hK2 K2));refine sxz (hK' _ ?_);clear hK' K';(try simp only [thn,inb]);refine Again.mk (seen2 ++ [j],putK L2 s1 E2[j].2) (copy_next (mapOk_perm hE2 okC) hL2 hj hs1) (less_left hj hns) ?_;refine Imp.to' (fun _ _=>trivial) (by simp) (by simp)
    ·have hL2E:=copied hE2 okC hL2 hall
     clear hL2 hall
     (repeat (refine sxI_next fun K2 hK2=>?_;simp;(repeat (refine ⟨by omega,?_⟩));refine hK2 _ ?_;clear hK2 K2))
     refine sxI_nil (hK' _ ?_);refine AW.st (by simp;rfl) ?_;clear hK' K';refine AW_then fun K4 hK4=>?_;refine AW_ff rfl ?_;refine AW_exit (hK3 _ ?_);refine AW_then fun K5 hK5=>?_;refine rgc trivial hkd [2,3,4,6,7,44,45,46] [6,7,601,602] ?_;refine AW_for (S:=Nat×List (Value×Value)) (fun x=>x.1≤KI.length∧EqM x.2 (MI x.1)) (fun x=>⟨lst [(2,.d (.sl none (inn.map fun b=>[.v (.bool b)]))),(3,.d (.ip [.sl none NN,.sl none RR])),(4,.d (.ip [.dm false I,.dm false C])),(6,.ref 6 0 0),(7,.ref 7 0 0),(44,.d (.sl none (KI.map fun x=>[.v (.int .i64 x)]))),(45,int KI.length),(46,int x.1)],hlst [(6,.box 84 [.d (.v (.map none)),.d (.v (.map none))]),(7,.box 84 [.mp 601,.mp 602]),(601,.mp 81 (dmE x.2)),(602,.mp 82 (dmE L2))]⟩) (fun x=>KI.length - x.1) (0,L1) ?_ ⟨by omega,by rw [hMI0];exact hL1E⟩ ?_
     ·refine Imp.to' (fun _ _=>trivial) (by simp) (by simp)
     ·rintro ⟨k,L3⟩ ⟨hkk,hL3⟩
      dsimp only at hkk hL3 ⊢
      refine rg0 [2,3,4,6,7,44,45,46,47] [6,7,601,602] ?_;refine AW_then fun K6 hK6=>?_;refine AW_cond' (b:=k < KI.length) (by simp [D.le,D.le.go,takeMap]) (fun hc=>?_) (fun hc=>?_)
      ·have hlt:=hc
       have hk2:k < inn.length:=by omega
       obtain ⟨i,hi,hKi,hMn⟩:=hMIs k hlt hk2
       have hi3:i < NN.length:=by omega
       have hNi2:NN[i]=[.v (.string (bs p.names[i].name)),.v (.int .i64 p.names[i].kind),.v (.int .i64 p.names[i].count)]:=by
        have:=hNg i hi
        rw [List.getElem?_eq_getElem hi3] at this;exact Option.some.inj this
       generalize bs p.names[i].name=nm at hNi2 hMn;generalize p.names[i].kind=kd at hNi2;generalize p.names[i].count=ct at hNi2
       have hk0:=keys_dmE hL3.ok
       simp at hk0
       have hk1:=eq_true hk0
       refine AW_skip (hK6 _ ?_);refine AW_then fun K7 hK7=>?_;refine AW_block ?_
       have qf:=(Aq @hlt @hKi)
       refine rgqv [2,3,4,6,7,12,13,44,45,46] [6,7,601,602] ?_;refine AW_rde (tyOf_good _) (by kernel_rfl) (by kernel_rfl) fun K' hK'=>?_;(repeat (refine sxd_next fun K2 hK2=>?_;simp [hi3,hNi2,hk2,hk1,entPut_dmE];(repeat (refine ⟨by omega,?_⟩));refine hK2 _ ?_;clear hK2 K2));refine sxd_nil (hK' _ ?_);clear hK' K';refine hK7 _ (AW.norm [2,3,4,6,7,44,45,46] [6,7,601,602] (fun _ _=>trivial) (AW.st (by simp [hi3,hNi2,hk2,hk1,entPut_dmE];rfl) ?_));refine AW_re (tyOf_good _) fun K' hK'=>?_;(repeat (refine sxn fun K2 hK2=>?_;simp;(repeat (refine ⟨by omega,?_⟩));refine hK2 _ ?_;clear hK2 K2));refine sxz (hK' _ ?_);clear hK' K';(try simp only [thn,inb]);refine Again.mk (k+1,putK L3 nm (.bool inn[k])) ⟨by omega,by rw [hMn];exact eqm_put hL3 _ _⟩ (by omega) ?_;refine Imp.to' (fun _ _=>trivial) (by simp) (by simp)
      ·have hke:k=KI.length:=by omega
       refine AW_exit (hK5 _ ?_)
       have hL3E:EqM L3 (M 0).1:=by rw [hM0,← hke];exact hL3
       have hL2F:EqM L2 (M 0).2:=by rw [hM0];exact hL2E
       refine AW_then fun K8 hK8=>?_;refine rg0 [3,4,6,7,65,66,67] [6,7,601,602] ?_;refine AW_for (S:=Nat×Mp2) (fun x=>x.1≤p.rungs.length∧EqM x.2.1 (M x.1).1∧EqM x.2.2 (M x.1).2) (fun x=>⟨lst [(3,.d (.ip [.sl none NN,.sl none RR])),(4,.d (.ip [.dm false I,.dm false C])),(6,.ref 6 0 0),(7,.ref 7 0 0),(65,.d (.sl none RR)),(66,int RR.length),(67,int x.1)],hlst [(6,.box 84 [.d (.v (.map none)),.d (.v (.map none))]),(7,.box 84 [.mp 601,.mp 602]),(601,.mp 81 (dmE x.2.1)),(602,.mp 82 (dmE x.2.2))]⟩) (fun x=>p.rungs.length - x.1) (0,(L3,L2)) ?_ ⟨by omega,hL3E,hL2F⟩ ?_
       ·refine Imp.to' (fun _ _=>trivial) (by simp) (by simp)
       ·rintro ⟨n,L4,L5⟩ ⟨hn,hL4,hL5⟩
        dsimp only at hn hL4 hL5 ⊢
        have hTn:=hMs n
        have hasn:=fun h=>hask n h L4 L5 hL4 hL5
        have hMkn:=hMk (n+1)
        have hMcn:=hMc n
        have hiCn:=hMiC n
        have hMen:n=p.rungs.length→M p.rungs.length=M n:=fun h=>by rw [h]
        have hMkn0:=hMk n
        generalize hmn:M n=mn at hTn hMcn hiCn hL4 hL5 hMen hMkn0
        obtain ⟨N1,N2⟩:=mn
        dsimp only at hMcn hiCn hL4 hL5 hMkn0
        clear hMk hMc hMiC hask hMs;refine rg0 [3,4,6,7,65,66,67,68] [6,7,601,602] ?_;refine AW_then fun K9 hK9=>?_
        by_cases hlt:n < p.rungs.length
        ·have hlt2:n < RR.length:=by omega
         refine AW_cond true (by simp [hlt2]) (fun _=>?_) (fun h=>by cases h);refine AW_skip (hK9 _ ?_);refine AW_then fun K10 hK10=>?_;refine AW_block ?_
         obtain ⟨e,he,hev⟩:=hasn hlt
         obtain ⟨i,hi,hni,_,hcnt⟩:=rung_at hck (List.getElem_mem hlt)
         obtain ⟨hkr,hneg,_⟩:=checkP_rung hck _ (List.getElem_mem hlt)
         have hnmr:p.rungs[n].name=p.names[i].name:=by
          obtain ⟨i2,hi2,he2,hs2⟩:=idx_pos hneg
          have h1:numP p p.rungs[n].name=(i2:Int):=he2
          have:i2=i:=by omega
          subst this
          have:p.names[i2].name=p.rungs[n].name:=by simpa using hs2
          exact this.symm
         have hTn2:=hTn hlt
         have hRi:=hRg n hlt
         have hnu:=hnum p.rungs[n].name
         rw [hni] at hnu
         have hMci:=hMcn i hi
         rw [← hnmr] at hMci;unfold mpRung at hTn2;simp only [hni,Int.toNat_natCast,hcnt,he,evC] at hTn2;unfold cRw' at hRi;rw [he] at hRi;clear hneg hnmr hTn hasn;generalize p.rungs[n]=r at hRi hnu hkr hTn2 hMci hni
         obtain ⟨rk,rn,rc⟩:=r
         dsimp only at hRi hnu hkr hTn2 hMci hni
         generalize evE (bitF p (T n).is) (bitF p s.is) e=yes at hev hTn2;rw [show dOR (some e)=dR e from rfl] at hRi;simp only [dS] at hRi
         have hent:=ent_cases hL5 hiCn (bs rn)
         have hentp:=ent_put L5 (bs rn)
         generalize hcv:intV (lookK N2 (bs rn))=c at hMci hent hTn2
         have hput:∀ x:Int,intV (lookK (putK N2 (bs rn) (.int .i64 x)) (bs rn))=x:=fun x=>by rw [lookK_put,if_pos rfl];rfl
         have hi3:i < NN.length:=by omega
         have hNi2:NN[i]=[.v (.string (bs p.names[i].name)),.v (.int .i64 p.names[i].kind),.v (.int .i64 p.names[i].count)]:=by
          have:=hNg i hi
          rw [List.getElem?_eq_getElem hi3] at this;exact Option.some.inj this
         have hRi2:RR[n]=[.v (.int .i64 rk),.v (.string (bs rn)),dR e]:=by
          rw [List.getElem?_eq_getElem hlt2] at hRi;exact Option.some.inj hRi
         have hRo:(dR e).one=true:=by cases e<;>rfl
         generalize p.names[i].name=nm at hNi2;generalize p.names[i].kind=kd at hNi2;generalize p.names[i].count=top at hNi2 hTn2;generalize bs rn=key at *;generalize dR e=er at hRi2 hev hRo;clear hRi hni hcnt
         have hk0:=keys_dmE hL4.ok
         simp at hk0
         have hk1:=eq_true hk0
         have hk2:=keys_dmE hL5.ok
         simp at hk2
         have hk3:=eq_true hk2
         have hk4:=fun x:Value=>keys_dmE (mapOk_put key x hL5.ok)
         simp at hk4
         have hk5:=fun x=>eq_true (hk4 x)
         have qf:=(Aq @hlt2 (Aq @hRi2 @hRo))
         refine rgqv [3,4,6,7,15,65,66,67] [6,7,601,602,15] ?_;refine AW.imp (Imp.freezeB 15 trivial) ?_;refine AW.st (by simp;rfl) ?_;refine rg [3,4,6,7,15,16,65,66,67] [6,7,601,602] (fun _ _=>trivial) fun K' hK'=>?_;(repeat (refine sxn fun K2 hK2=>?_;simp [allV_dmE];(repeat (refine ⟨by omega,?_⟩));refine hK2 _ ?_;clear hK2 K2));refine sxn fun K2 hK2=>?_;simp [allV_dmE];refine callK.lend (hev) (by simp [allV_dmE];rfl) (by first | exact D.leGo_refl _ | simp [takeMap,List.map_map,Function.comp_def,D.le,D.le.go,D.le_refl,D.leGo_refl,allV_dmE]) (by simp [D.scalar,allV_dmE]) ?_;refine hK2 _ ?_;clear hK2 K2;simp only [putd,upd_lst];(repeat (refine sxn fun K2 hK2=>?_;simp [allV_dmE];(repeat (refine ⟨by omega,?_⟩));refine hK2 _ ?_;clear hK2 K2));refine sxz (hK' _ (AW.st (by simp [allV_dmE];rfl) ?_));clear hK' K'
         have qf:=(Aq @hi3 @hNi2)
         refine rdcv hnu [3,4,6,7,15,16,17,65,66,67] [6,7,601,602] ?_;refine rg0 [3,4,6,7,15,16,17,65,66,67,86] [6,7,601,602] ?_;refine AW_block ?_
         have hk6:rk=1∨rk=2∨rk=3∨rk=4∨rk=5∨rk=6:=by omega
         rcases hk6 with rfl | rfl | rfl | rfl | rfl | rfl
         ·simp at hTn2;refine rg0 [3,4,6,7,15,16,17,65,66,67,86,87] [6,7,601,602] ?_;refine AW_tt rfl ?_
          have qf:=(Aq @hk1 (Aq @hk3 (Aq @hk5 @entPut_dmE)))
          refine reKv hK10 [3,4,6,7,65,66,67] [6,7,601,602] ?_;refine AW_re (tyOf_good _) fun K' hK'=>?_;(repeat (refine sxn fun K2 hK2=>?_;simp;(repeat (refine ⟨by omega,?_⟩));refine hK2 _ ?_;clear hK2 K2));refine sxz (hK' _ ?_);clear hK' K';(try simp only [thn,inb]);refine Again.mk (n+1,(putK L4 key (.bool yes),L5)) ⟨by omega,?_,?_⟩ (by omega) ?_
          ·rw [hTn2];exact eqm_put hL4 _ _
          ·rw [hTn2];exact hL5
          ·refine Imp.to' (fun _ _=>trivial) (by simp) (by simp)
         ·simp at hTn2;refine rg0 [3,4,6,7,15,16,17,65,66,67,86,87] [6,7,601,602] ?_;refine AW_ff rfl ?_;refine rg0 [3,4,6,7,15,16,17,65,66,67,86,94] [6,7,601,602] ?_;refine AW_tt rfl ?_;refine rg0 [3,4,6,7,15,65,66,67,96] [6,7,601,602] ?_
          cases yes with
          | true=>
           simp at hTn2;refine AW_tt rfl ?_
           have qf:=(Aq @hk1 (Aq @hk3 (Aq @hk5 @entPut_dmE)))
           refine reKv hK10 [3,4,6,7,65,66,67] [6,7,601,602] ?_;refine AW_re (tyOf_good _) fun K' hK'=>?_;(repeat (refine sxn fun K2 hK2=>?_;simp;(repeat (refine ⟨by omega,?_⟩));refine hK2 _ ?_;clear hK2 K2));refine sxz (hK' _ ?_);clear hK' K';(try simp only [thn,inb]);refine Again.mk (n+1,(putK L4 key (.bool true),L5)) ⟨by omega,?_,?_⟩ (by omega) ?_
           ·rw [hTn2];exact eqm_put hL4 _ _
           ·rw [hTn2];exact hL5
           ·refine Imp.to' (fun _ _=>trivial) (by simp) (by simp)
          | false=>
           simp at hTn2;refine AW_ff rfl ?_;refine AW_skip ?_;refine hK10 _ (AW.norm [3,4,6,7,65,66,67] [6,7,601,602] (fun _ _=>trivial) (AW.st (by simp;rfl) ?_));refine AW_re (tyOf_good _) fun K' hK'=>?_;(repeat (refine sxn fun K2 hK2=>?_;simp;(repeat (refine ⟨by omega,?_⟩));refine hK2 _ ?_;clear hK2 K2));refine sxz (hK' _ ?_);clear hK' K';(try simp only [thn,inb]);refine Again.mk (n+1,(L4,L5)) ⟨by omega,?_,?_⟩ (by omega) ?_
           ·rw [hTn2];exact hL4
           ·rw [hTn2];exact hL5
           ·refine Imp.to' (fun _ _=>trivial) (by simp) (by simp)
         ·simp at hTn2;refine rg0 [3,4,6,7,15,16,17,65,66,67,86,87] [6,7,601,602] ?_;refine AW_ff rfl ?_;refine rg0 [3,4,6,7,15,16,17,65,66,67,86,94] [6,7,601,602] ?_;refine AW_ff rfl ?_;refine rg0 [3,4,6,7,15,16,17,65,66,67,86,101] [6,7,601,602] ?_;refine AW_tt rfl ?_;refine rg0 [3,4,6,7,15,65,66,67,103] [6,7,601,602] ?_
          cases yes with
          | true=>
           simp at hTn2;refine AW_tt rfl ?_
           have qf:=(Aq @hk1 (Aq @hk3 (Aq @hk5 @entPut_dmE)))
           refine reKv hK10 [3,4,6,7,65,66,67] [6,7,601,602] ?_;refine AW_re (tyOf_good _) fun K' hK'=>?_;(repeat (refine sxn fun K2 hK2=>?_;simp;(repeat (refine ⟨by omega,?_⟩));refine hK2 _ ?_;clear hK2 K2));refine sxz (hK' _ ?_);clear hK' K';(try simp only [thn,inb]);refine Again.mk (n+1,(putK L4 key (.bool false),L5)) ⟨by omega,?_,?_⟩ (by omega) ?_
           ·rw [hTn2];exact eqm_put hL4 _ _
           ·rw [hTn2];exact hL5
           ·refine Imp.to' (fun _ _=>trivial) (by simp) (by simp)
          | false=>
           simp at hTn2;refine AW_ff rfl ?_;refine AW_skip ?_;refine hK10 _ (AW.norm [3,4,6,7,65,66,67] [6,7,601,602] (fun _ _=>trivial) (AW.st (by simp;rfl) ?_));refine AW_re (tyOf_good _) fun K' hK'=>?_;(repeat (refine sxn fun K2 hK2=>?_;simp;(repeat (refine ⟨by omega,?_⟩));refine hK2 _ ?_;clear hK2 K2));refine sxz (hK' _ ?_);clear hK' K';(try simp only [thn,inb]);refine Again.mk (n+1,(L4,L5)) ⟨by omega,?_,?_⟩ (by omega) ?_
           ·rw [hTn2];exact hL4
           ·rw [hTn2];exact hL5
           ·refine Imp.to' (fun _ _=>trivial) (by simp) (by simp)
         ·simp at hTn2;refine rg0 [3,4,6,7,15,16,17,65,66,67,86,87] [6,7,601,602] ?_;refine AW_ff rfl ?_;refine rg0 [3,4,6,7,15,16,17,65,66,67,86,94] [6,7,601,602] ?_;refine AW_ff rfl ?_;refine rg0 [3,4,6,7,15,16,17,65,66,67,86,101] [6,7,601,602] ?_;refine AW_ff rfl ?_;refine AW_then fun K11 hK11=>?_;refine rg0 [3,4,6,7,15,16,17,65,66,67,86,108] [6,7,601,602] ?_;refine AW_tt rfl ?_;refine AW_skip ?_;refine hK11 _ (AW.norm [3,4,6,7,15,16,17,65,66,67,86,108] [6,7,601,602] (fun _ _=>trivial) (AW.st (by simp;rfl) ?_));refine AW_tt rfl ?_;refine AW_then fun K12 hK12=>?_
          have hent2:∃ oc,entGet (.string key) (dmE L5)=oc∧((oc=none∧c=0)∨oc=some (.v (.int .i64 c))):=⟨_,rfl,hent⟩
          clear hent
          obtain ⟨oc,hoc,hent⟩:=hent2
          rcases hent with ⟨rfl,rfl⟩ | rfl
          ·cases yes with
           | true=>
            by_cases hlt9:0 < top
            ·simp [hlt9,hput,hcv] at hTn2
             have qf:=(Aq @hk1 (Aq @hk3 (Aq @hk5 (Aq @entPut_dmE (Aq @hoc (Aq @ofOk.eq_1 (Aq @zeroM.eq_1 (Aq @zeroM.eq_2 @hlt9))))))))
             refine rgqv [3,4,6,7,15,16,17,65,66,67,120] [6,7,601,602] ?_;refine AW_cond true (by simp [hlt9]) (fun _=>?_) (fun h=>by cases h)
             have qf:=(Aq @hk1 (Aq @hk3 (Aq @hk5 (Aq @entPut_dmE (Aq @hoc (Aq @ofOk.eq_1 (Aq @zeroM.eq_1 @zeroM.eq_2)))))))
             refine reKv hK12 [3,4,6,7,15,16,17,65,66,67] [6,7,601,602] ?_;refine AW_then fun K13 hK13=>?_;refine rg0 [3,4,6,7,15,17,65,66,67,133] [6,7,601,602] ?_;refine AW_ff rfl ?_;refine AW_skip ?_;refine hK13 _ (AW.norm [3,4,6,7,15,17,65,66,67] [6,7,601,602] (fun _ _=>trivial) (AW.st (by simp;rfl) ?_))
             have qf:=(Aq @hk1 (Aq @hk3 (Aq @hk5 (Aq @entPut_dmE (Aq @hentp (Aq @ofOk.eq_1 (Aq @zeroM.eq_1 @zeroM.eq_2)))))))
             refine reKv hK10 [3,4,6,7,65,66,67] [6,7,601,602] ?_;refine AW_re (tyOf_good _) fun K' hK'=>?_;(repeat (refine sxn fun K2 hK2=>?_;simp;(repeat (refine ⟨by omega,?_⟩));refine hK2 _ ?_;clear hK2 K2));refine sxz (hK' _ ?_);clear hK' K';(try simp only [thn,inb]);refine Again.mk (n+1,(putK L4 key (.bool ((0:Int)+1 == top)),putK L5 key (.int .i64 ((0:Int)+1)))) ⟨by omega,?_,?_⟩ (by omega) ?_
             ·rw [hTn2];exact eqm_put hL4 _ _
             ·rw [hTn2];exact eqm_put hL5 _ _
             ·refine Imp.to' (fun _ _=>trivial) (by simp) (by simp)
            ·simp [hlt9,hput,hcv] at hTn2
             have qf:=(Aq @hk1 (Aq @hk3 (Aq @hk5 (Aq @entPut_dmE (Aq @hoc (Aq @ofOk.eq_1 (Aq @zeroM.eq_1 (Aq @zeroM.eq_2 @hlt9))))))))
             refine rgqv [3,4,6,7,15,16,17,65,66,67,120] [6,7,601,602] ?_;refine AW_cond false (by simp [hlt9]) (fun h=>by cases h) (fun _=>?_);refine AW_skip ?_;refine hK12 _ (AW.norm [3,4,6,7,15,16,17,65,66,67] [6,7,601,602] (fun _ _=>trivial) (AW.st (by simp;rfl) ?_));refine AW_then fun K13 hK13=>?_;refine rg0 [3,4,6,7,15,17,65,66,67,133] [6,7,601,602] ?_;refine AW_ff rfl ?_;refine AW_skip ?_;refine hK13 _ (AW.norm [3,4,6,7,15,17,65,66,67] [6,7,601,602] (fun _ _=>trivial) (AW.st (by simp;rfl) ?_))
             have qf:=(Aq @hk1 (Aq @hk3 (Aq @hk5 (Aq @entPut_dmE (Aq @hoc (Aq @ofOk.eq_1 (Aq @zeroM.eq_1 @zeroM.eq_2)))))))
             refine reKv hK10 [3,4,6,7,65,66,67] [6,7,601,602] ?_;refine AW_re (tyOf_good _) fun K' hK'=>?_;(repeat (refine sxn fun K2 hK2=>?_;simp;(repeat (refine ⟨by omega,?_⟩));refine hK2 _ ?_;clear hK2 K2));refine sxz (hK' _ ?_);clear hK' K';(try simp only [thn,inb]);refine Again.mk (n+1,(putK L4 key (.bool ((0:Int) == top)),L5)) ⟨by omega,?_,?_⟩ (by omega) ?_
             ·rw [hTn2];exact eqm_put hL4 _ _
             ·rw [hTn2];exact hL5
             ·refine Imp.to' (fun _ _=>trivial) (by simp) (by simp)
           | false=>
            simp [hput,hcv] at hTn2;refine rg0 [3,4,6,7,15,16,17,65,66,67,120] [6,7,601,602] ?_;refine AW_cond false (by simp) (fun h=>by cases h) (fun _=>?_);refine AW_skip ?_;refine hK12 _ (AW.norm [3,4,6,7,15,16,17,65,66,67] [6,7,601,602] (fun _ _=>trivial) (AW.st (by simp;rfl) ?_));refine AW_then fun K13 hK13=>?_;refine rg0 [3,4,6,7,15,17,65,66,67,133] [6,7,601,602] ?_;refine AW_tt rfl ?_
            have qf:=(Aq @hk1 (Aq @hk3 (Aq @hk5 @entPut_dmE)))
            refine reKv hK13 [3,4,6,7,15,17,65,66,67] [6,7,601,602] ?_
            have qf:=(Aq @hk1 (Aq @hk3 (Aq @hk5 (Aq @entPut_dmE (Aq @hentp (Aq @ofOk.eq_1 (Aq @zeroM.eq_1 @zeroM.eq_2)))))))
            refine reKv hK10 [3,4,6,7,65,66,67] [6,7,601,602] ?_;refine AW_re (tyOf_good _) fun K' hK'=>?_;(repeat (refine sxn fun K2 hK2=>?_;simp;(repeat (refine ⟨by omega,?_⟩));refine hK2 _ ?_;clear hK2 K2));refine sxz (hK' _ ?_);clear hK' K';(try simp only [thn,inb]);refine Again.mk (n+1,(putK L4 key (.bool ((0:Int) == top)),putK L5 key (.int .i64 0))) ⟨by omega,?_,?_⟩ (by omega) ?_
            ·rw [hTn2];exact eqm_put hL4 _ _
            ·rw [hTn2];exact eqm_put hL5 _ _
            ·refine Imp.to' (fun _ _=>trivial) (by simp) (by simp)
          ·cases yes with
           | true=>
            by_cases hlt9:c < top
            ·simp [hlt9,hput,hcv] at hTn2
             have qf:=(Aq @hk1 (Aq @hk3 (Aq @hk5 (Aq @entPut_dmE (Aq @hoc (Aq @ofOk.eq_1 (Aq @zeroM.eq_1 (Aq @zeroM.eq_2 @hlt9))))))))
             refine rgqv [3,4,6,7,15,16,17,65,66,67,120] [6,7,601,602] ?_;refine AW_cond true (by simp [hlt9]) (fun _=>?_) (fun h=>by cases h)
             have qf:=(Aq @hk1 (Aq @hk3 (Aq @hk5 (Aq @entPut_dmE (Aq @hoc (Aq @ofOk.eq_1 (Aq @zeroM.eq_1 @zeroM.eq_2)))))))
             refine reKv hK12 [3,4,6,7,15,16,17,65,66,67] [6,7,601,602] ?_;refine AW_then fun K13 hK13=>?_;refine rg0 [3,4,6,7,15,17,65,66,67,133] [6,7,601,602] ?_;refine AW_ff rfl ?_;refine AW_skip ?_;refine hK13 _ (AW.norm [3,4,6,7,15,17,65,66,67] [6,7,601,602] (fun _ _=>trivial) (AW.st (by simp;rfl) ?_))
             have qf:=(Aq @hk1 (Aq @hk3 (Aq @hk5 (Aq @entPut_dmE (Aq @hentp (Aq @ofOk.eq_1 (Aq @zeroM.eq_1 @zeroM.eq_2)))))))
             refine reKv hK10 [3,4,6,7,65,66,67] [6,7,601,602] ?_;refine AW_re (tyOf_good _) fun K' hK'=>?_;(repeat (refine sxn fun K2 hK2=>?_;simp;(repeat (refine ⟨by omega,?_⟩));refine hK2 _ ?_;clear hK2 K2));refine sxz (hK' _ ?_);clear hK' K';(try simp only [thn,inb]);refine Again.mk (n+1,(putK L4 key (.bool (c+1 == top)),putK L5 key (.int .i64 (c+1)))) ⟨by omega,?_,?_⟩ (by omega) ?_
             ·rw [hTn2];exact eqm_put hL4 _ _
             ·rw [hTn2];exact eqm_put hL5 _ _
             ·refine Imp.to' (fun _ _=>trivial) (by simp) (by simp)
            ·simp [hlt9,hput,hcv] at hTn2
             have qf:=(Aq @hk1 (Aq @hk3 (Aq @hk5 (Aq @entPut_dmE (Aq @hoc (Aq @ofOk.eq_1 (Aq @zeroM.eq_1 (Aq @zeroM.eq_2 @hlt9))))))))
             refine rgqv [3,4,6,7,15,16,17,65,66,67,120] [6,7,601,602] ?_;refine AW_cond false (by simp [hlt9]) (fun h=>by cases h) (fun _=>?_);refine AW_skip ?_;refine hK12 _ (AW.norm [3,4,6,7,15,16,17,65,66,67] [6,7,601,602] (fun _ _=>trivial) (AW.st (by simp;rfl) ?_));refine AW_then fun K13 hK13=>?_;refine rg0 [3,4,6,7,15,17,65,66,67,133] [6,7,601,602] ?_;refine AW_ff rfl ?_;refine AW_skip ?_;refine hK13 _ (AW.norm [3,4,6,7,15,17,65,66,67] [6,7,601,602] (fun _ _=>trivial) (AW.st (by simp;rfl) ?_))
             have qf:=(Aq @hk1 (Aq @hk3 (Aq @hk5 (Aq @entPut_dmE (Aq @hoc (Aq @ofOk.eq_1 (Aq @zeroM.eq_1 @zeroM.eq_2)))))))
             refine reKv hK10 [3,4,6,7,65,66,67] [6,7,601,602] ?_;refine AW_re (tyOf_good _) fun K' hK'=>?_;(repeat (refine sxn fun K2 hK2=>?_;simp;(repeat (refine ⟨by omega,?_⟩));refine hK2 _ ?_;clear hK2 K2));refine sxz (hK' _ ?_);clear hK' K';(try simp only [thn,inb]);refine Again.mk (n+1,(putK L4 key (.bool (c == top)),L5)) ⟨by omega,?_,?_⟩ (by omega) ?_
             ·rw [hTn2];exact eqm_put hL4 _ _
             ·rw [hTn2];exact hL5
             ·refine Imp.to' (fun _ _=>trivial) (by simp) (by simp)
           | false=>
            simp [hput,hcv] at hTn2;refine rg0 [3,4,6,7,15,16,17,65,66,67,120] [6,7,601,602] ?_;refine AW_cond false (by simp) (fun h=>by cases h) (fun _=>?_);refine AW_skip ?_;refine hK12 _ (AW.norm [3,4,6,7,15,16,17,65,66,67] [6,7,601,602] (fun _ _=>trivial) (AW.st (by simp;rfl) ?_));refine AW_then fun K13 hK13=>?_;refine rg0 [3,4,6,7,15,17,65,66,67,133] [6,7,601,602] ?_;refine AW_tt rfl ?_
            have qf:=(Aq @hk1 (Aq @hk3 (Aq @hk5 @entPut_dmE)))
            refine reKv hK13 [3,4,6,7,15,17,65,66,67] [6,7,601,602] ?_
            have qf:=(Aq @hk1 (Aq @hk3 (Aq @hk5 (Aq @entPut_dmE (Aq @hentp (Aq @ofOk.eq_1 (Aq @zeroM.eq_1 @zeroM.eq_2)))))))
            refine reKv hK10 [3,4,6,7,65,66,67] [6,7,601,602] ?_;refine AW_re (tyOf_good _) fun K' hK'=>?_;(repeat (refine sxn fun K2 hK2=>?_;simp;(repeat (refine ⟨by omega,?_⟩));refine hK2 _ ?_;clear hK2 K2));refine sxz (hK' _ ?_);clear hK' K';(try simp only [thn,inb]);refine Again.mk (n+1,(putK L4 key (.bool ((0:Int) == top)),putK L5 key (.int .i64 0))) ⟨by omega,?_,?_⟩ (by omega) ?_
            ·rw [hTn2];exact eqm_put hL4 _ _
            ·rw [hTn2];exact eqm_put hL5 _ _
            ·refine Imp.to' (fun _ _=>trivial) (by simp) (by simp)
         ·simp at hTn2;refine rg0 [3,4,6,7,15,16,17,65,66,67,86,87] [6,7,601,602] ?_;refine AW_ff rfl ?_;refine rg0 [3,4,6,7,15,16,17,65,66,67,86,94] [6,7,601,602] ?_;refine AW_ff rfl ?_;refine rg0 [3,4,6,7,15,16,17,65,66,67,86,101] [6,7,601,602] ?_;refine AW_ff rfl ?_;refine AW_then fun K11 hK11=>?_;refine rg0 [3,4,6,7,15,16,17,65,66,67,86,108] [6,7,601,602] ?_;refine AW_ff rfl ?_;refine reK trivial hK11 [3,4,6,7,15,16,17,65,66,67,86,108] [6,7,601,602] ?_;refine AW_tt rfl ?_;refine AW_then fun K12 hK12=>?_
          have hent2:∃ oc,entGet (.string key) (dmE L5)=oc∧((oc=none∧c=0)∨oc=some (.v (.int .i64 c))):=⟨_,rfl,hent⟩
          clear hent
          obtain ⟨oc,hoc,hent⟩:=hent2
          rcases hent with ⟨rfl,rfl⟩ | rfl
          ·cases yes with
           | true=>
            by_cases hlt9:0 < top
            ·simp [hlt9,hput,hcv] at hTn2
             have qf:=(Aq @hk1 (Aq @hk3 (Aq @hk5 (Aq @entPut_dmE (Aq @hoc (Aq @ofOk.eq_1 (Aq @zeroM.eq_1 (Aq @zeroM.eq_2 @hlt9))))))))
             refine rgqv [3,4,6,7,15,16,17,65,66,67,120] [6,7,601,602] ?_;refine AW_cond true (by simp [hlt9]) (fun _=>?_) (fun h=>by cases h)
             have qf:=(Aq @hk1 (Aq @hk3 (Aq @hk5 (Aq @entPut_dmE (Aq @hoc (Aq @ofOk.eq_1 (Aq @zeroM.eq_1 @zeroM.eq_2)))))))
             refine reKv hK12 [3,4,6,7,15,16,17,65,66,67] [6,7,601,602] ?_;refine AW_then fun K13 hK13=>?_;refine rg0 [3,4,6,7,15,17,65,66,67,133] [6,7,601,602] ?_;refine AW_ff rfl ?_;refine AW_skip ?_;refine hK13 _ (AW.norm [3,4,6,7,15,17,65,66,67] [6,7,601,602] (fun _ _=>trivial) (AW.st (by simp;rfl) ?_))
             have qf:=(Aq @hk1 (Aq @hk3 (Aq @hk5 (Aq @entPut_dmE (Aq @hentp (Aq @ofOk.eq_1 (Aq @zeroM.eq_1 @zeroM.eq_2)))))))
             refine reKv hK10 [3,4,6,7,65,66,67] [6,7,601,602] ?_;refine AW_re (tyOf_good _) fun K' hK'=>?_;(repeat (refine sxn fun K2 hK2=>?_;simp;(repeat (refine ⟨by omega,?_⟩));refine hK2 _ ?_;clear hK2 K2));refine sxz (hK' _ ?_);clear hK' K';(try simp only [thn,inb]);refine Again.mk (n+1,(putK L4 key (.bool ((0:Int)+1 == top)),putK L5 key (.int .i64 ((0:Int)+1)))) ⟨by omega,?_,?_⟩ (by omega) ?_
             ·rw [hTn2];exact eqm_put hL4 _ _
             ·rw [hTn2];exact eqm_put hL5 _ _
             ·refine Imp.to' (fun _ _=>trivial) (by simp) (by simp)
            ·simp [hlt9,hput,hcv] at hTn2
             have qf:=(Aq @hk1 (Aq @hk3 (Aq @hk5 (Aq @entPut_dmE (Aq @hoc (Aq @ofOk.eq_1 (Aq @zeroM.eq_1 (Aq @zeroM.eq_2 @hlt9))))))))
             refine rgqv [3,4,6,7,15,16,17,65,66,67,120] [6,7,601,602] ?_;refine AW_cond false (by simp [hlt9]) (fun h=>by cases h) (fun _=>?_);refine AW_skip ?_;refine hK12 _ (AW.norm [3,4,6,7,15,16,17,65,66,67] [6,7,601,602] (fun _ _=>trivial) (AW.st (by simp;rfl) ?_));refine AW_then fun K13 hK13=>?_;refine rg0 [3,4,6,7,15,17,65,66,67,133] [6,7,601,602] ?_;refine AW_ff rfl ?_;refine AW_skip ?_;refine hK13 _ (AW.norm [3,4,6,7,15,17,65,66,67] [6,7,601,602] (fun _ _=>trivial) (AW.st (by simp;rfl) ?_))
             have qf:=(Aq @hk1 (Aq @hk3 (Aq @hk5 (Aq @entPut_dmE (Aq @hoc (Aq @ofOk.eq_1 (Aq @zeroM.eq_1 @zeroM.eq_2)))))))
             refine reKv hK10 [3,4,6,7,65,66,67] [6,7,601,602] ?_;refine AW_re (tyOf_good _) fun K' hK'=>?_;(repeat (refine sxn fun K2 hK2=>?_;simp;(repeat (refine ⟨by omega,?_⟩));refine hK2 _ ?_;clear hK2 K2));refine sxz (hK' _ ?_);clear hK' K';(try simp only [thn,inb]);refine Again.mk (n+1,(putK L4 key (.bool ((0:Int) == top)),L5)) ⟨by omega,?_,?_⟩ (by omega) ?_
             ·rw [hTn2];exact eqm_put hL4 _ _
             ·rw [hTn2];exact hL5
             ·refine Imp.to' (fun _ _=>trivial) (by simp) (by simp)
           | false=>
            simp [hput,hcv] at hTn2;refine rg0 [3,4,6,7,15,16,17,65,66,67,120] [6,7,601,602] ?_;refine AW_cond false (by simp) (fun h=>by cases h) (fun _=>?_);refine AW_skip ?_;refine hK12 _ (AW.norm [3,4,6,7,15,16,17,65,66,67] [6,7,601,602] (fun _ _=>trivial) (AW.st (by simp;rfl) ?_));refine AW_then fun K13 hK13=>?_;refine rg0 [3,4,6,7,15,17,65,66,67,133] [6,7,601,602] ?_;refine AW_ff rfl ?_;refine AW_skip ?_;refine hK13 _ (AW.norm [3,4,6,7,15,17,65,66,67] [6,7,601,602] (fun _ _=>trivial) (AW.st (by simp;rfl) ?_))
            have qf:=(Aq @hk1 (Aq @hk3 (Aq @hk5 (Aq @entPut_dmE (Aq @hoc (Aq @ofOk.eq_1 (Aq @zeroM.eq_1 @zeroM.eq_2)))))))
            refine reKv hK10 [3,4,6,7,65,66,67] [6,7,601,602] ?_;refine AW_re (tyOf_good _) fun K' hK'=>?_;(repeat (refine sxn fun K2 hK2=>?_;simp;(repeat (refine ⟨by omega,?_⟩));refine hK2 _ ?_;clear hK2 K2));refine sxz (hK' _ ?_);clear hK' K';(try simp only [thn,inb]);refine Again.mk (n+1,(putK L4 key (.bool ((0:Int) == top)),L5)) ⟨by omega,?_,?_⟩ (by omega) ?_
            ·rw [hTn2];exact eqm_put hL4 _ _
            ·rw [hTn2];exact hL5
            ·refine Imp.to' (fun _ _=>trivial) (by simp) (by simp)
          ·cases yes with
           | true=>
            by_cases hlt9:c < top
            ·simp [hlt9,hput,hcv] at hTn2
             have qf:=(Aq @hk1 (Aq @hk3 (Aq @hk5 (Aq @entPut_dmE (Aq @hoc (Aq @ofOk.eq_1 (Aq @zeroM.eq_1 (Aq @zeroM.eq_2 @hlt9))))))))
             refine rgqv [3,4,6,7,15,16,17,65,66,67,120] [6,7,601,602] ?_;refine AW_cond true (by simp [hlt9]) (fun _=>?_) (fun h=>by cases h)
             have qf:=(Aq @hk1 (Aq @hk3 (Aq @hk5 (Aq @entPut_dmE (Aq @hoc (Aq @ofOk.eq_1 (Aq @zeroM.eq_1 @zeroM.eq_2)))))))
             refine reKv hK12 [3,4,6,7,15,16,17,65,66,67] [6,7,601,602] ?_;refine AW_then fun K13 hK13=>?_;refine rg0 [3,4,6,7,15,17,65,66,67,133] [6,7,601,602] ?_;refine AW_ff rfl ?_;refine AW_skip ?_;refine hK13 _ (AW.norm [3,4,6,7,15,17,65,66,67] [6,7,601,602] (fun _ _=>trivial) (AW.st (by simp;rfl) ?_))
             have qf:=(Aq @hk1 (Aq @hk3 (Aq @hk5 (Aq @entPut_dmE (Aq @hentp (Aq @ofOk.eq_1 (Aq @zeroM.eq_1 @zeroM.eq_2)))))))
             refine reKv hK10 [3,4,6,7,65,66,67] [6,7,601,602] ?_;refine AW_re (tyOf_good _) fun K' hK'=>?_;(repeat (refine sxn fun K2 hK2=>?_;simp;(repeat (refine ⟨by omega,?_⟩));refine hK2 _ ?_;clear hK2 K2));refine sxz (hK' _ ?_);clear hK' K';(try simp only [thn,inb]);refine Again.mk (n+1,(putK L4 key (.bool (c+1 == top)),putK L5 key (.int .i64 (c+1)))) ⟨by omega,?_,?_⟩ (by omega) ?_
             ·rw [hTn2];exact eqm_put hL4 _ _
             ·rw [hTn2];exact eqm_put hL5 _ _
             ·refine Imp.to' (fun _ _=>trivial) (by simp) (by simp)
            ·simp [hlt9,hput,hcv] at hTn2
             have qf:=(Aq @hk1 (Aq @hk3 (Aq @hk5 (Aq @entPut_dmE (Aq @hoc (Aq @ofOk.eq_1 (Aq @zeroM.eq_1 (Aq @zeroM.eq_2 @hlt9))))))))
             refine rgqv [3,4,6,7,15,16,17,65,66,67,120] [6,7,601,602] ?_;refine AW_cond false (by simp [hlt9]) (fun h=>by cases h) (fun _=>?_);refine AW_skip ?_;refine hK12 _ (AW.norm [3,4,6,7,15,16,17,65,66,67] [6,7,601,602] (fun _ _=>trivial) (AW.st (by simp;rfl) ?_));refine AW_then fun K13 hK13=>?_;refine rg0 [3,4,6,7,15,17,65,66,67,133] [6,7,601,602] ?_;refine AW_ff rfl ?_;refine AW_skip ?_;refine hK13 _ (AW.norm [3,4,6,7,15,17,65,66,67] [6,7,601,602] (fun _ _=>trivial) (AW.st (by simp;rfl) ?_))
             have qf:=(Aq @hk1 (Aq @hk3 (Aq @hk5 (Aq @entPut_dmE (Aq @hoc (Aq @ofOk.eq_1 (Aq @zeroM.eq_1 @zeroM.eq_2)))))))
             refine reKv hK10 [3,4,6,7,65,66,67] [6,7,601,602] ?_;refine AW_re (tyOf_good _) fun K' hK'=>?_;(repeat (refine sxn fun K2 hK2=>?_;simp;(repeat (refine ⟨by omega,?_⟩));refine hK2 _ ?_;clear hK2 K2));refine sxz (hK' _ ?_);clear hK' K';(try simp only [thn,inb]);refine Again.mk (n+1,(putK L4 key (.bool (c == top)),L5)) ⟨by omega,?_,?_⟩ (by omega) ?_
             ·rw [hTn2];exact eqm_put hL4 _ _
             ·rw [hTn2];exact hL5
             ·refine Imp.to' (fun _ _=>trivial) (by simp) (by simp)
           | false=>
            simp [hput,hcv] at hTn2;refine rg0 [3,4,6,7,15,16,17,65,66,67,120] [6,7,601,602] ?_;refine AW_cond false (by simp) (fun h=>by cases h) (fun _=>?_);refine AW_skip ?_;refine hK12 _ (AW.norm [3,4,6,7,15,16,17,65,66,67] [6,7,601,602] (fun _ _=>trivial) (AW.st (by simp;rfl) ?_));refine AW_then fun K13 hK13=>?_;refine rg0 [3,4,6,7,15,17,65,66,67,133] [6,7,601,602] ?_;refine AW_ff rfl ?_;refine AW_skip ?_;refine hK13 _ (AW.norm [3,4,6,7,15,17,65,66,67] [6,7,601,602] (fun _ _=>trivial) (AW.st (by simp;rfl) ?_))
            have qf:=(Aq @hk1 (Aq @hk3 (Aq @hk5 (Aq @entPut_dmE (Aq @hoc (Aq @ofOk.eq_1 (Aq @zeroM.eq_1 @zeroM.eq_2)))))))
            refine reKv hK10 [3,4,6,7,65,66,67] [6,7,601,602] ?_;refine AW_re (tyOf_good _) fun K' hK'=>?_;(repeat (refine sxn fun K2 hK2=>?_;simp;(repeat (refine ⟨by omega,?_⟩));refine hK2 _ ?_;clear hK2 K2));refine sxz (hK' _ ?_);clear hK' K';(try simp only [thn,inb]);refine Again.mk (n+1,(putK L4 key (.bool (c == top)),L5)) ⟨by omega,?_,?_⟩ (by omega) ?_
            ·rw [hTn2];exact eqm_put hL4 _ _
            ·rw [hTn2];exact hL5
            ·refine Imp.to' (fun _ _=>trivial) (by simp) (by simp)
         ·simp at hTn2;refine rg0 [3,4,6,7,15,16,17,65,66,67,86,87] [6,7,601,602] ?_;refine AW_ff rfl ?_;refine rg0 [3,4,6,7,15,16,17,65,66,67,86,94] [6,7,601,602] ?_;refine AW_ff rfl ?_;refine rg0 [3,4,6,7,15,16,17,65,66,67,86,101] [6,7,601,602] ?_;refine AW_ff rfl ?_;refine AW_then fun K11 hK11=>?_;refine rg0 [3,4,6,7,15,16,17,65,66,67,86,108] [6,7,601,602] ?_;refine AW_ff rfl ?_;refine reK trivial hK11 [3,4,6,7,15,16,17,65,66,67,86,108] [6,7,601,602] ?_;refine AW_ff rfl ?_;refine rg0 [3,4,6,7,15,16,65,66,67,149] [6,7,601,602] ?_;refine AW_tt rfl ?_;refine rg0 [3,4,6,7,15,65,66,67,151] [6,7,601,602] ?_
          cases yes with
          | true=>
           simp at hTn2;refine AW_tt rfl ?_;refine AW_rdge (tyOf_good _) (by kernel_rfl) [(1,7),(3,999),(5,7),(7,999),(8,602),(9,601)] (by kernel_rfl) fun K' hK'=>?_;(repeat (refine sxg_next fun K2 hK2=>?_;simp [hk1,hk3,hk5,entPut_dmE];(repeat (refine ⟨by omega,?_⟩));refine hK2 _ ?_;clear hK2 K2));refine sxg_nil (hK' _ ?_);clear hK' K';refine hK10 _ (AW.norm [3,4,6,7,65,66,67] [6,7,601,602] (fun _ _=>trivial) (AW.st (by simp [hk1,hk3,hk5,entPut_dmE];rfl) ?_));refine AW_re (tyOf_good _) fun K' hK'=>?_;(repeat (refine sxn fun K2 hK2=>?_;simp;(repeat (refine ⟨by omega,?_⟩));refine hK2 _ ?_;clear hK2 K2));refine sxz (hK' _ ?_);clear hK' K';(try simp only [thn,inb]);refine Again.mk (n+1,(putK L4 key (.bool false),putK L5 key (.int .i64 0))) ⟨by omega,?_,?_⟩ (by omega) ?_
           ·rw [hTn2];exact eqm_put hL4 _ _
           ·rw [hTn2];exact eqm_put hL5 _ _
           ·refine Imp.to' (fun _ _=>trivial) (by simp) (by simp)
          | false=>
           simp at hTn2;refine AW_ff rfl ?_;refine AW_skip ?_;refine hK10 _ (AW.norm [3,4,6,7,65,66,67] [6,7,601,602] (fun _ _=>trivial) (AW.st (by simp;rfl) ?_));refine AW_re (tyOf_good _) fun K' hK'=>?_;(repeat (refine sxn fun K2 hK2=>?_;simp;(repeat (refine ⟨by omega,?_⟩));refine hK2 _ ?_;clear hK2 K2));refine sxz (hK' _ ?_);clear hK' K';(try simp only [thn,inb]);refine Again.mk (n+1,(L4,L5)) ⟨by omega,?_,?_⟩ (by omega) ?_
           ·rw [hTn2];exact hL4
           ·rw [hTn2];exact hL5
           ·refine Imp.to' (fun _ _=>trivial) (by simp) (by simp)
        ·have hne:n=p.rungs.length:=by omega
         have hMl:=hMen hne
         refine AW_cond false (by simp<;>omega) (fun h=>by cases h) (fun _=>?_);refine AW_exit (hK8 _ ?_);refine rg0 [6] [6,7,601,602] ?_
         have hp1:=eqm_perm hL4 hMkn0.1
         have hp2:=eqm_perm hL5 hMkn0.2
         refine AW_ret ?_;simp [D.le,D.le.go,takeMap,hMl,allV_dmE,hp1,hp2]
end Go.Proofs.YthnjfeielmbfkaaGreatDoor
namespace Go.Proofs.YthnjfeielmbfkaaGreatDoor
open Go.Av
theorem wlx32:(⟨#[32]⟩:ByteArray)=bs [32]:=rfl
theorem wlx0:(⟨#[]⟩:ByteArray)=bs []:=rfl
def fullW (l:List Tx):List (List D):=(l.filter fun w=>decide (w≠[])).map fun s=>[dS s]
theorem fullW_nil:fullW []=[]:=rfl
theorem fullW_take (l:List Tx) (n:Nat) (h:n < l.length):fullW (l.take (n+1))=if l[n]=[] then fullW (l.take n) else fullW (l.take n) ++ [[dS l[n]]]:=by
 unfold fullW;rw [List.take_succ_eq_append_getElem h,List.filter_append,List.map_append]
 by_cases h0:l[n]=[]
 ·simp [h0]
 ·simp [h0]
set_option maxHeartbeats 4000000 in
theorem words_spec (G:Glob) (hM:HasMax G) (t:Tx) (ht:t.length < 2^30):PureC Tryz.prog G 84 [dS t] (.sl none ((wordsT t).map fun s=>[dS s])):=by
 have hsp:=split1_spec G hM t 32 ht
 have hwt:(wordsT t).map (fun s=>[dS s])=fullW (cutT 32 t):=by
  unfold fullW wordsT cutT;rw [← wordsGo_cut]
 rw [hwt]
 have hll:=cutT_len 32 t
 simp only [dS] at hsp;generalize cutT 32 t=l at *;refine PureC.of_body (tyOf_good _) Tryz.func84 rfl rfl (rs:=[.tmp 2]) Tryz.results84 (by simp [Tryz.ntmps84]) fun X=>?_;simp only [Tryz.ntmps84,List.map]
 have fw:=@dNum.eq_1
 refine rgq fw [0] [] ?_;refine rgq fw [0,3] [] ?_;refine AW_then fun K1 hK1=>?_
 have qf:=(Aq fw @wlx32)
 refine rgcv hsp [3,7,8,9] [] ?_;refine AW.imp (Imp.adopt 3 300 9 1 rfl rfl) ?_;refine AW_for (S:=Nat) (fun n=>n≤l.length) (fun n=>⟨lst [(3,.own 300 0 (fullW (l.take n)).length),(7,.d (.sl (some true) (l.map fun s=>[dS s]))),(8,int l.length),(9,int n)],hlst [(300,.sl 9 1 (fullW (l.take n)))]⟩) (fun n=>l.length - n) 0 ?_ (by omega) ?_
 ·refine Imp.to' (fun _ _=>trivial) (by simp [dNum,fullW_nil,dS]) (by simp [dNum,fullW_nil,dS])
 ·intro n hn
  refine rgq fw [3,7,8,9,10] [300] ?_;refine AW_then fun K2 hK2=>?_
  by_cases hlt:n < l.length
  ·refine AW_cond true (by simp;omega) (fun _=>?_) (fun h=>by cases h)
   have hs:=fullW_take l n hlt
   generalize hW2:fullW (l.take (n+1))=W2 at hs;generalize hW:fullW (l.take n)=W at *
   have hWl:W.length≤2^40:=by
    rw [← hW];unfold fullW;rw [List.length_map]
    have h1:=List.length_filter_le (fun w=>decide (w≠[])) (l.take n)
    have h2:=List.length_take_le n l
    omega
   refine AW_skip (hK2 _ ?_);refine AW_then fun K3 hK3=>?_;refine AW_block ?_;simp only [dS] at hs
   have qf:=(Aq fw (Aq @hlt @dS.eq_1))
   refine rgqv [3,5,7,8,9] [300] ?_
   by_cases hx:l[n]=[]
   ·rw [if_pos hx] at hs;refine rg [3,5,7,8,9,14] [300] (fun _ _=>trivial) fun K' hK'=>?_;(repeat (refine sxn fun K2 hK2=>?_;simp [dNum,wlx0,binS,bs_list,hx];(repeat (refine ⟨by omega,?_⟩));refine hK2 _ ?_;clear hK2 K2));refine sxz (hK' _ (AW.st (by simp [dNum,wlx0,binS,bs_list,hx];rfl) ?_));clear hK' K';refine AW_cond false (by simp [hx]) (fun h=>by cases h) (fun _=>?_);refine AW_skip (hK3 _ ?_);refine AW_re (tyOf_good _) fun K' hK'=>?_;(repeat (refine sxn fun K2 hK2=>?_;simp [dNum];(repeat (refine ⟨by omega,?_⟩));refine hK2 _ ?_;clear hK2 K2));refine sxz (hK' _ ?_);clear hK' K';(try simp only [thn,inb]);refine Again.mk (n+1) (by omega) (by omega) ?_;refine Imp.to' (fun _ _=>trivial) (by simp [dNum,hW2,hs,dS]) (by simp [dNum,hW2,hs,dS])
   ·rw [if_neg hx] at hs
    have hx2:l[n].isEmpty=false:=by rw [List.isEmpty_eq_false_iff];exact hx
    refine rg [3,5,7,8,9,14] [300] (fun _ _=>trivial) fun K' hK'=>?_;(repeat (refine sxn fun K2 hK2=>?_;simp [dNum,wlx0,binS,bs_list,hx];(repeat (refine ⟨by omega,?_⟩));refine hK2 _ ?_;clear hK2 K2));refine sxz (hK' _ (AW.st (by simp [dNum,wlx0,binS,bs_list,hx];rfl) ?_));clear hK' K';refine AW_cond true (by simp [hx]) (fun _=>?_) (fun h=>by cases h);refine AW_re (tyOf_good _) fun K' hK'=>?_;(repeat (refine sxn fun K2 hK2=>?_;simp [dNum,List.take_of_length_le];(repeat (refine ⟨by omega,?_⟩));refine hK2 _ ?_;clear hK2 K2));refine sxz (hK' _ ?_);clear hK' K';refine hK3 _ (AW.norm [3,7,8,9] [300] (fun _ _=>trivial) (AW.st (by simp [dNum,List.take_of_length_le];rfl) ?_));refine AW_re (tyOf_good _) fun K' hK'=>?_;(repeat (refine sxn fun K2 hK2=>?_;simp [dNum];(repeat (refine ⟨by omega,?_⟩));refine hK2 _ ?_;clear hK2 K2));refine sxz (hK' _ ?_);clear hK' K';(try simp only [thn,inb]);refine Again.mk (n+1) (by omega) (by omega) ?_;refine Imp.to' (fun _ _=>trivial) (by simp [dNum,hW2,hs,dS]) (by simp [dNum,hW2,hs,dS])
  ·obtain rfl:n=l.length:=by omega
   refine AW_cond false (by simp) (fun h=>by cases h) (fun _=>?_);rw [List.take_length];refine AW_exit (hK1 _ ?_);refine AW.imp (Imp.freeze 300 trivial) ?_;refine AW.st (by simp [dNum];rfl) ?_;refine rgq fw [2] [] ?_;refine AW_ret ?_;simp [D.le,D.le.go,takeMap,dNum,D.le_refl,D.leGo_refl]
def dNr:Option Int→D
 | some v=>.tup [.v (.int .i64 v),.v (.bool true)]
 | none=>.tup [.v (.int .i64 0),.v (.bool false)]
set_option maxHeartbeats 4000000 in
theorem rnumber_spec (G:Glob) (hP:HasP10 G) {es er:Value} (hE:HasNE G es er) (s:Tx) (hs:s.length < 2^40):PureC Tryz.prog G 88 [dS s] (dNr (numF s)):=by
 have hpi:=parseInt_spec G hE s hs
 have hnum:numF s=match Lib.atoiAll s with
  | .ok v=>if Lib.itoa v=s then some v else none
  | _=>none:=rfl
 unfold dNumEnd at hpi;refine PureC.of_body (tyOf_good _) Tryz.func88 rfl rfl (rs:=[.tmp 2,.tmp 3]) Tryz.results88 (by simp [Tryz.ntmps88]) fun X=>?_;simp only [Tryz.ntmps88,List.map]
 have fw:=@dS.eq_1
 refine rgq fw [0] [] ?_
 cases hn:Lib.atoiAll s with
 | ok v=>
  rw [hn] at hpi hnum
  dsimp only at hpi hnum
  obtain ⟨v0,v1⟩:=Lib.atoiAll_bounds hn
  have hit:=formatInt_spec G hP v v0 v1
  simp only [dS] at hit;generalize Lib.itoa v=iv at hit hnum;refine rgc fw hpi [0,4,5] [] ?_;refine AW_then fun K1 hK1=>?_
  by_cases hc:iv=s
  ·rw [if_pos hc] at hnum;subst hc;refine rg [4,18] [] (fun _ _=>trivial) fun K' hK'=>?_;(repeat (refine sxn fun K2 hK2=>?_;simp [dS,binS,bs_list];(repeat (refine ⟨by omega,?_⟩));refine hK2 _ ?_;clear hK2 K2));refine sxn fun K2 hK2=>?_;simp [dS,binS,bs_list];refine callK.data (hit) (by simp;rfl) (by first | exact D.leGo_refl _ | simp [takeMap,List.map_map,Function.comp_def,D.le,D.le.go,D.le_refl,D.leGo_refl,dS,binS,bs_list]) ?_;refine hK2 _ ?_;clear hK2 K2;simp only [putd,upd_lst];(repeat (refine sxn fun K2 hK2=>?_;simp [dS,binS,bs_list];(repeat (refine ⟨by omega,?_⟩));refine hK2 _ ?_;clear hK2 K2));refine sxz (hK' _ (AW.st (by simp [dS,binS,bs_list];rfl) ?_));clear hK' K';refine AW_ff rfl ?_;refine AW_skip (hK1 _ ?_);refine rgq fw [2,3] [] ?_;refine AW_ret ?_;simp [D.le,D.le.go,takeMap,dS,hnum,dNr]
  ·rw [if_neg hc] at hnum;refine rg [4,18] [] (fun _ _=>trivial) fun K' hK'=>?_;(repeat (refine sxn fun K2 hK2=>?_;simp [dS,binS,bs_list,hc];(repeat (refine ⟨by omega,?_⟩));refine hK2 _ ?_;clear hK2 K2));refine sxn fun K2 hK2=>?_;simp [dS,binS,bs_list,hc];refine callK.data (hit) (by simp;rfl) (by first | exact D.leGo_refl _ | simp [takeMap,List.map_map,Function.comp_def,D.le,D.le.go,D.le_refl,D.leGo_refl,dS,binS,bs_list,hc]) ?_;refine hK2 _ ?_;clear hK2 K2;simp only [putd,upd_lst];(repeat (refine sxn fun K2 hK2=>?_;simp [dS,binS,bs_list,hc];(repeat (refine ⟨by omega,?_⟩));refine hK2 _ ?_;clear hK2 K2));refine sxz (hK' _ (AW.st (by simp [dS,binS,bs_list,hc];rfl) ?_));clear hK' K';refine AW_cond true (by simp [hc]) (fun _=>?_) (fun h=>by cases h);refine rgq fw [2,3] [] ?_;refine AW_ret ?_;simp [D.le,D.le.go,takeMap,dS,hnum,dNr]
 | range=>
  rw [hn] at hpi hnum
  dsimp only [dNumErr] at hpi hnum
  refine rgc fw hpi [0,4,5] [] ?_;refine AW_then fun K1 hK1=>?_;refine rgq fw [4,18] [] ?_;refine AW_tt rfl ?_;refine rgq fw [2,3] [] ?_;refine AW_ret ?_;simp [D.le,D.le.go,takeMap,dS,hnum,dNr]
 | _=>
  rw [hn] at hpi hnum
  dsimp only [dNumErr] at hpi hnum
  refine rgc fw hpi [0,4,5] [] ?_;refine AW_then fun K1 hK1=>?_;refine rgq fw [4,18] [] ?_;refine AW_tt rfl ?_;refine rgq fw [2,3] [] ?_;refine AW_ret ?_;simp [D.le,D.le.go,takeMap,dS,hnum,dNr]
end Go.Proofs.YthnjfeielmbfkaaGreatDoor
namespace Go.Proofs.YthnjfeielmbfkaaGreatDoor
open Go.Av
def getS (l:List Tx) (n:Nat):PrS:=match prK l n with
 | .inr s=>s
 | .inl _=>prS0
theorem getS_of {l:List Tx} {n:Nat} {s:PrS} (h:prK l n = .inr s):getS l n=s:=by unfold getS;rw [h]
theorem wordsT_ne {t:Tx}:∀ w∈wordsT t,w≠[]:=by
 intro w h
 unfold wordsT at h;rw [← wordsGo_cut] at h
 have:=(List.mem_filter.1 h).2
 simpa using this
theorem ixW_w {l:List Tx} {s:Tx} {k:Nat} (hk:k < l.length) (h0:l[k]≠s):ixW l s≠k:=by
 intro e
 have h1:¬ ixW l s < 0:=by omega
 unfold ixW at e h1
 obtain ⟨j,hj,he,hs⟩:=idx_pos h1
 rw [he] at e
 have:j=k:=by omega
 subst this;exact h0 (by simpa using hs)
theorem cut_parts61 {t:Tx} (h:(61:UInt8)∈t):(cutAt 61 t).1.length+1+(cutAt 61 t).2.length=t.length∧(bs t).extract 0 (cutAt 61 t).1.length=bs (cutAt 61 t).1∧(bs t).extract ((cutAt 61 t).1.length+1) t.length=bs (cutAt 61 t).2:=by
 obtain ⟨a,b,rfl,ha⟩:=List.eq_append_cons_of_mem h
 rw [cutAt_some ha];refine ⟨by simp;omega,?_,?_⟩
 ·rw [Lib.extract_eq];simp [bs]
 ·rw [Lib.extract_eq]
  have:(a ++ 61 :: b).drop (a.length+1)=b:=by
   rw [show a.length+1=(a ++ [(61:UInt8)]).length by simp,show a ++ (61:UInt8) :: b=(a ++ [61]) ++ b by simp,List.drop_left]
  simp only [bs];rw [this,List.take_of_length_le (by simp;omega)]
theorem lx61b:(61:UInt8).toNat=61:=rfl
set_option maxRecDepth 100000 in
set_option maxHeartbeats 64000000 in
theorem rpparse_spec (G:Glob) (hF:HasFine G) (hM:HasMax G) (hP:HasP10 G) {es er:Value} (hE:HasNE G es er) (hNW:HasNW G) (hRW:HasRW G) (t:Tx):PureC Tryz.prog G 39 [dS t] (.tup [dPw (parseP t).2,dFault (parseP t).1]):=by
 have hbare:=bare0_spec G 4
 simp only [dNum] at hbare
 have hF0:G 0=some (.ip [.v (.int .i64 0),.v (.int .i64 (-1))]):=hF
 unfold HasNW at hNW;unfold HasRW at hRW;refine PureC.of_body (tyOf_good _) Tryz.func39 rfl rfl (rs:=[.cell 2 78,.cell 3 64]) Tryz.results39 (by simp [Tryz.ntmps39]) fun X=>?_;simp only [Tryz.ntmps39,List.map]
 have fw:=(Aq @dNum.eq_1 @dS.eq_1)
 refine rgq fw [0,2,3] [2,3] ?_;refine AW_then fun K1 hK1=>?_
 by_cases ht:20000 < t.length
 ·have ht1:(t.length:Int) > 20000:=by omega
  have hp:parseP t=(some (4,none),⟨[],[]⟩):=by unfold parseP;rw [if_pos ht]
  have qf:=(Aq fw (Aq @bs_size @ht1))
  refine rgqv [0,2,3,23] [2,3] ?_;refine AW_cond true (by simp [ht1]) (fun _=>?_) (fun h=>by cases h);refine rgc fw hbare [2,3] [2,3] ?_;refine AW_ret ?_;simp [D.le,D.le.go,takeMap,dNum,dS,hp,dPw,cPw,dNms,dFault,codeF,placeF]
 have ht1:¬ (t.length:Int) > 20000:=by omega
 have qf:=(Aq fw (Aq @bs_size @ht1))
 refine rgqv [0,2,3,23] [2,3] ?_;refine AW_cond false (by simp [ht1]) (fun h=>by cases h) (fun _=>?_);refine AW_skip (hK1 _ ?_);refine rgq fw [0,2,3,4] [2,3,4] ?_;refine rgq fw [0,2,3,4,5,6] [2,3,4] ?_;refine rgq fw [0,2,3,4,5,6,7] [2,3,4] ?_;refine AW_then fun K2 hK2=>?_
 have hsp:=split1_spec G hM t 10 (by omega)
 obtain ⟨l,hl⟩:∃ l,l=cutT 10 t:=⟨_,rfl⟩
 have hllen:=cutT_len 10 t
 rw [← hl] at hsp hllen;simp only [dS] at hsp
 have qf:=(Aq fw @lxs10)
 refine rgcv hsp [2,3,4,5,6,7,27,28,29] [2,3,4] ?_;refine AW.imp (Imp.adopt 5 803 3 1 rfl rfl) ?_;refine AW.st (by simp;rfl) ?_;refine AW.imp (Imp.adopt 6 804 3 1 rfl rfl) ?_;refine AW.st (by simp;rfl) ?_;refine AW.imp (Imp.adoptCell 4 0 801 172 3 rfl rfl rfl) ?_;refine AW.st (by simp;rfl) ?_;refine AW.imp (Imp.adoptCell 4 1 802 175 3 rfl rfl rfl) ?_;refine AW.st (by simp;rfl) ?_
 obtain ⟨NN,hNN⟩:∃ f:Nat→List (List D),f=fun n=>(getS l n).names.map cNm:=⟨_,rfl⟩
 obtain ⟨RR,hRR⟩:∃ f:Nat→List (List D),f=fun n=>(getS l n).rungs.map cRw':=⟨_,rfl⟩
 obtain ⟨NA,hNA⟩:∃ f:Nat→List (List D),f=fun n=>dPls (getS l n).nAt:=⟨_,rfl⟩
 obtain ⟨RA,hRA⟩:∃ f:Nat→List (List D),f=fun n=>dPls (getS l n).rAt:=⟨_,rfl⟩
 obtain ⟨PL,hPL⟩:∃ f:Nat→Int,f=fun n=>(placeK l n:Int):=⟨_,rfl⟩
 have hNNe:∀ n s,prK l n = .inr s→NN n=s.names.map cNm:=fun n s h=>by rw [hNN];dsimp only;rw [getS_of h]
 have hRRe:∀ n s,prK l n = .inr s→RR n=s.rungs.map cRw':=fun n s h=>by rw [hRR];dsimp only;rw [getS_of h]
 have hNAe:∀ n s,prK l n = .inr s→NA n=dPls s.nAt:=fun n s h=>by rw [hNA];dsimp only;rw [getS_of h]
 have hRAe:∀ n s,prK l n = .inr s→RA n=dPls s.rAt:=fun n s h=>by rw [hRA];dsimp only;rw [getS_of h]
 have hPLe:∀ n,PL n=(placeK l n:Int):=fun n=>by rw [hPL]
 have z1:NN 0=[]:=hNNe 0 prS0 rfl
 have z2:RR 0=[]:=hRRe 0 prS0 rfl
 have z3:NA 0=[]:=hNAe 0 prS0 rfl
 have z4:RA 0=[]:=hRAe 0 prS0 rfl
 have z5:PL 0=0:=hPLe 0
 clear hNN hRR hNA hRA hPL;refine AW_for (S:=Nat) (fun n=>n≤l.length∧∃ s,prK l n = .inr s) (fun n=>⟨lst [(2,.ref 2 0 0),(3,.ref 3 0 0),(4,.ref 4 0 0),(5,.own 803 0 (NA n).length),(6,.own 804 0 (RA n).length),(7,int (PL n)),(27,.d (.sl (some true) (l.map fun s=>[.v (.string (bs s))]))),(28,int l.length),(29,int n)],hlst [(2,.box 78 [.d nil2,.d nil2]),(3,.box 64 [.d (.v (.int .i64 0)),.d (.v (.int .i64 0))]),(4,.box 78 [.own 801 0 (NN n).length,.own 802 0 (RR n).length]),(801,.sl 172 3 (NN n)),(802,.sl 175 3 (RR n)),(803,.sl 3 1 (NA n)),(804,.sl 3 1 (RA n))]⟩) (fun n=>l.length - n) 0 ?_ ⟨by omega,prS0,rfl⟩ ?_
 ·refine Imp.to' (fun _ _=>trivial) (by simp [dNum,dS,z1,z2,z3,z4,z5,nil2]) (by simp [dNum,dS,z1,z2,z3,z4,z5,nil2])
 ·rintro n ⟨hn0,s,hs⟩
  refine rgq fw [2,3,4,5,6,7,27,28,29,30] [2,3,4,801,802,803,804] ?_;refine AW_then fun K3 hK3=>?_
  by_cases hlt:n < l.length
  ·refine AW_cond true (by simp [hlt]) (fun _=>?_) (fun h=>by cases h);refine AW_skip (hK3 _ ?_);refine AW_then fun K4 hK4=>?_;refine AW_block ?_
   have hpb:placeK l n+l[n].length≤t.length:=by subst hl;exact piece_le hlt
   have hpl:PL (n+1)=(placeK l n:Int)+((l[n].length:Int)+1):=by rw [hPLe,placeK_succ hlt];omega
   have hok:=prOk_k (t:=t) (by omega) (Nat.le_of_lt (hl ▸ hlt)) (hl ▸ hs)
   have hnx:∀ s',stepS s (placeK l n) l[n] = .inr s'→prK l (n+1) = .inr s':=fun s' h=>prK_next hlt hs h
   have herr:∀ c i,stepS s (placeK l n) l[n] = .inl (c,i)→parseP t=(some (c,some i),⟨[],[]⟩):=fun c i h=>parseP_bad (by omega) (hl ▸ prK_err hlt hs h)
   obtain ⟨hnl,hrl,hnm,_,_⟩:=hok
   have hN2:(NN n).length=s.names.length:=by rw [hNNe n s hs];simp
   have hR2:(RR n).length=s.rungs.length:=by rw [hRRe n s hs];simp
   have hNA2:(NA n).length=s.names.length:=by rw [hNAe n s hs];simp [dPls,hnl]
   have hRA2:(RA n).length=s.rungs.length:=by rw [hRAe n s hs];simp [dPls,hrl]
   have hNN1:=fun s' h=>hNNe (n+1) s' h
   have hRR1:=fun s' h=>hRRe (n+1) s' h
   have hNA1:=fun s' h=>hNAe (n+1) s' h
   have hRA1:=fun s' h=>hRAe (n+1) s' h
   have b1:=(hNNe n s hs).symm
   have b2:=(hRRe n s hs).symm
   have b3:=(hNAe n s hs).symm
   have b4:=(hRAe n s hs).symm
   rw [hPLe n]
   have hwd:=words_spec G hM l[n] (by omega)
   have hcw:=fun c=>sibyte_spec G l[n] c
   have hln:∀ x,x=l[n]→x.length≤20000:=fun x h=>by rw [h];omega
   have qf:=(Aq fw @hlt)
   refine rgqv [2,3,4,5,6,7,9,27,28,29] [2,3,4,801,802,803,804] ?_;generalize hlx:l[n]=ln at *;generalize hpk:placeK l n=pk at *;generalize NN n=N1 at *;generalize RR n=R1 at *;generalize NA n=A1 at *;generalize RA n=A2 at *;refine rgq fw [2,3,4,5,6,7,9,10,27,28,29] [2,3,4,801,802,803,804] ?_
   have qf:=(Aq fw @bs_size)
   refine rgqv [2,3,4,5,6,7,9,10,27,28,29] [2,3,4,801,802,803,804] ?_;refine AW_then fun K5 hK5=>?_
   have hwn:=fun w h=>wordsT_mem (t:=ln) (w:=w) h
   have hwl:=wordsT_len ln
   by_cases h0:wordsT ln=[]
   ·have hst:stepS s pk ln = .inr s:=by unfold stepS;rw [if_pos h0]
    have hn:=hnx _ hst
    rw [h0] at hwd;simp only [dS] at hwd;refine rgc fw hwd [2,3,4,5,6,7,9,10,27,28,29,42] [2,3,4,801,802,803,804] ?_;refine AW_tt rfl ?_;refine AW_exit (hK4 _ ?_);refine AW_re (tyOf_good _) fun K' hK'=>?_;(repeat (refine sxn fun K2 hK2=>?_;simp [dNum,dS];(repeat (refine ⟨by omega,?_⟩));refine hK2 _ ?_;clear hK2 K2));refine sxz (hK' _ ?_);clear hK' K';(try simp only [thn,inb]);refine Again.mk (n+1) ⟨by omega,s,hn⟩ (by omega) ?_
    have e1:=hNN1 _ hn
    have e2:=hRR1 _ hn
    have e3:=hNA1 _ hn
    have e4:=hRA1 _ hn
    rw [b1] at e1;rw [b2] at e2;rw [b3] at e3;rw [b4] at e4;refine Imp.to' (fun _ _=>trivial) (by simp [dNum,dS,e1,e2,e3,e4,hpl]) (by simp [dNum,dS,e1,e2,e3,e4,hpl])
   have hst0:stepS s pk ln=match lineP ln with
    | .form=>.inl (3,pk)
    | .bad c off=>.inl (c,pk+off)
    | .name n=>if s.rungs=[] then .inr ⟨s.names ++ [n],s.nAt ++ [pk],s.rungs,s.rAt⟩ else .inl (3,pk)
    | .rung r=>.inr ⟨s.names,s.nAt,s.rungs ++ [r],s.rAt ++ [pk]⟩:=by unfold stepS;rw [if_neg h0];cases lineP ln<;>rfl
   have hlpd:lineP ln=if (61:UInt8)∈ln then rungL (cutAt 61 ln).1 (cutAt 61 ln).2 (wordsT (cutAt 61 ln).1) else nameL (wordsT ln):=rfl
   have hwp:0 < (wordsT ln).length:=List.length_pos_iff.2 h0
   have hci:=hcw 61
   simp only [lx61b,dS,dNum] at hci;generalize hws:wordsT ln=ws at *
   have hwlm:(ws.map fun s=>[dS s]).length=ws.length:=by simp
   have hw0:¬ (ws.length:Int)=0:=by omega
   simp only [dS] at hwd
   have qf:=(Aq fw (Aq @hw0 @h0))
   refine rgcv hwd [2,3,4,5,6,7,9,10,27,28,29,42] [2,3,4,801,802,803,804] ?_;refine AW_cond false (by simp [hw0,h0]) (fun h=>by cases h) (fun _=>?_);refine AW_skip (hK5 _ ?_)
   by_cases h61:(61:UInt8)∈ln
   ·rw [if_pos h61] at hlpd hci
    have hle:=cutAt_le 61 ln
    have hcp:=cut_parts61 h61
    have hwh:=words_spec G hM (cutAt 61 ln).1 (by omega)
    have hpr:=rparse_spec G hF (cutAt 61 ln).2 (by omega)
    have hwhn:=wordsT_ne (t:=(cutAt 61 ln).1)
    generalize (cutAt 61 ln).1=hd at *;generalize (cutAt 61 ln).2=rest at *
    obtain ⟨hcl,hx1,hx2⟩:=hcp
    have hmx0:¬ (-1:Int) > 0:=by omega
    simp only [dS] at hwh hpr;refine rgc fw hci [2,3,4,5,6,7,9,10,11,27,28,29] [2,3,4,801,802,803,804] ?_;refine AW_then fun K6 hK6=>?_;refine rgq fw [2,3,4,5,6,7,9,10,11,27,28,29,46] [2,3,4,801,802,803,804] ?_;refine AW_cond true (by simp) (fun _=>?_) (fun h=>by cases h)
    have qf:=(Aq fw (Aq @bs_size @hx1))
    refine rgcv hwh [2,3,4,5,6,7,9,10,11,12,27,28,29] [2,3,4,801,802,803,804] ?_;refine rgq fw [2,3,4,5,6,7,9,10,11,12,13,27,28,29] [2,3,4,13,801,802,803,804] ?_
    match hwx:wordsT hd,hwhn with
    | [],_=>
     rw [hwx] at hlpd;simp only [hwx,List.map_nil];refine AW_then fun K7 hK7=>?_;refine rgq fw [2,3,4,5,6,7,9,10,11,12,13,27,28,29,53] [2,3,4,13,801,802,803,804] ?_;refine AW_block ?_;refine rgq fw [2,3,4,5,6,7,9,10,11,12,13,27,28,29,53,54] [2,3,4,13,801,802,803,804] ?_;refine AW_ff rfl ?_;refine rgq fw [2,3,4,5,6,7,9,10,11,12,13,27,28,29,60] [2,3,4,13,801,802,803,804] ?_;refine AW_ff rfl ?_;refine AW_skip (hK7 _ ?_)
     have hp:=herr 3 pk (by rw [hst0,hlpd];try rfl)
     refine AW_then fun K8 hK8=>?_
     have qf:=(Aq fw @hcl)
     refine rgqv [2,3,4,5,6,7,9,10,11,13,27,28,29,84] [2,3,4,13,801,802,803,804] ?_;refine AW_cond true (by simp [hcl]) (fun _=>?_) (fun h=>by cases h);refine rgq fw [2,3] [2,3] ?_;refine AW_ret ?_;simp [D.le,D.le.go,takeMap,dNum,dS,hp,dPw,cPw,dNms,dFault,codeF,placeF]
    | [a],_=>
     rw [hwx] at hlpd
     have hk1:True:=trivial
     simp only [hwx,List.map_nil,List.map_cons];refine AW_then fun K7 hK7=>?_;refine rgq fw [2,3,4,5,6,7,9,10,11,12,13,27,28,29,53] [2,3,4,13,801,802,803,804] ?_;refine AW_block ?_;refine rgq fw [2,3,4,5,6,7,9,10,11,12,13,27,28,29,53,54] [2,3,4,13,801,802,803,804] ?_;refine AW_tt rfl ?_;refine reK fw hK7 [2,3,4,5,6,7,9,10,11,12,13,27,28,29] [2,3,4,13,801,802,803,804] ?_;refine AW_then fun K8 hK8=>?_
     have qf:=(Aq fw @hk1)
     refine rgqv [2,3,4,5,6,7,9,10,11,13,27,28,29,84] [2,3,4,13,801,802,803,804] ?_;refine AW_cond false (by simp [hk1]) (fun h=>by cases h) (fun _=>?_);refine AW_skip (hK8 _ ?_)
     have hrl:lineP ln=rungP 1 a hd rest:=hlpd
     unfold rungP at hrl
     cases hpe:(parseM rest).2 with
     | some ci=>
      obtain ⟨c,o⟩:=ci
      have hc0:=parse_pos hpe
      have hc1:¬ c=0:=by omega
      rw [hpe] at hpr hrl
      dsimp only at hrl
      have hp:=herr c (pk+(hd.length+1+o.getD 0)) (by rw [hst0,hrl])
      cases o with
      | none=>
       simp only [dFault,codeF,placeF,dNum] at hpr
       have hcs:((pk+(hd.length+1+(none:Option Nat).getD 0):Nat):Int)=(pk:Int)+(hd.length:Int)+1:=by simp;omega
       rw [show (some (pk+(hd.length+1+(none:Option Nat).getD 0)))=some (pk+(hd.length+1+(none:Option Nat).getD 0)) from rfl] at hp
       have qf:=(Aq fw (Aq @bs_size @hx2))
       refine rgcv hpr [2,3,4,5,6,7,10,11,13,14,15,27,28,29] [2,3,4,13,15,801,802,803,804] ?_;refine AW_then fun K9 hK9=>?_
       have qf:=(Aq fw @hc1)
       refine rgqv [2,3,4,5,6,7,10,11,13,14,15,27,28,29,98] [2,3,4,13,15,801,802,803,804] ?_;refine AW_cond true (by simp [hc1]) (fun _=>?_) (fun h=>by cases h);refine AW_rdg (tyOf_good _) (by kernel_rfl) [(2,15),(8,15),(12,2),(13,3)] [2,3] [2,3,13,15] (fun _ _=>trivial) (by kernel_rfl) fun K' hK'=>?_;(repeat (refine sxg_next fun K2 hK2=>?_;simp [dNum,dS,hmx0];(repeat (refine ⟨by omega,?_⟩));refine hK2 _ ?_;clear hK2 K2));refine sxg_nil (hK' _ ?_);refine AW.st (by simp [dNum,dS,hmx0];rfl) ?_;clear hK' K';refine AW_ret ?_;simp [D.le,D.le.go,takeMap,dNum,dS,hp,dPw,cPw,dNms,dFault,codeF,placeF,hcs]
       omega
      | some o=>
       have hob:=parse_at hpe
       simp only [dFault,codeF,placeF,dNum] at hpr
       have hcs:((pk+(hd.length+1+(some o).getD 0):Nat):Int)=(pk:Int)+(hd.length:Int)+1+(o:Int):=by simp;omega
       have hmx1:¬ (o:Int) < 0:=by omega
       have qf:=(Aq fw (Aq @bs_size @hx2))
       refine rgcv hpr [2,3,4,5,6,7,10,11,13,14,15,27,28,29] [2,3,4,13,15,801,802,803,804] ?_;refine AW_then fun K9 hK9=>?_
       have qf:=(Aq fw @hc1)
       refine rgqv [2,3,4,5,6,7,10,11,13,14,15,27,28,29,98] [2,3,4,13,15,801,802,803,804] ?_;refine AW_cond true (by simp [hc1]) (fun _=>?_) (fun h=>by cases h);refine AW_rdg (tyOf_good _) (by kernel_rfl) [(2,15),(8,15),(12,2),(13,3)] [2,3] [2,3,13,15] (fun _ _=>trivial) (by kernel_rfl) fun K' hK'=>?_;(repeat (refine sxg_next fun K2 hK2=>?_;simp [dNum,dS,hmx1];(repeat (refine ⟨by omega,?_⟩));refine hK2 _ ?_;clear hK2 K2));refine sxg_nil (hK' _ ?_);refine AW.st (by simp [dNum,dS,hmx1];rfl) ?_;clear hK' K';refine AW_ret ?_;simp [D.le,D.le.go,takeMap,dNum,dS,hp,dPw,cPw,dNms,dFault,codeF,placeF,hcs]
       split<;>omega
     | none=>
      rw [hpe] at hpr hrl
      dsimp only at hrl
      obtain ⟨e,hpe1⟩:=parse_some hpe
      rw [hpe1] at hpr hrl
      have hn:=hnx _ (by rw [hst0,hrl])
      have hrs:(s.rungs ++ [(⟨1,a,some e⟩:RgP)]).map cRw'=R1 ++ [[.v (.int .i64 1),.v (.string (bs a)),dR e]]:=by rw [List.map_append,b2];rfl
      have hps:dPls (s.rAt ++ [pk])=A2 ++ [[.v (.int .i64 pk)]]:=by rw [dPls_app,b4];rfl
      obtain ⟨cs,hde⟩:=dR_ip e
      simp only [dFault,codeF,placeF,dNum,dOR] at hpr;rw [hde] at hpr hrs
      have qf:=(Aq fw (Aq @bs_size @hx2))
      refine rgcv hpr [2,3,4,5,6,7,10,11,13,14,15,27,28,29] [2,3,4,13,15,801,802,803,804] ?_;refine AW_then fun K9 hK9=>?_;refine rgq fw [2,3,4,5,6,7,10,11,13,14,15,27,28,29,98] [2,3,4,13,15,801,802,803,804] ?_;refine AW_ff rfl ?_;refine AW_skip (hK9 _ ?_);refine rgq fw [2,3,4,5,6,7,10,13,27,28,29] [2,3,4,13,801,802,803,804] ?_;refine rg [2,3,4,5,6,7,27,28,29] [2,3,4,801,802,803,804] (fun _ _=>trivial) fun K' hK'=>?_;(repeat (refine sxn fun K2 hK2=>?_;simp [dNum,dS,List.take_of_length_le];(repeat (refine ⟨by omega,?_⟩));refine hK2 _ ?_;clear hK2 K2));refine sxz (hK' _ (AW.st (by simp [dNum,dS,List.take_of_length_le];rfl) ?_));clear hK' K';refine AW_exit (hK4 _ ?_);refine AW_re (tyOf_good _) fun K' hK'=>?_;(repeat (refine sxn fun K2 hK2=>?_;simp [dNum,dS];(repeat (refine ⟨by omega,?_⟩));refine hK2 _ ?_;clear hK2 K2));refine sxz (hK' _ ?_);clear hK' K';(try simp only [thn,inb]);refine Again.mk (n+1) ⟨by omega,_,hn⟩ (by omega) ?_
      have e1:=hNN1 _ hn
      have e2:=hRR1 _ hn
      have e3:=hNA1 _ hn
      have e4:=hRA1 _ hn
      try dsimp only at e1 e2 e3 e4
      rw [b1] at e1;rw [hrs] at e2;rw [b3] at e3;rw [hps] at e4;refine Imp.to' (fun _ _=>trivial) (by simp [dNum,dS,e1,e2,e3,e4,hpl]) (by simp [dNum,dS,e1,e2,e3,e4,hpl])
    | [a,b],hab=>
     rw [hwx] at hlpd;simp only [hwx,List.map_nil,List.map_cons]
     have ha:=hab a (by simp)
     have hix:PureC Tryz.prog G 86 [.sl none [[.v (.string (bs []))],[.v (.string (bs []))],[.v (.string (bs [115,101,116]))],[.v (.string (bs [114,101,115,101,116]))],[.v (.string (bs [114,117,110]))],[.v (.string (bs [99,111,117,110,116]))],[.v (.string (bs [122,101,114,111]))]],.v (.string (bs a))] (.v (.int .i64 (ixW kwR a))):=ldw_ix G none kwR a ha (by decide)
     have hn0':ixW kwR a≠0:=ixW_w (l:=kwR) (k:=0) (by decide) (fun h=>ha h.symm)
     have hn1':ixW kwR a≠1:=ixW_w (l:=kwR) (k:=1) (by decide) (fun h=>ha h.symm)
     have hbd:=ixW_bd kwR a
     refine AW_then fun K7 hK7=>?_;refine rgq fw [2,3,4,5,6,7,9,10,11,12,13,27,28,29,53] [2,3,4,13,801,802,803,804] ?_;refine AW_block ?_;refine rgq fw [2,3,4,5,6,7,9,10,11,12,13,27,28,29,53,54] [2,3,4,13,801,802,803,804] ?_;refine AW_ff rfl ?_;refine rgq fw [2,3,4,5,6,7,9,10,11,12,13,27,28,29,60] [2,3,4,13,801,802,803,804] ?_;refine AW_tt rfl ?_;refine AW_rdge (tyOf_good _) (by kernel_rfl) [(2,999),(3,999),(6,999),(7,999),(9,13),(11,13)] (by kernel_rfl) fun K' hK'=>?_;(repeat (refine sxg_next fun K2 hK2=>?_;simp [dNum,dS,hRW];(repeat (refine ⟨by omega,?_⟩));refine hK2 _ ?_;clear hK2 K2));refine sxg_next fun K2 hK2=>?_;simp [dNum,dS,hRW];refine callQ.data (hix) (by simp;rfl) (by simp;rfl) (by first | exact D.leGo_refl _ | simp [takeMap,List.map_map,Function.comp_def,D.le,D.le.go,D.le_refl,D.leGo_refl,dNum,dS,hRW]) ?_;refine hK2 _ ?_;clear hK2 K2;simp only [putd,upd_lst];(repeat (refine sxg_next fun K2 hK2=>?_;simp [dNum,dS,hRW];(repeat (refine ⟨by omega,?_⟩));refine hK2 _ ?_;clear hK2 K2));refine sxg_nil (hK' _ ?_);clear hK' K';refine hK7 _ (AW.norm [2,3,4,5,6,7,9,10,11,12,13,27,28,29] [2,3,4,13,801,802,803,804] (fun _ _=>trivial) (AW.st (by simp [dNum,dS,hRW];rfl) ?_));simp only [rungL] at hlpd;generalize ixW kwR a=kk at *
     by_cases hk2:kk < 2
     ·rw [if_pos hk2] at hlpd
      have hk1:kk < 1:=by omega
      have hp:=herr 3 pk (by rw [hst0,hlpd];try rfl)
      refine AW_then fun K8 hK8=>?_
      have qf:=(Aq fw @hk1)
      refine rgqv [2,3,4,5,6,7,9,10,11,13,27,28,29,84] [2,3,4,13,801,802,803,804] ?_;refine AW_cond true (by simp [hk1]) (fun _=>?_) (fun h=>by cases h);refine rgq fw [2,3] [2,3] ?_;refine AW_ret ?_;simp [D.le,D.le.go,takeMap,dNum,dS,hp,dPw,cPw,dNms,dFault,codeF,placeF]
     ·rw [if_neg hk2] at hlpd
      have hk1:¬ kk < 1:=by omega
      refine AW_then fun K8 hK8=>?_
      have qf:=(Aq fw @hk1)
      refine rgqv [2,3,4,5,6,7,9,10,11,13,27,28,29,84] [2,3,4,13,801,802,803,804] ?_;refine AW_cond false (by simp [hk1]) (fun h=>by cases h) (fun _=>?_);refine AW_skip (hK8 _ ?_)
      have hrl:lineP ln=rungP kk b hd rest:=hlpd
      unfold rungP at hrl
      cases hpe:(parseM rest).2 with
      | some ci=>
       obtain ⟨c,o⟩:=ci
       have hc0:=parse_pos hpe
       have hc1:¬ c=0:=by omega
       rw [hpe] at hpr hrl
       dsimp only at hrl
       have hp:=herr c (pk+(hd.length+1+o.getD 0)) (by rw [hst0,hrl])
       cases o with
       | none=>
        simp only [dFault,codeF,placeF,dNum] at hpr
        have hcs:((pk+(hd.length+1+(none:Option Nat).getD 0):Nat):Int)=(pk:Int)+(hd.length:Int)+1:=by simp;omega
        rw [show (some (pk+(hd.length+1+(none:Option Nat).getD 0)))=some (pk+(hd.length+1+(none:Option Nat).getD 0)) from rfl] at hp
        have qf:=(Aq fw (Aq @bs_size @hx2))
        refine rgcv hpr [2,3,4,5,6,7,10,11,13,14,15,27,28,29] [2,3,4,13,15,801,802,803,804] ?_;refine AW_then fun K9 hK9=>?_
        have qf:=(Aq fw @hc1)
        refine rgqv [2,3,4,5,6,7,10,11,13,14,15,27,28,29,98] [2,3,4,13,15,801,802,803,804] ?_;refine AW_cond true (by simp [hc1]) (fun _=>?_) (fun h=>by cases h);refine AW_rdg (tyOf_good _) (by kernel_rfl) [(2,15),(8,15),(12,2),(13,3)] [2,3] [2,3,13,15] (fun _ _=>trivial) (by kernel_rfl) fun K' hK'=>?_;(repeat (refine sxg_next fun K2 hK2=>?_;simp [dNum,dS,hmx0];(repeat (refine ⟨by omega,?_⟩));refine hK2 _ ?_;clear hK2 K2));refine sxg_nil (hK' _ ?_);refine AW.st (by simp [dNum,dS,hmx0];rfl) ?_;clear hK' K';refine AW_ret ?_;simp [D.le,D.le.go,takeMap,dNum,dS,hp,dPw,cPw,dNms,dFault,codeF,placeF,hcs]
        omega
       | some o=>
        have hob:=parse_at hpe
        simp only [dFault,codeF,placeF,dNum] at hpr
        have hcs:((pk+(hd.length+1+(some o).getD 0):Nat):Int)=(pk:Int)+(hd.length:Int)+1+(o:Int):=by simp;omega
        have hmx1:¬ (o:Int) < 0:=by omega
        have qf:=(Aq fw (Aq @bs_size @hx2))
        refine rgcv hpr [2,3,4,5,6,7,10,11,13,14,15,27,28,29] [2,3,4,13,15,801,802,803,804] ?_;refine AW_then fun K9 hK9=>?_
        have qf:=(Aq fw @hc1)
        refine rgqv [2,3,4,5,6,7,10,11,13,14,15,27,28,29,98] [2,3,4,13,15,801,802,803,804] ?_;refine AW_cond true (by simp [hc1]) (fun _=>?_) (fun h=>by cases h);refine AW_rdg (tyOf_good _) (by kernel_rfl) [(2,15),(8,15),(12,2),(13,3)] [2,3] [2,3,13,15] (fun _ _=>trivial) (by kernel_rfl) fun K' hK'=>?_;(repeat (refine sxg_next fun K2 hK2=>?_;simp [dNum,dS,hmx1];(repeat (refine ⟨by omega,?_⟩));refine hK2 _ ?_;clear hK2 K2));refine sxg_nil (hK' _ ?_);refine AW.st (by simp [dNum,dS,hmx1];rfl) ?_;clear hK' K';refine AW_ret ?_;simp [D.le,D.le.go,takeMap,dNum,dS,hp,dPw,cPw,dNms,dFault,codeF,placeF,hcs]
        split<;>omega
      | none=>
       rw [hpe] at hpr hrl
       dsimp only at hrl
       obtain ⟨e,hpe1⟩:=parse_some hpe
       rw [hpe1] at hpr hrl
       have hn:=hnx _ (by rw [hst0,hrl])
       have hrs:(s.rungs ++ [(⟨kk,b,some e⟩:RgP)]).map cRw'=R1 ++ [[.v (.int .i64 kk),.v (.string (bs b)),dR e]]:=by rw [List.map_append,b2];rfl
       have hps:dPls (s.rAt ++ [pk])=A2 ++ [[.v (.int .i64 pk)]]:=by rw [dPls_app,b4];rfl
       obtain ⟨cs,hde⟩:=dR_ip e
       simp only [dFault,codeF,placeF,dNum,dOR] at hpr;rw [hde] at hpr hrs
       have qf:=(Aq fw (Aq @bs_size @hx2))
       refine rgcv hpr [2,3,4,5,6,7,10,11,13,14,15,27,28,29] [2,3,4,13,15,801,802,803,804] ?_;refine AW_then fun K9 hK9=>?_;refine rgq fw [2,3,4,5,6,7,10,11,13,14,15,27,28,29,98] [2,3,4,13,15,801,802,803,804] ?_;refine AW_ff rfl ?_;refine AW_skip (hK9 _ ?_);refine rgq fw [2,3,4,5,6,7,10,13,27,28,29] [2,3,4,13,801,802,803,804] ?_;refine rg [2,3,4,5,6,7,27,28,29] [2,3,4,801,802,803,804] (fun _ _=>trivial) fun K' hK'=>?_;(repeat (refine sxn fun K2 hK2=>?_;simp [dNum,dS,List.take_of_length_le];(repeat (refine ⟨by omega,?_⟩));refine hK2 _ ?_;clear hK2 K2));refine sxz (hK' _ (AW.st (by simp [dNum,dS,List.take_of_length_le];rfl) ?_));clear hK' K';refine AW_exit (hK4 _ ?_);refine AW_re (tyOf_good _) fun K' hK'=>?_;(repeat (refine sxn fun K2 hK2=>?_;simp [dNum,dS];(repeat (refine ⟨by omega,?_⟩));refine hK2 _ ?_;clear hK2 K2));refine sxz (hK' _ ?_);clear hK' K';(try simp only [thn,inb]);refine Again.mk (n+1) ⟨by omega,_,hn⟩ (by omega) ?_
       have e1:=hNN1 _ hn
       have e2:=hRR1 _ hn
       have e3:=hNA1 _ hn
       have e4:=hRA1 _ hn
       try dsimp only at e1 e2 e3 e4
       rw [b1] at e1;rw [hrs] at e2;rw [b3] at e3;rw [hps] at e4;refine Imp.to' (fun _ _=>trivial) (by simp [dNum,dS,e1,e2,e3,e4,hpl]) (by simp [dNum,dS,e1,e2,e3,e4,hpl])
    | a :: b :: c :: r,_=>
     rw [hwx] at hlpd;simp only [hwx,List.map_cons]
     have hq1:¬ ((r.length:Int)+1+1+1=1):=by omega
     have hq2:¬ ((r.length:Int)+1+1+1=2):=by omega
     have hq3:¬ ((r.length:Int)+1+1+1 < 1):=by omega
     have hq4:(r.length:Int)+1+1+1 > 2:=by omega
     refine AW_then fun K7 hK7=>?_;refine rgq fw [2,3,4,5,6,7,9,10,11,12,13,27,28,29,53] [2,3,4,13,801,802,803,804] ?_;refine AW_block ?_
     have qf:=(Aq fw @hq1)
     refine rgqv [2,3,4,5,6,7,9,10,11,12,13,27,28,29,53,54] [2,3,4,13,801,802,803,804] ?_;refine AW_cond false (by simp [hq1]) (fun h=>by cases h) (fun _=>?_)
     have qf:=(Aq fw @hq2)
     refine rgqv [2,3,4,5,6,7,9,10,11,12,13,27,28,29,60] [2,3,4,13,801,802,803,804] ?_;refine AW_cond false (by simp [hq2]) (fun h=>by cases h) (fun _=>?_);refine AW_skip (hK7 _ ?_)
     have hp:=herr 3 pk (by rw [hst0,hlpd];try rfl)
     refine AW_then fun K8 hK8=>?_
     have qf:=(Aq fw (Aq @hq3 @hq4))
     refine rgqv [2,3,4,5,6,7,9,10,11,13,27,28,29,84] [2,3,4,13,801,802,803,804] ?_;refine AW_cond true (by simp [hq3,hq4]) (fun _=>?_) (fun h=>by cases h);refine rgq fw [2,3] [2,3] ?_;refine AW_ret ?_;simp [D.le,D.le.go,takeMap,dNum,dS,hp,dPw,cPw,dNms,dFault,codeF,placeF]
   ·rw [if_neg h61] at hlpd hci;refine rgc fw hci [2,3,4,5,6,7,9,10,11,27,28,29] [2,3,4,801,802,803,804] ?_;refine AW_then fun K6 hK6=>?_;refine rgq fw [2,3,4,5,6,7,9,10,11,27,28,29,46] [2,3,4,801,802,803,804] ?_;refine AW_ff rfl ?_;refine AW_skip (hK6 _ ?_);refine rgc fw hwd [2,3,4,5,6,7,10,16,27,28,29] [2,3,4,801,802,803,804] ?_
    obtain ⟨a,r,rfl⟩:∃ a r,ws=a :: r:=by
     cases ws with
     | nil=>exact absurd rfl h0
     | cons a r=>exact ⟨a,r,rfl⟩
    have ha:=(hwn a (by simp)).1
    have hix:PureC Tryz.prog G 86 [.sl none [[.v (.string (bs []))],[.v (.string (bs [105,110,112,117,116]))],[.v (.string (bs [99,111,105,108]))],[.v (.string (bs [116,105,109,101,114]))],[.v (.string (bs [99,111,117,110,116,101,114]))]],.v (.string (bs a))] (.v (.int .i64 (ixW kwN a))):=ldw_ix G none kwN a ha (by decide)
    have hbd:=ixW_bd kwN a
    simp only [nameL] at hlpd;generalize ixW kwN a=kk at *;simp only [List.map_cons];refine AW_rdg (tyOf_good _) (by kernel_rfl) [(2,999),(3,999),(7,17)] [2,3,4,5,6,7,10,16,17,27,28,29] [2,3,4,17,801,802,803,804] (fun _ _=>trivial) (by kernel_rfl) fun K' hK'=>?_;(repeat (refine sxg_next fun K2 hK2=>?_;simp [dNum,dS,hNW];(repeat (refine ⟨by omega,?_⟩));refine hK2 _ ?_;clear hK2 K2));refine sxg_next fun K2 hK2=>?_;simp [dNum,dS,hNW];refine callQ.data (hix) (by simp;rfl) (by simp;rfl) (by first | exact D.leGo_refl _ | simp [takeMap,List.map_map,Function.comp_def,D.le,D.le.go,D.le_refl,D.leGo_refl,dNum,dS,hNW]) ?_;refine hK2 _ ?_;clear hK2 K2;simp only [putd,upd_lst];(repeat (refine sxg_next fun K2 hK2=>?_;simp [dNum,dS,hNW];(repeat (refine ⟨by omega,?_⟩));refine hK2 _ ?_;clear hK2 K2));refine sxg_nil (hK' _ ?_);refine AW.st (by simp [dNum,dS,hNW];rfl) ?_;clear hK' K'
    have hrl:((r.map fun s=>[D.v (.string (bs s))]).length:Int)=(r.length:Int):=by simp
    by_cases k1:kk < 1
    ·have hlpd':lineP ln = .form:=by
      rw [hlpd]
      match r with
      | []=>rfl
      | [b]=>rw [nameP,if_neg (by omega)]
      | [b,c]=>rw [nameP,if_neg (by omega)]
      | b :: c :: d :: r=>rfl
     have hp:=herr 3 pk (by rw [hst0,hlpd'])
     refine AW_then fun K10 hK10=>?_
     have qf:=(Aq fw @k1)
     refine rgqv [2,3,4,5,6,7,10,16,17,27,28,29,153] [2,3,4,17,801,802,803,804] ?_;refine AW_cond true (by simp [k1]) (fun _=>?_) (fun h=>by cases h);refine rgq fw [2,3] [2,3] ?_;refine AW_ret ?_;simp [D.le,D.le.go,takeMap,dNum,dS,hp,dPw,cPw,dNms,dFault,codeF,placeF]
    by_cases k3:kk < 3
    ·have k3':¬ kk ≥ 3:=by omega
     match r,hlpd with
     | [b],hlpd=>
      have hlpd':lineP ln = .name ⟨b,kk,0⟩:=by rw [hlpd,nameP,if_pos (by omega)]
      simp only [List.map_cons,List.map_nil];refine AW_then fun K10 hK10=>?_
      have qf:=(Aq fw (Aq @k1 (Aq @k3 @k3')))
      refine rgqv [2,3,4,5,6,7,10,16,17,27,28,29,153] [2,3,4,17,801,802,803,804] ?_;refine AW_cond false (by simp [k1,k3,k3']) (fun h=>by cases h) (fun _=>?_);refine AW_skip (hK10 _ ?_);refine rgq fw [2,3,4,5,6,7,10,16,17,27,28,29] [2,3,4,17,801,802,803,804] ?_;refine AW_then fun K11 hK11=>?_
      have qf:=(Aq fw (Aq @k1 (Aq @k3 @k3')))
      refine rgqv [2,3,4,5,6,7,10,16,17,27,28,29,163] [2,3,4,17,801,802,803,804] ?_;refine AW_cond false (by simp [k3']) (fun h=>by cases h) (fun _=>?_);refine AW_skip (hK11 _ ?_);refine AW_then fun K13 hK13=>?_
      by_cases hr0:s.rungs=[]
      ·have hn:=hnx _ (by rw [hst0,hlpd'];exact if_pos hr0)
       have hra0:A2=[]:=List.length_eq_zero_iff.1 (by rw [hRA2,hr0];rfl)
       have hrs:(s.names ++ [(⟨b,kk,0⟩:NmP)]).map cNm=N1 ++ [[.v (.string (bs b)),.v (.int .i64 kk),.v (.int .i64 0)]]:=by rw [List.map_append,b1];rfl
       have hps:dPls (s.nAt ++ [pk])=A1 ++ [[.v (.int .i64 pk)]]:=by rw [dPls_app,b3];rfl
       subst hra0;refine rgq fw [2,3,4,5,6,7,10,17,27,28,29,180] [2,3,4,17,801,802,803,804] ?_;refine AW_ff rfl ?_;refine AW_skip (hK13 _ ?_);refine AW_re (tyOf_good _) fun K' hK'=>?_;(repeat (refine sxn fun K2 hK2=>?_;simp [dNum,dS,List.take_of_length_le];(repeat (refine ⟨by omega,?_⟩));refine hK2 _ ?_;clear hK2 K2));refine sxz (hK' _ ?_);clear hK' K';refine hK4 _ (AW.norm [2,3,4,5,6,7,27,28,29] [2,3,4,801,802,803,804] (fun _ _=>trivial) (AW.st (by simp [dNum,dS,List.take_of_length_le];rfl) ?_));refine AW_re (tyOf_good _) fun K' hK'=>?_;(repeat (refine sxn fun K2 hK2=>?_;simp [dNum,dS];(repeat (refine ⟨by omega,?_⟩));refine hK2 _ ?_;clear hK2 K2));refine sxz (hK' _ ?_);clear hK' K';(try simp only [thn,inb]);refine Again.mk (n+1) ⟨by omega,_,hn⟩ (by omega) ?_
       have e1:=hNN1 _ hn
       have e2:=hRR1 _ hn
       have e3:=hNA1 _ hn
       have e4:=hRA1 _ hn
       try dsimp only at e1 e2 e3 e4
       rw [hrs] at e1;rw [b2] at e2;rw [hps] at e3;rw [b4] at e4;refine Imp.to' (fun _ _=>trivial) (by simp [dNum,dS,e1,e2,e3,e4,hpl]) (by simp [dNum,dS,e1,e2,e3,e4,hpl])
      ·have hp:=herr 3 pk (by rw [hst0,hlpd'];exact if_neg hr0)
       have hra0:0 < A2.length:=by rw [hRA2];exact List.length_pos_iff.2 hr0
       have qf:=(Aq fw @hra0)
       refine rgqv [2,3,4,5,6,7,10,17,27,28,29,180] [2,3,4,17,801,802,803,804] ?_;refine AW_cond true (by simp [hra0]) (fun _=>?_) (fun h=>by cases h);refine rgq fw [2,3] [2,3] ?_;refine AW_ret ?_;simp [D.le,D.le.go,takeMap,dNum,dS,hp,dPw,cPw,dNms,dFault,codeF,placeF]
     | [],hlpd=>
      have hlpd':lineP ln = .form:=hlpd
      simp only [List.map_nil]
      have hp:=herr 3 pk (by rw [hst0,hlpd'])
      refine AW_then fun K10 hK10=>?_
      have qf:=(Aq fw (Aq @k1 @k3))
      refine rgqv [2,3,4,5,6,7,10,16,17,27,28,29,153] [2,3,4,17,801,802,803,804] ?_;refine AW_cond true (by simp [k1,k3]) (fun _=>?_) (fun h=>by cases h);refine rgq fw [2,3] [2,3] ?_;refine AW_ret ?_;simp [D.le,D.le.go,takeMap,dNum,dS,hp,dPw,cPw,dNms,dFault,codeF,placeF]
     | b :: c :: r,hlpd=>
      have hlpd':lineP ln = .form:=by
       rw [hlpd]
       match r with
       | []=>rw [nameP,if_neg (by omega)]
       | d :: r=>rfl
      have hq:¬ ((r.length:Int)+1+1+1=2):=by omega
      simp only [List.map_cons]
      have hp:=herr 3 pk (by rw [hst0,hlpd'])
      refine AW_then fun K10 hK10=>?_
      have qf:=(Aq fw (Aq @k1 (Aq @k3 @hq)))
      refine rgqv [2,3,4,5,6,7,10,16,17,27,28,29,153] [2,3,4,17,801,802,803,804] ?_;refine AW_cond true (by simp [k1,k3,hq]) (fun _=>?_) (fun h=>by cases h);refine rgq fw [2,3] [2,3] ?_;refine AW_ret ?_;simp [D.le,D.le.go,takeMap,dNum,dS,hp,dPw,cPw,dNms,dFault,codeF,placeF]
    have k3':kk ≥ 3:=by omega
    match r,hlpd with
    | [b,c],hlpd=>
     have hcl:c.length≤20000:=by have:=(hwn c (by simp)).2;omega
     have hnb:=rnumber_spec G hP hE c (by omega)
     simp only [dS] at hnb;simp only [nameP,if_pos k3'] at hlpd;simp only [List.map_cons,List.map_nil];refine AW_then fun K10 hK10=>?_
     have qf:=(Aq fw (Aq @k1 (Aq @k3 @k3')))
     refine rgqv [2,3,4,5,6,7,10,16,17,27,28,29,153] [2,3,4,17,801,802,803,804] ?_;refine AW_cond false (by simp [k1,k3,k3']) (fun h=>by cases h) (fun _=>?_);refine AW_skip (hK10 _ ?_);refine rgq fw [2,3,4,5,6,7,10,16,17,27,28,29] [2,3,4,17,801,802,803,804] ?_;refine AW_then fun K11 hK11=>?_
     have qf:=(Aq fw (Aq @k1 (Aq @k3 @k3')))
     refine rgqv [2,3,4,5,6,7,10,16,17,27,28,29,163] [2,3,4,17,801,802,803,804] ?_;refine AW_cond true (by simp [k3']) (fun _=>?_) (fun h=>by cases h)
     cases hnf:numF c with
     | none=>
      rw [hnf] at hnb hlpd;simp only [dNr] at hnb
      have hlpd':lineP ln = .form:=hlpd
      have hp:=herr 3 pk (by rw [hst0,hlpd'])
      refine rgc fw hnb [2,3,4,5,6,7,10,17,18,19,27,28,29] [2,3,4,17,801,802,803,804] ?_;refine AW_then fun K12 hK12=>?_;refine rgq fw [2,3,4,5,6,7,10,17,18,27,28,29,172] [2,3,4,17,801,802,803,804] ?_;refine AW_tt rfl ?_;refine rgq fw [2,3] [2,3] ?_;refine AW_ret ?_;simp [D.le,D.le.go,takeMap,dNum,dS,hp,dPw,cPw,dNms,dFault,codeF,placeF]
     | some v=>
      rw [hnf] at hnb hlpd;simp only [dNr] at hnb
      have hlpd':lineP ln = .name ⟨b,kk,v⟩:=hlpd
      refine rgc fw hnb [2,3,4,5,6,7,10,17,18,19,27,28,29] [2,3,4,17,801,802,803,804] ?_;refine AW_then fun K12 hK12=>?_;refine rgq fw [2,3,4,5,6,7,10,17,18,27,28,29,172] [2,3,4,17,801,802,803,804] ?_;refine AW_ff rfl ?_;refine AW_skip (hK12 _ ?_);refine reK fw hK11 [2,3,4,5,6,7,10,17,27,28,29] [2,3,4,17,801,802,803,804] ?_;refine AW_then fun K13 hK13=>?_
      by_cases hr0:s.rungs=[]
      ·have hn:=hnx _ (by rw [hst0,hlpd'];exact if_pos hr0)
       have hra0:A2=[]:=List.length_eq_zero_iff.1 (by rw [hRA2,hr0];rfl)
       have hrs:(s.names ++ [(⟨b,kk,v⟩:NmP)]).map cNm=N1 ++ [[.v (.string (bs b)),.v (.int .i64 kk),.v (.int .i64 v)]]:=by rw [List.map_append,b1];rfl
       have hps:dPls (s.nAt ++ [pk])=A1 ++ [[.v (.int .i64 pk)]]:=by rw [dPls_app,b3];rfl
       subst hra0;refine rgq fw [2,3,4,5,6,7,10,17,27,28,29,180] [2,3,4,17,801,802,803,804] ?_;refine AW_ff rfl ?_;refine AW_skip (hK13 _ ?_);refine AW_re (tyOf_good _) fun K' hK'=>?_;(repeat (refine sxn fun K2 hK2=>?_;simp [dNum,dS,List.take_of_length_le];(repeat (refine ⟨by omega,?_⟩));refine hK2 _ ?_;clear hK2 K2));refine sxz (hK' _ ?_);clear hK' K';refine hK4 _ (AW.norm [2,3,4,5,6,7,27,28,29] [2,3,4,801,802,803,804] (fun _ _=>trivial) (AW.st (by simp [dNum,dS,List.take_of_length_le];rfl) ?_));refine AW_re (tyOf_good _) fun K' hK'=>?_;(repeat (refine sxn fun K2 hK2=>?_;simp [dNum,dS];(repeat (refine ⟨by omega,?_⟩));refine hK2 _ ?_;clear hK2 K2));refine sxz (hK' _ ?_);clear hK' K';(try simp only [thn,inb]);refine Again.mk (n+1) ⟨by omega,_,hn⟩ (by omega) ?_
       have e1:=hNN1 _ hn
       have e2:=hRR1 _ hn
       have e3:=hNA1 _ hn
       have e4:=hRA1 _ hn
       try dsimp only at e1 e2 e3 e4
       rw [hrs] at e1;rw [b2] at e2;rw [hps] at e3;rw [b4] at e4;refine Imp.to' (fun _ _=>trivial) (by simp [dNum,dS,e1,e2,e3,e4,hpl]) (by simp [dNum,dS,e1,e2,e3,e4,hpl])
      ·have hp:=herr 3 pk (by rw [hst0,hlpd'];exact if_neg hr0)
       have hra0:0 < A2.length:=by rw [hRA2];exact List.length_pos_iff.2 hr0
       have qf:=(Aq fw @hra0)
       refine rgqv [2,3,4,5,6,7,10,17,27,28,29,180] [2,3,4,17,801,802,803,804] ?_;refine AW_cond true (by simp [hra0]) (fun _=>?_) (fun h=>by cases h);refine rgq fw [2,3] [2,3] ?_;refine AW_ret ?_;simp [D.le,D.le.go,takeMap,dNum,dS,hp,dPw,cPw,dNms,dFault,codeF,placeF]
    | [],hlpd=>
     have hlpd':lineP ln = .form:=hlpd
     simp only [List.map_nil]
     have hp:=herr 3 pk (by rw [hst0,hlpd'])
     refine AW_then fun K10 hK10=>?_
     have qf:=(Aq fw (Aq @k1 (Aq @k3 @k3')))
     refine rgqv [2,3,4,5,6,7,10,16,17,27,28,29,153] [2,3,4,17,801,802,803,804] ?_;refine AW_cond true (by simp [k1,k3,k3']) (fun _=>?_) (fun h=>by cases h);refine rgq fw [2,3] [2,3] ?_;refine AW_ret ?_;simp [D.le,D.le.go,takeMap,dNum,dS,hp,dPw,cPw,dNms,dFault,codeF,placeF]
    | [b],hlpd=>
     have hlpd':lineP ln = .form:=by rw [hlpd,nameP,if_neg (by omega)]
     simp only [List.map_cons,List.map_nil]
     have hp:=herr 3 pk (by rw [hst0,hlpd'])
     refine AW_then fun K10 hK10=>?_
     have qf:=(Aq fw (Aq @k1 (Aq @k3 @k3')))
     refine rgqv [2,3,4,5,6,7,10,16,17,27,28,29,153] [2,3,4,17,801,802,803,804] ?_;refine AW_cond true (by simp [k1,k3,k3']) (fun _=>?_) (fun h=>by cases h);refine rgq fw [2,3] [2,3] ?_;refine AW_ret ?_;simp [D.le,D.le.go,takeMap,dNum,dS,hp,dPw,cPw,dNms,dFault,codeF,placeF]
    | b :: c :: d :: r,hlpd=>
     have hlpd':lineP ln = .form:=hlpd
     have hq:¬ ((r.length:Int)+1+1+1+1=3):=by omega
     simp only [List.map_cons]
     have hp:=herr 3 pk (by rw [hst0,hlpd'])
     refine AW_then fun K10 hK10=>?_
     have qf:=(Aq fw (Aq @k1 (Aq @k3 (Aq @k3' @hq))))
     refine rgqv [2,3,4,5,6,7,10,16,17,27,28,29,153] [2,3,4,17,801,802,803,804] ?_;refine AW_cond true (by simp [k1,k3,k3',hq]) (fun _=>?_) (fun h=>by cases h);refine rgq fw [2,3] [2,3] ?_;refine AW_ret ?_;simp [D.le,D.le.go,takeMap,dNum,dS,hp,dPw,cPw,dNms,dFault,codeF,placeF]
  ·obtain rfl:n=l.length:=by omega
   refine AW_cond false (by simp) (fun h=>by cases h) (fun _=>?_)
   have hpe:=parseP_end (s:=s) (by omega) (hl ▸ hs)
   have hok:=prOk_k (t:=t) (by omega) (Nat.le_refl _) (hl ▸ hs)
   have hsm:=prOk_small hok (by rw [← hl];omega)
   have hchk:=ldw_check G hF hM ⟨s.names,s.rungs⟩ hsm
   obtain ⟨hnl,hrl,hnm,_,_⟩:=hok
   rw [← hl] at hnm
   have b1:=hNNe _ s hs
   have b2:=hRRe _ s hs
   have b3:=hNAe _ s hs
   have b4:=hRAe _ s hs
   simp only [dPw,cPw,dNms] at hchk;rw [← b1,← b2] at hchk
   have hA1l:(NA l.length).length=s.names.length:=by rw [b3];simp [dPls,hnl]
   have hA2l:(RA l.length).length=s.rungs.length:=by rw [b4];simp [dPls,hrl]
   have hgd:=fun i h=>getD_nat (s.nAt ++ s.rAt) i h
   rw [dPls_app,← b3,← b4] at hgd
   have q1:(∀ el∈RA l.length,el.length=1)=True:=eq_true (by rw [b4];simp [dPls])
   have q2:(∀ el∈RA l.length,∀ c∈el,c.one=true)=True:=eq_true (by rw [b4];simp [dPls,dNum,D.one])
   have hpp:dPw ⟨s.names,s.rungs⟩ = .agg [.sl none (NN l.length),.sl none (RR l.length)]:=by rw [b1,b2];rfl
   have hcode:=fun c o=>checkP_code (p:=⟨s.names,s.rungs⟩) (c:=c) (o:=o)
   have hplace:∀ c i,checkP ⟨s.names,s.rungs⟩=some (c,some i)→i < (s.nAt ++ s.rAt).length:=fun c i h=>by have:=check_lt h;simp at this ⊢;omega
   refine AW_exit (hK2 _ ?_);generalize NN l.length=N1 at *;generalize RR l.length=R1 at *;generalize NA l.length=A1 at *;generalize RA l.length=A2 at *;refine AW.imp (Imp.freeze 801 trivial) ?_;refine AW.st (by simp [dNum,dS];rfl) ?_;refine AW.imp (Imp.freeze 802 trivial) ?_;refine AW.st (by simp [dNum,dS];rfl) ?_;refine AW.imp (Imp.freeze 804 trivial) ?_;refine AW.st (by simp [dNum,dS];rfl) ?_
   cases hck:checkP ⟨s.names,s.rungs⟩ with
   | none=>
    rw [hck] at hchk hpe
    dsimp only at hpe
    simp only [dFault,codeF,placeF,dNum] at hchk;refine rgc fw hchk [2,3,4,5,6,20] [2,3,4,20,803] ?_;refine AW_then fun K14 hK14=>?_;refine rgq fw [2,3,4,5,6,20,199] [2,3,4,20,803] ?_;refine AW_ff rfl ?_;refine AW_skip (hK14 _ ?_);refine AW_rdg (tyOf_good _) (by kernel_rfl) [(0,4),(2,2),(3,3)] [2,3] [2,3] (fun _ _=>trivial) (by kernel_rfl) fun K' hK'=>?_;(repeat (refine sxg_next fun K2 hK2=>?_;simp [dNum,dS,hF0];(repeat (refine ⟨by omega,?_⟩));refine hK2 _ ?_;clear hK2 K2));refine sxg_nil (hK' _ ?_);refine AW.st (by simp [dNum,dS,hF0];rfl) ?_;clear hK' K';refine AW_ret ?_;simp [D.le,D.le.go,takeMap,dNum,dS,hpe,hpp,dFault,codeF,placeF,D.le_refl,D.leGo_refl]
   | some ci=>
    obtain ⟨c,o⟩:=ci
    have hc0:=hcode c o hck
    rw [hck] at hchk hpe
    cases o with
    | none=>
     dsimp only at hpe
     simp only [dFault,codeF,placeF,dNum] at hchk;refine rgc fw hchk [2,3,4,5,6,20] [2,3,4,20,803] ?_;refine AW_then fun K14 hK14=>?_
     have qf:=(Aq fw @hc0)
     refine rgqv [2,3,4,5,6,20,199] [2,3,4,20,803] ?_;refine AW_cond true (by simp [hc0]) (fun _=>?_) (fun h=>by cases h);refine AW_then fun K15 hK15=>?_;refine rgq fw [2,3,5,6,20,202] [2,3,4,20,803] ?_;refine AW_ff rfl ?_;refine AW_skip (hK15 _ ?_);refine AW_rdg (tyOf_good _) (by kernel_rfl) [(1,20),(2,2),(3,3)] [2,3] [2,3] (fun _ _=>trivial) (by kernel_rfl) fun K' hK'=>?_;(repeat (refine sxg_next fun K2 hK2=>?_;simp [dNum,dS];(repeat (refine ⟨by omega,?_⟩));refine hK2 _ ?_;clear hK2 K2));refine sxg_nil (hK' _ ?_);refine AW.st (by simp [dNum,dS];rfl) ?_;clear hK' K';refine AW_ret ?_;simp [D.le,D.le.go,takeMap,dNum,dS,hpe,dPw,cPw,dNms,dFault,codeF,placeF]
    | some i=>
     dsimp only at hpe
     have hi:=hplace c i hck
     obtain ⟨hil,hgv⟩:=List.getElem?_eq_some_iff.1 (hgd i hi)
     clear hgd
     have hil2:i < A1.length+A2.length:=by simpa using hil
     have hil3:(i:Int) < (A1.length:Int)+(A2.length:Int):=by omega
     simp only [dFault,codeF,placeF,dNum] at hchk hgv;generalize (s.nAt ++ s.rAt).getD i 0=pl at hgv hpe;refine rgc fw hchk [2,3,4,5,6,20] [2,3,4,20,803] ?_;refine AW_then fun K14 hK14=>?_
     have qf:=(Aq fw @hc0)
     refine rgqv [2,3,4,5,6,20,199] [2,3,4,20,803] ?_;refine AW_cond true (by simp [hc0]) (fun _=>?_) (fun h=>by cases h);refine AW_then fun K15 hK15=>?_;refine rgq fw [2,3,5,6,20,202] [2,3,4,20,803] ?_;refine AW_cond true (by simp) (fun _=>?_) (fun h=>by cases h);refine AW_rle (tyOf_good _) (by kernel_rfl) ([(2,(803,803))]) ([(3,[803]),(4,[803]),(7,[803])]) ([0,1,3,4,2,5,6,7,8]) (by kernel_rfl) fun K' hK'=>?_;(repeat (refine sxl_nextO rfl fun K2 hK2=>?_;simp [dNum,dS,finK,q1,q2,hil,hil2,hil3,hgv,List.take_of_length_le];(repeat (refine ⟨by omega,?_⟩));refine hK2 _ ?_;clear hK2 K2));refine sxl_nilO (hK' _ ?_);clear hK' K';refine hK15 _ (AW.norm [2,3,20] [2,3,4,20] (fun _ _=>trivial) (AW.st (by simp [dNum,dS,finK,q1,q2,hil,hil2,hil3,hgv,List.take_of_length_le];rfl) ?_));refine AW_rdg (tyOf_good _) (by kernel_rfl) [(1,20),(2,2),(3,3)] [2,3] [2,3] (fun _ _=>trivial) (by kernel_rfl) fun K' hK'=>?_;(repeat (refine sxg_next fun K2 hK2=>?_;simp [dNum,dS];(repeat (refine ⟨by omega,?_⟩));refine hK2 _ ?_;clear hK2 K2));refine sxg_nil (hK' _ ?_);refine AW.st (by simp [dNum,dS];rfl) ?_;clear hK' K';refine AW_ret ?_;simp [D.le,D.le.go,takeMap,dNum,dS,hpe,dPw,cPw,dNms,dFault,codeF,placeF]
end Go.Proofs.YthnjfeielmbfkaaGreatDoor
namespace Go.Proofs.YthnjfeielmbfkaaGreatDoor
open Go.Av
theorem rungP_nz {k:Int} {nm hd rest:Tx} {c:Int} {o:Nat} (h:rungP k nm hd rest = .bad c o):c≠0:=by
 unfold rungP at h
 split at h
 ·rename_i c' o' he
  simp only [LnR.bad.injEq] at h
  have:=parse_pos he
  omega
 ·cases h
theorem rungL_nz {hd rest:Tx} {l:List Tx} {c:Int} {o:Nat} (h:rungL hd rest l = .bad c o):c≠0:=by
 unfold rungL at h
 split at h
 ·exact rungP_nz h
 ·split at h
  ·cases h
  ·exact rungP_nz h
 ·cases h
theorem nameL_nz {l:List Tx} {c:Int} {o:Nat} (h:nameL l = .bad c o):c≠0:=by
 unfold nameL at h
 split at h
 ·unfold nameP at h
  split at h
  ·split at h<;>cases h
  ·split at h
   ·split at h<;>cases h
   ·cases h
  ·cases h
 ·cases h
theorem lineP_nz {s:Tx} {c:Int} {o:Nat} (h:lineP s = .bad c o):c≠0:=by
 unfold lineP at h
 split at h
 ·exact rungL_nz h
 ·exact nameL_nz h
theorem prK_code {l:List Tx}:∀ {k:Nat} {c:Int} {i:Nat},prK l k = .inl (c,i)→c≠0
 | 0,c,i,h=>by cases h
 | k+1,c,i,h=>by
  rw [prK] at h
  cases hk:prK l k with
  | inl e=>
   rw [hk] at h
   obtain ⟨c',i'⟩:=e
   simp only [Sum.inl.injEq,Prod.mk.injEq] at h
   have:=prK_code hk
   omega
  | inr s0=>
   rw [hk] at h
   dsimp only at h
   unfold stepS at h
   split at h
   ·cases h
   ·split at h
    ·simp only [Sum.inl.injEq,Prod.mk.injEq] at h;omega
    ·rename_i hb
     simp only [Sum.inl.injEq,Prod.mk.injEq] at h
     have:=lineP_nz hb
     omega
    ·split at h
     ·cases h
     ·simp only [Sum.inl.injEq,Prod.mk.injEq] at h;omega
    ·cases h
theorem parseP_code {t:Tx} {c:Int} {o:Option Nat} (h:(parseP t).1=some (c,o)):c≠0:=by
 unfold parseP at h
 split at h
 ·simp only [Option.some.injEq,Prod.mk.injEq] at h;omega
 ·split at h
  ·rename_i c' i' hp
   simp only [Option.some.injEq,Prod.mk.injEq] at h
   have:=prK_code hp
   omega
  ·split at h
   ·cases h
   ·rename_i c' hc
    simp only [Option.some.injEq,Prod.mk.injEq] at h
    have:=checkP_code hc
    omega
   ·rename_i c' i' hc
    simp only [Option.some.injEq,Prod.mk.injEq] at h
    have:=checkP_code hc
    omega
end Go.Proofs.YthnjfeielmbfkaaGreatDoor
namespace Go.Proofs.YthnjfeielmbfkaaGreatDoor
open Go.Av
theorem small_of {p:PgP} (hck:checkP p=none) (hk:∀ r∈p.rungs,CondOk r):SmallP p:=by
 have hg:=checkP_good hck
 have hnm:=hg.names
 have hrn:=hg.rungs
 refine ⟨by omega,by omega,fun n hn=>?_,fun r hr e he=>?_⟩
 ·have:=nameF_len (hg.name n hn).1;omega
 ·obtain ⟨e',he',_,_,hb⟩:=hk r hr
  rw [he] at he'
  obtain rfl:=Option.some.inj he'
  have h1:=Lib.compact_length_le (sortT (nmsE true e))
  have h2:=sortT_len (nmsE true e)
  have h3:=nms_len true e
  refine ⟨by omega,?_⟩;unfold namesE;omega
def FitS (p:PgP) (s:StP) (inn:List Bool):Prop:=inn.length=(inputP p).length∧s.is.length=p.names.length∧s.ct.length=p.names.length
set_option maxRecDepth 100000 in
set_option maxHeartbeats 8000000 in
theorem step_good (G:Glob) (p:PgP) (hck:checkP p=none) (hk:∀ r∈p.rungs,CondOk r) (s:StP) (hs:InvS p s) (inn:List Bool) (hin:inn.length=(inputP p).length):PureC Tryz.prog G 36 [dPg p,dSt s,dBl inn] (.tup [dSt (doP p s inn),.v .nilIface]):=by
 have hdo:=do_spec G p hck hk s hs inn hin
 have hcs:=ladderCheck_spec G p (small_of hck hk)
 rw [hck] at hcs
 have hkd:=lkind_spec G p (by have:=(checkP_good hck).names;omega) 1
 have hkI:kindN p.names 1 p.names.length=inputP p:=rfl
 rw [hkI] at hkd
 have hs1:=hs.l1
 have hs2:=hs.l2
 have hNl:(p.names.map cNm).length=p.names.length:=by simp
 rw [← hNl] at hs1 hs2;simp only [dPg,cPg,dNms,dRgs,dBl,dIl,cSt,dSt,dErr] at hkd hcs hdo ⊢;generalize doP p s inn=t at *;generalize inputP p=KI at *;generalize p.names.map cNm=NN at *;generalize p.rungs.map cRg=RR at *
 obtain ⟨I,C⟩:=s
 obtain ⟨I2,C2⟩:=t
 dsimp only at hdo hs1 hs2 ⊢
 clear hs;refine PureC.of_body (tyOf_good _) Tryz.func36 rfl rfl (rs:=[.cell 6 45,.tmp 7]) Tryz.results36 (by simp [Tryz.ntmps36]) fun X=>?_;simp only [Tryz.ntmps36,List.map]
 have fw:=@dNum.eq_1
 refine rgq fw [2,3,4,6] [3,4,6] ?_;refine AW.imp (Imp.freezeB 3 trivial) ?_;refine AW.st (by simp [dNum];rfl) ?_;refine AW.imp (Imp.freezeB 4 trivial) ?_;refine AW.st (by simp [dNum];rfl) ?_;refine AW_then fun K1 hK1=>?_;refine rgc fw hcs [2,3,4,6,8] [6] ?_;refine rgq fw [2,3,4,6,8,12] [6] ?_;refine AW_ff rfl ?_;refine AW_skip (hK1 _ ?_);refine AW_then fun K2 hK2=>?_
 have qf:=(Aq fw (Aq @hin (Aq @hs1 @hs2)))
 refine rgcv hkd [2,3,4,6,38] [6] ?_;refine AW_ff rfl ?_;refine AW_skip (hK2 _ ?_);refine rgc fw hdo [6,7] [6] ?_;refine AW_ret ?_;simp [D.le,D.le.go,takeMap,dNum,D.le_refl,D.leGo_refl]
set_option maxRecDepth 100000 in
set_option maxHeartbeats 8000000 in
theorem step_bad (G:Glob) (p:PgP) (hck:checkP p=none) (hk:∀ r∈p.rungs,CondOk r) (s:StP) (inn:List Bool) (hb:¬ FitS p s inn):PureC Tryz.prog G 36 [dPg p,dSt s,dBl inn] (.tup [.agg [.sl none [],.sl none []],dErr (some (2,none))]):=by
 have hcs:=ladderCheck_spec G p (small_of hck hk)
 rw [hck] at hcs
 have hkd:=lkind_spec G p (by have:=(checkP_good hck).names;omega) 1
 have hkI:kindN p.names 1 p.names.length=inputP p:=rfl
 rw [hkI] at hkd
 have hNl:(p.names.map cNm).length=p.names.length:=by simp
 unfold FitS at hb;rw [← hNl] at hb;simp only [dPg,cPg,dNms,dRgs,dBl,dIl,cSt,dSt,dErr] at hkd hcs ⊢;generalize inputP p=KI at *;generalize p.names.map cNm=NN at *;generalize p.rungs.map cRg=RR at *
 obtain ⟨I,C⟩:=s
 dsimp only at hb ⊢
 refine PureC.of_body (tyOf_good _) Tryz.func36 rfl rfl (rs:=[.cell 6 45,.tmp 7]) Tryz.results36 (by simp [Tryz.ntmps36]) fun X=>?_;simp only [Tryz.ntmps36,List.map]
 have fw:=@dNum.eq_1
 refine rgq fw [2,3,4,6] [3,4,6] ?_;refine AW.imp (Imp.freezeB 3 trivial) ?_;refine AW.st (by simp [dNum];rfl) ?_;refine AW.imp (Imp.freezeB 4 trivial) ?_;refine AW.st (by simp [dNum];rfl) ?_;refine AW_then fun K1 hK1=>?_;refine rgc fw hcs [2,3,4,6,8] [6] ?_;refine rgq fw [2,3,4,6,8,12] [6] ?_;refine AW_ff rfl ?_;refine AW_skip (hK1 _ ?_);refine AW_then fun K2 hK2=>?_
 by_cases h1:inn.length=KI.length
 ·by_cases h2:I.length=NN.length
  ·have h3:¬ C.length=NN.length:=fun h3=>hb ⟨h1,h2,h3⟩
   have qf:=(Aq fw (Aq @h1 (Aq @h2 @h3)))
   refine rgcv hkd [2,3,4,6,38] [6] ?_;refine AW_cond true (by simp [h3]) (fun _=>?_) (fun h=>by cases h);refine rgq fw [6,7] [6] ?_;refine AW_ret ?_;simp [D.le,D.le.go,takeMap,dNum,D.le_refl,D.leGo_refl]
  ·have qf:=(Aq fw (Aq @h1 @h2))
   refine rgcv hkd [2,3,4,6,38] [6] ?_;refine AW_cond true (by simp [h2]) (fun _=>?_) (fun h=>by cases h);refine rgq fw [6,7] [6] ?_;refine AW_ret ?_;simp [D.le,D.le.go,takeMap,dNum,D.le_refl,D.leGo_refl]
 ·have qf:=(Aq fw @h1)
  refine rgcv hkd [2,3,4,6,38] [6] ?_;refine AW_cond true (by simp [h1]) (fun _=>?_) (fun h=>by cases h);refine rgq fw [6,7] [6] ?_;refine AW_ret ?_;simp [D.le,D.le.go,takeMap,dNum,D.le_refl,D.leGo_refl]
def dBls (l:List (List Bool)):D:=.sl none (l.map fun x=>[dBl x])
def cSts (l:List StP):List (List D):=l.map cSt
set_option maxRecDepth 100000 in
set_option maxHeartbeats 8000000 in
theorem play_good (G:Glob) (p:PgP) (hck:checkP p=none) (hk:∀ r∈p.rungs,CondOk r) (l:List (List Bool)) (hl:l.length≤1000) (hin:∀ x∈l,x.length=(inputP p).length):PureC Tryz.prog G 14 [dPg p,dBls l] (.tup [.sl none (cSts (playP p (startP p) l)),.v .nilIface]):=by
 have hnm:=(checkP_good hck).names
 have hcs:=ladderCheck_spec G p (small_of hck hk)
 rw [hck] at hcs
 have hst:=start_spec G p (by omega)
 have hstep:∀ k (hk2:k < l.length),PureC Tryz.prog G 36 [dPg p,dSt (behindP p (startP p) l k),dBl l[k]] (.tup [dSt (behindP p (startP p) l (k+1)),.v .nilIface]):=fun k hk2=>by
  have:=step_good G p hck hk _ (behind_inv hck l k (by omega)) l[k] (hin _ (List.getElem_mem hk2))
  rw [← behind_succ _ _ hk2] at this;exact this
 have hb0:behindP p (startP p) l 0=startP p:=rfl
 have hpl:=playP_len p (startP p) l
 have hpt:=fun k (hk2:k < l.length)=>playP_take p (startP p) hk2
 generalize playP p (startP p) l=PL at *;generalize hBH:behindP p (startP p) l=BH at hstep hb0 hpt;simp only [dPg,cPg,dNms,dRgs,dBl,dIl,cSt,dSt,dErr,dBls,cSts] at hcs hst hstep ⊢;rw [← hb0] at hst;generalize p.names.map cNm=NN at *;generalize p.rungs.map cRg=RR at *
 have hl2:¬ (l.length:Int) > 1000:=by omega
 have hlg:∀ k (hk2:k < l.length),(l.map fun x=>[D.sl none (x.map fun b=>[D.v (.bool b)])])[k]? = some [.sl none (l[k].map fun b=>[.v (.bool b)])]:=fun k hk2=>by simp [hk2]
 have hll:(l.map fun x=>[D.sl none (x.map fun b=>[D.v (.bool b)])]).length=l.length:=by simp
 generalize (l.map fun x=>[D.sl none (x.map fun b=>[D.v (.bool b)])])=LL at *
 have hl3:¬ (LL.length:Int) > 1000:=by omega
 refine PureC.of_body (tyOf_good _) Tryz.func14 rfl rfl (rs:=[.tmp 4,.tmp 5]) Tryz.results14 (by simp [Tryz.ntmps14]) fun X=>?_;simp only [Tryz.ntmps14,List.map]
 have fw:=@dNum.eq_1
 refine rgq fw [1,2] [2] ?_;refine AW.imp (Imp.freezeB 2 trivial) ?_;refine AW.st (by simp [dNum];rfl) ?_;refine AW_then fun K1 hK1=>?_
 have qf:=(Aq fw @hl3)
 refine rgqv [1,2,14] [] ?_;refine AW_cond false (by simp<;>omega) (fun h=>by cases h) (fun _=>?_);refine AW_skip (hK1 _ ?_);refine AW_then fun K2 hK2=>?_;refine rgc fw hcs [1,2,6] [] ?_;refine rgq fw [1,2,6,19] [] ?_;refine AW_ff rfl ?_;refine AW_skip (hK2 _ ?_);refine rgc fw hst [1,2,7] [7] ?_;refine rgq fw [1,2,7,8] [7] ?_;refine AW_then fun K3 hK3=>?_;refine rgq fw [2,7,8,23,24,25] [7] ?_;refine AW_for (S:=Nat) (fun n=>n≤l.length) (fun n=>⟨lst [(2,.d (.ip [.sl none NN,.sl none RR])),(7,.ref 7 0 0),(8,.own 800 0 n),(23,.d (.sl none LL)),(24,int LL.length),(25,int n)],hlst [(7,.box 45 [.d (.sl none ((BH n).is.map fun b=>[.v (.bool b)])),.d (.sl none ((BH n).ct.map fun n=>[.v (.int .i64 n)]))]),(800,.sl 45 2 ((PL.take n).map cSt))]⟩) (fun n=>l.length - n) 0 ?_ (by omega) ?_
 ·refine (Imp.adopt 8 800 45 2 rfl rfl).trans ?_;refine Imp.to' (fun _ _=>trivial) (by simp [dNum]) (by simp [dNum])
 ·intro n hn
  have hstn:=hstep n
  have hptn:=hpt n
  have hPl:((PL.take n).map cSt).length=n:=by simp;omega
  generalize hPT:PL.take n=P at hptn hPl ⊢
  have hPm:(P.map cSt).length=P.length:=by simp
  generalize hbn:BH n=bn at hstn ⊢
  obtain ⟨I,C⟩:=bn
  dsimp only at hstn ⊢
  refine rgq fw [2,7,8,23,24,25,26] [7,800] ?_;refine AW_then fun K4 hK4=>?_;refine AW_cond' (b:=n < LL.length) (by simp [D.le,D.le.go,takeMap,dNum]) (fun hc=>?_) (fun hc=>?_)
  ·have hlt:n < l.length:=by omega
   have hLg:=hlg n hlt
   have hLn:LL[n]=[.sl none (l[n].map fun b=>[.v (.bool b)])]:=by
    rw [List.getElem?_eq_getElem hc] at hLg;exact Option.some.inj hLg
   have hst2:=hstn hlt
   have hPn:=hptn hlt
   generalize hb2:BH (n+1)=b2 at hst2 hPn
   obtain ⟨I2,C2⟩:=b2
   generalize l[n].map (fun b=>[D.v (.bool b)])=X at hLn hst2
   dsimp only at hst2
   refine AW_skip (hK4 _ ?_);refine AW_then fun K5 hK5=>?_;refine AW_block ?_
   have qf:=(Aq fw (Aq @hc @hLn))
   refine rgqv [2,7,8,10,23,24,25] [7,800] ?_;refine rgq fw [2,7,8,10,23,24,25] [7,800] ?_;refine AW_then fun K6 hK6=>?_;refine rgc fw hst2 [2,7,8,11,23,24,25] [7,800] ?_;refine rgq fw [2,7,8,11,23,24,25,37] [7,800] ?_;refine AW_ff rfl ?_;refine AW_skip (hK6 _ ?_);refine AW_re (tyOf_good _) fun K' hK'=>?_;(repeat (refine sxn fun K2 hK2=>?_;simp [dNum,hPl,List.take_of_length_le];(repeat (refine ⟨by omega,?_⟩));refine hK2 _ ?_;clear hK2 K2));refine sxz (hK' _ ?_);clear hK' K';refine hK5 _ (AW.norm [2,7,8,23,24,25] [7,800] (fun _ _=>trivial) (AW.st (by simp [dNum,hPl,List.take_of_length_le];rfl) ?_));refine AW_re (tyOf_good _) fun K' hK'=>?_;(repeat (refine sxn fun K2 hK2=>?_;simp [dNum];(repeat (refine ⟨by omega,?_⟩));refine hK2 _ ?_;clear hK2 K2));refine sxz (hK' _ ?_);clear hK' K';(try simp only [thn,inb]);refine Again.mk (n+1) (by omega) (by omega) ?_;rw [hb2,hPn];refine Imp.to' (fun _ _=>trivial) (by simp [dNum,cSt,dBl,dIl]) (by simp [dNum,cSt,dBl,dIl])
  ·have hne:n=l.length:=by omega
   have hPe:P=PL:=by rw [← hPT];exact List.take_of_length_le (by omega)
   subst hPe;refine AW_exit (hK3 _ ?_);refine AW.imp (Imp.freeze 800 trivial) ?_;refine AW.st (by simp [dNum,hPl,List.take_of_length_le];rfl) ?_;refine rgq fw [4,5] [7] ?_;refine AW_ret ?_;simp [D.le,D.le.go,takeMap,dNum,cSt,dBl,dIl,D.le_refl,D.leGo_refl]
end Go.Proofs.YthnjfeielmbfkaaGreatDoor
namespace Go.Proofs.YthnjfeielmbfkaaGreatDoor
open Go.Av
def inB (x:Int) (k:Nat):Bool:=bitsI .and .i64 (x.fdiv (2 ^ (min k IntKind.i64.bits))) 1 == 1
def inBs (x:Int):Nat→List Bool
 | 0=>[]
 | k+1=>inBs x k ++ [inB x k]
theorem inBs_len (x:Int):∀ k,(inBs x k).length=k
 | 0=>rfl
 | k+1=>by rw [inBs,List.length_append,inBs_len x k];rfl
def inputsF (l:List Int) (m:Nat):List (List Bool):=l.map fun x=>inBs x m
theorem inputsF_len (l:List Int) (m:Nat):(inputsF l m).length=l.length:=by simp [inputsF]
theorem inputsF_each {l:List Int} {m:Nat}:∀ x∈inputsF l m,x.length=m:=fun x hx=>by
 obtain ⟨y,_,rfl⟩:=List.mem_map.1 hx
 exact inBs_len y m
theorem inputsF_take {l:List Int} {m n:Nat} (h:n < l.length):(inputsF l m).take (n+1)=(inputsF l m).take n ++ [inBs l[n] m]:=by
 rw [List.take_succ_eq_append_getElem (by rw [inputsF_len];exact h)];simp [inputsF]
set_option maxRecDepth 100000 in
set_option maxHeartbeats 8000000 in
theorem winputs_spec (G:Glob) (l:List Int) (m:Nat) (hl:l.length < 2^40) (hm:m < 2^40):PureC Tryz.prog G 30 [dIl l,dNum m] (dBls (inputsF l m)):=by
 have hOl:=inputsF_len l m
 have hOt:=fun n (h:n < l.length)=>inputsF_take (m:=m) h
 simp only [dIl,dBls,dNum,dBl];generalize inputsF l m=OUT at *
 have hLl:(l.map fun n=>[D.v (.int .i64 n)]).length=l.length:=by simp
 have hLg:∀ n (h:n < l.length),(l.map fun n=>[D.v (.int .i64 n)])[n]? = some [.v (.int .i64 l[n])]:=fun n h=>by simp [h]
 generalize (l.map fun n=>[D.v (.int .i64 n)])=LL at *;refine PureC.of_body (tyOf_good _) Tryz.func30 rfl rfl (rs:=[.tmp 4]) Tryz.results30 (by simp [Tryz.ntmps30]) fun X=>?_;simp only [Tryz.ntmps30,List.map];refine rg0 [0,1] [] ?_;refine rg0 [0,1,5] [] ?_;refine AW_then fun K1 hK1=>?_;refine rg0 [0,1,5,6] [] ?_;refine AW_for (S:=Nat) (fun n=>n≤l.length) (fun n=>⟨lst [(0,.d (.sl none LL)),(1,int m),(5,.own 900 0 n),(6,int n)],hlst [(900,.sl 39 1 ((OUT.take n).map fun x=>[.sl none (x.map fun b=>[.v (.bool b)])]))]⟩) (fun n=>l.length - n) 0 ?_ (by omega) ?_
 ·refine (Imp.adopt 5 900 39 1 rfl rfl).trans ?_;refine Imp.to' (fun _ _=>trivial) (by simp) (by simp)
 ·intro n hn
  have hOn:=hOt n
  have hPl:((OUT.take n).map fun x=>[D.sl none (x.map fun b=>[D.v (.bool b)])]).length=n:=by simp;omega
  generalize hPT:OUT.take n=P at hOn hPl ⊢;refine AW_then fun K2 hK2=>?_
  by_cases hlt:n < l.length
  ·have hlt2:n < LL.length:=by omega
   have hOn2:=hOn hlt
   have hLn:LL[n]=[.v (.int .i64 l[n])]:=by
    have:=hLg n hlt
    rw [List.getElem?_eq_getElem hlt2] at this;exact Option.some.inj this
   generalize l[n]=x at hLn hOn2
   have qf:=@hlt2
   refine rgqv [0,1,5,6,12] [900] ?_;refine AW_cond true (by simp [hlt2]) (fun _=>?_) (fun h=>by cases h);refine AW_skip (hK2 _ ?_);refine AW_then fun K3 hK3=>?_;refine AW_block ?_;refine rg0 [0,1,5,6,7] [900] ?_;refine AW_then fun K4 hK4=>?_;refine rg0 [0,1,5,6,7,8] [900] ?_;refine AW_for (S:=Nat) (fun k=>k≤m) (fun k=>⟨lst [(0,.d (.sl none LL)),(1,int m),(5,.own 900 0 n),(6,int n),(7,.own 901 0 k),(8,int k)],hlst [(900,.sl 39 1 (P.map fun x=>[.sl none (x.map fun b=>[.v (.bool b)])])),(901,.sl 4 1 ((inBs x k).map fun b=>[.v (.bool b)]))]⟩) (fun k=>m - k) 0 ?_ (by omega) ?_
   ·refine (Imp.adopt 7 901 4 1 rfl rfl).trans ?_;refine Imp.to' (fun _ _=>trivial) (by simp [inBs]) (by simp [inBs])
   ·intro k hkm
    have hBl:((inBs x k).map fun b=>[D.v (.bool b)]).length=k:=by simp [inBs_len]
    have hBs:inBs x (k+1)=inBs x k ++ [inB x k]:=rfl
    have hinB:(bitsI .and .i64 (x.fdiv (2 ^ (min k IntKind.i64.bits))) 1 == 1)=inB x k:=rfl
    generalize hbk:inBs x k=B at hBl hBs ⊢;refine AW_then fun K5 hK5=>?_;refine rg0 [0,1,5,6,7,8,17] [900,901] ?_;refine AW_cond' (b:=k < m) (by simp [D.le,D.le.go,takeMap]) (fun hc=>?_) (fun hc=>?_)
    ·refine AW_skip (hK5 _ ?_);refine AW_then fun K6 hK6=>?_;refine AW_block ?_;refine AW_re (tyOf_good _) fun K' hK'=>?_;(repeat (refine sxn fun K2 hK2=>?_;simp [hlt2,hLn,hBl,List.take_of_length_le,shI,hinB];(repeat (refine ⟨by omega,?_⟩));refine hK2 _ ?_;clear hK2 K2));refine sxz (hK' _ ?_);clear hK' K';refine hK6 _ (AW.norm [0,1,5,6,7,8] [900,901] (fun _ _=>trivial) (AW.st (by simp [hlt2,hLn,hBl,List.take_of_length_le,shI,hinB];rfl) ?_));refine AW_re (tyOf_good _) fun K' hK'=>?_;(repeat (refine sxn fun K2 hK2=>?_;simp;(repeat (refine ⟨by omega,?_⟩));refine hK2 _ ?_;clear hK2 K2));refine sxz (hK' _ ?_);clear hK' K';(try simp only [thn,inb]);refine Again.mk (k+1) (by omega) (by omega) ?_;rw [hBs];refine Imp.to' (fun _ _=>trivial) (by simp) (by simp)
    ·obtain rfl:k=m:=by omega
     refine AW_exit (hK4 _ ?_);rw [hbk] at hOn2;refine AW.imp (Imp.freeze 901 trivial) ?_;refine AW.st (by simp [hBl,List.take_of_length_le];rfl) ?_;refine AW_re (tyOf_good _) fun K' hK'=>?_;(repeat (refine sxn fun K2 hK2=>?_;simp [hPl,List.take_of_length_le];(repeat (refine ⟨by omega,?_⟩));refine hK2 _ ?_;clear hK2 K2));refine sxz (hK' _ ?_);clear hK' K';refine hK3 _ (AW.norm [0,1,5,6] [900] (fun _ _=>trivial) (AW.st (by simp [hPl,List.take_of_length_le];rfl) ?_));refine AW_re (tyOf_good _) fun K' hK'=>?_;(repeat (refine sxn fun K2 hK2=>?_;simp;(repeat (refine ⟨by omega,?_⟩));refine hK2 _ ?_;clear hK2 K2));refine sxz (hK' _ ?_);clear hK' K';(try simp only [thn,inb]);refine Again.mk (n+1) (by omega) (by omega) ?_;rw [hOn2];refine Imp.to' (fun _ _=>trivial) (by simp) (by simp)
  ·obtain rfl:n=l.length:=by omega
   have hlt3:¬ (l.length:Int) < (LL.length:Int):=by omega
   have hPe:P=OUT:=by rw [← hPT];exact List.take_of_length_le (by omega)
   subst hPe
   have qf:=@hlt3
   refine rgqv [0,1,5,6,12] [900] ?_;refine AW_cond false (by simp<;>omega) (fun h=>by cases h) (fun _=>?_);refine AW_exit (hK1 _ ?_);refine AW.imp (Imp.freeze 900 trivial) ?_;refine AW.st (by simp [hPl,List.take_of_length_le];rfl) ?_;refine rg0 [4] [] ?_;refine AW_ret ?_;simp [D.le,D.le.go,takeMap,D.le_refl,D.leGo_refl]
def readP (t:Tx):Option PgP:=if 1500 < t.length then none else match parseP t with
 | (none,p)=>some p
 | (some _,_)=>none
theorem readP_some {t:Tx} {p:PgP} (h:readP t=some p):parseP t=(none,p):=by
 unfold readP at h
 split at h
 ·cases h
 ·split at h
  ·rename_i q hq
   obtain rfl:=Option.some.inj h
   exact hq
  ·cases h
def dBoth:Option PgP→D
 | none=>.tup [dPg ⟨[],[]⟩,dPw ⟨[],[]⟩,.v (.bool false)]
 | some p=>.tup [dPg p,dPw p,.v (.bool true)]
theorem dPg0:dPg ⟨[],[]⟩ = .agg [.sl none [],.sl none []]:=rfl
theorem dPw0:dPw ⟨[],[]⟩ = .agg [.sl none [],.sl none []]:=rfl
end Go.Proofs.YthnjfeielmbfkaaGreatDoor
