/-
  Texts that belong together,in one file: Sh19,SG,JP,RT3,RT7,LT0,PM2,LE1,LD,KB,Av37,SC2,C2,SC3,SC4,IP,MA0,RF0,RF2,MA1,MA2.
-/
import Derived.Test.YtpboiimemmfkiaaGreatDoorRp35
import Derived.Test.YtpboiimemmfkiaaGreatDoorProg
import Derived.Ground.Names8Prog
import Derived.Shelf.Spec.SlicesGrow
set_option linter.unusedSectionVars false
set_option linter.unusedSimpArgs false
set_option linter.unusedVariables false
namespace Go.Proofs
open Go.Shelf
def Tryz.growI_ren:Go.Shelf.Ren:=⟨fun | 4=>215 | n=>n,fun | 22=>51 | 25=>3 | 3=>3 | 4=>4 | 9=>9 | 20=>20 | 0=>0 | n=>n,fun | n=>n⟩
theorem Tryz.growI:Go.Proofs.Lays8.n4 Tryz.prog Tryz.growI_ren:={
 mixed:=by kernel_rfl
 f4:=⟨Tryz.f215.name,by decide,Tryz.func215.trans (congrArg some (by kernel_rfl))⟩
 t0:=Tryz.underlying0
 a0:=Tryz.isAgg0
 z0:=Tryz.sizeOf0
 v0:=Tryz.zeroValue0
 t3:=Tryz.underlying3
 a3:=Tryz.isAgg3
 z3:=Tryz.sizeOf3
 v3:=Tryz.zeroValue3
 t4:=Tryz.underlying4
 a4:=Tryz.isAgg4
 z4:=Tryz.sizeOf4
 v4:=Tryz.zeroValue4
 t9:=Tryz.underlying9
 a9:=Tryz.isAgg9
 z9:=Tryz.sizeOf9
 v9:=Tryz.zeroValue9
 t20:=Tryz.underlying20
 a20:=Tryz.isAgg20
 z20:=Tryz.sizeOf20
 v20:=Tryz.zeroValue20
 t22:=Tryz.underlying51
 a22:=Tryz.isAgg51
 z22:=Tryz.sizeOf51
 v22:=Tryz.zeroValue51 }
end Go.Proofs
namespace Go.Proofs.YtpboiimemmfkiaaGreatDoor
open Go.Av Go.Shelf Go.RowKit
theorem size_grown (n G:Nat) (h:n≤G):(([]:List Value).toArray ++ Builtin.zeroCells (Value.int .i64 0).cells (0+n - 0) ++ Builtin.zeroCells (Value.int .i64 0).cells (G - (0+n))).size=G:=by
 simp [size_zeroCells,Value.cells];omega
theorem grow_mc (G:Glob) (n:Nat) (hn:n≤2^40):MC Tryz.prog G [] 215 [.d (.sl (some false) []),.d (dNum n)] (hlst []) (.own 900 0 0) (hlst [(900,.sl 3 1 [])]):=by
 refine ⟨Fun.of Tryz.func215 rfl rfl,fun X w μ vs hs hgl hsz hv=>?_⟩
 obtain ⟨a,b,rfl⟩:∃ a b,vs = #[a,b]:=by
  match vs,hsz with
  | ⟨[a,b]⟩,_=>exact ⟨a,b,rfl⟩
 obtain rfl:a = .slice none 0 0:=by
  rcases (hv 0 a _ rfl rfl).data.sl_inv with ⟨rfl,_⟩ | ⟨_,_,_,hk,_⟩
  ·rfl
  ·exact absurd rfl hk
 obtain rfl:b = .int .i64 n:=(hv 1 b _ rfl rfl).scalar
 have hL:=Tryz.growI
 have hin:In w X G μ ⟨0,[],none⟩ { tmps:=#[],defers:=[] } ⟨fun _=>none,hlst []⟩:=⟨hs,⟨rfl,rfl,fun i x h=>by cases h⟩,hgl⟩
 have hH:∀ row,hup (hlst []) 900 row=hlst [(900,row)]:=fun row=>by
  funext q
  by_cases h:q=900
  ·subst h;rfl
  ·have hq:(q == 900)=false:=by simpa using h
   simp only [hup,if_neg h,hlst,List.lookup,hq]
 by_cases h0:n=0
 ·subst h0;refine (Any8.slices_Grow_room hL none 0 0 0 w (by omega) (by omega) (by omega) (by omega)).mono fun e w' ⟨he,hw⟩=>?_;subst hw
  obtain ⟨h1,ev⟩:=hin.alloc (Mv:=notIn []) (w':=w') (m:=⟨none,1,0⟩) (d:=900) rfl (Grew.refl _) (by simp) (row:=.sl 3 1 []) fun _=>.nil rfl rfl
  have h2:=h1.sim
  dsimp only at h2
  rw [hH] at h2;exact ⟨_,_,_,_,he,⟨rfl,rfl⟩,.own (m:=⟨none,1,0⟩) (by simp [mup]) (.inl ⟨rfl,rfl,rfl,rfl⟩),h2,ev⟩
 ·obtain ⟨i0,hi,hz0,hz1,hz2⟩:=info_parts (P:=Tryz.prog) (e:=3) (z:=.int .i64 0) (size:=1) (bytes:=8) (by kernel_rfl)
  refine (Any8.slices_Grow_grow hL i0 (.int .i64 0) hi hz0 (by omega) none 0 0 n [] w (by omega) (by omega) (by rw [hz2];omega) (by omega) (by simp) (fun _=>rfl) (fun a e=>by cases e)).mono fun e w' ⟨he,hw⟩=>?_
  have hge:n≤grownCap w (0+n) 0 3:=by have:=grownCap_ge w (0+n) 0 3;omega
  have hle:grownCap w (0+n) 0 3≤maxLen:=grownCap_le_maxLen w (0+n) 0 3 (by unfold maxLen;omega)
  have he:e = .returned (.slice (some ⟨w.heap.size,0,none⟩) 0 (grownCap w (0+n) 0 3)):=he
  have hw:w'=w.drew.alloc (.cells (([]:List Value).toArray ++ Builtin.zeroCells (Value.int .i64 0).cells (0+n - 0) ++ Builtin.zeroCells (Value.int .i64 0).cells (grownCap w (0+n) 0 3 - (0+n))) 3):=hw
  have hsz:=size_grown n (grownCap w (0+n) 0 3) hge
  generalize grownCap w (0+n) 0 3=C at he hw hge hle hsz;generalize (([]:List Value).toArray ++ Builtin.zeroCells (Value.int .i64 0).cells (0+n - 0) ++ Builtin.zeroCells (Value.int .i64 0).cells (C - (0+n)))=Z at hw hsz;subst hw
  have g1:=Grew.drew w
  have g2:=Grew.alloc w.drew (.cells Z 3)
  have hg:Grew w (w.drew.alloc (.cells Z 3)):=⟨Nat.le_trans g1.size g2.size,g2.os.trans g1.os,g2.tape.trans g1.tape,g2.output.trans g1.output,fun b hb=>(g2.same b (Nat.lt_of_lt_of_le hb g1.size)).trans (g1.same b hb)⟩
  have hnew:(w.drew.alloc (.cells Z 3)).heap[w.heap.size]? = some (.cells Z 3 (0,0)):=heap_alloc_new w.drew _
  obtain ⟨h1,ev⟩:=hin.alloc (Mv:=notIn []) (w':=w.drew.alloc (.cells Z 3)) (m:=⟨some w.heap.size,1,C⟩) (d:=900) rfl hg (by rintro b h;injection h with h;omega) (row:=.sl 3 1 []) fun _=>
   .sl (b:=w.heap.size) rfl rfl hnew (by simpa using hsz) (by simp) hle (by simp) (by omega) (by simp)
  have h2:=h1.sim
  dsimp only at h2
  rw [hH] at h2;exact ⟨_,_,_,_,he,⟨rfl,rfl⟩,.own (m:=⟨some w.heap.size,1,C⟩) (by simp [mup]) (.inr ⟨_,rfl,by simp,by simp⟩),h2,ev⟩
def dPls (l:List Nat):List (List D):=l.map fun (n:Nat)=>[dNum (n:Int)]
theorem dPls_app (a b:List Nat):dPls (a ++ b)=dPls a ++ dPls b:=by unfold dPls;rw [List.map_append]
def ct3 {α:Type} (a b c:α):Nat→α
 | 0=>a
 | 1=>b
 | _=>c
set_option maxHeartbeats 4000000 in
theorem concat_spec (G:Glob) (a b:List Nat) (ha:a.length≤2^30) (hb:b.length≤2^30):PureC Tryz.prog G 164 [.sl none [[.sl none (dPls a)],[.sl none (dPls b)]]] (.sl none (dPls (a ++ b))):=by
 rw [dPls_app]
 have hA1:(∀ el∈dPls a,el.length=1)=True:=eq_true (by simp [dPls])
 have hB1:(∀ el∈dPls b,el.length=1)=True:=eq_true (by simp [dPls])
 have hA2:(∀ el∈dPls a,∀ c∈el,c.one=true)=True:=eq_true (by simp [dPls,dNum,D.one])
 have hB2:(∀ el∈dPls b,∀ c∈el,c.one=true)=True:=eq_true (by simp [dPls,dNum,D.one])
 have hAl:(dPls a).length≤2^30:=by simpa [dPls] using ha
 have hBl:(dPls b).length≤2^30:=by simpa [dPls] using hb
 generalize dPls a=A at *;generalize dPls b=B at *
 have hgr:=grow_mc G (A.length+B.length) (by omega)
 simp only [dNum] at hgr;refine PureC.of_body (tyOf_good _) Tryz.func164 rfl rfl (rs:=[.tmp 2]) Tryz.results164 (by simp [Tryz.ntmps164]) fun X=>?_;simp only [Tryz.ntmps164,List.map]
 have fw:=@dNum.eq_1
 refine rgq fw [0] [] ?_;refine rgq fw [0,3] [] ?_;refine AW_then fun K1 hK1=>?_;refine rgq fw [0,3,9,10,11] [] ?_;refine AW_for (S:=Nat) (fun n=>n≤2) (fun n=>⟨lst [(0,.d (.sl none [[.sl none A],[.sl none B]])),(3,int (ct3 0 (A.length:Int) ((A.length:Int)+B.length) n)),(9,.d (.sl none [[.sl none A],[.sl none B]])),(10,int 2),(11,int n)],hlst []⟩) (fun n=>2 - n) 0 ?_ (by omega) ?_
 ·refine Imp.to' (fun _ _=>trivial) (by simp [dNum,ct3]) (by simp [dNum,ct3])
 ·intro n hn
  rcases (by omega:n=0∨n=1∨n=2) with rfl | rfl | rfl
  ·simp only [ct3];refine rgq fw [0,3,9,10,11,12] [] ?_;refine AW_then fun K2 hK2=>?_;refine AW_tt rfl ?_;refine AW_skip (hK2 _ ?_);refine AW_then fun K3 hK3=>?_;refine AW_block ?_;refine rgq fw [0,3,5,9,10,11] [] ?_;refine rgq fw [0,3,9,10,11] [] ?_;refine rgq fw [0,3,9,10,11,20] [] ?_;refine AW_ff rfl ?_;refine AW_skip (hK3 _ ?_);refine AW_re (tyOf_good _) fun K' hK'=>?_;(repeat (refine sxn fun K2 hK2=>?_;simp [dNum];(repeat (refine ⟨by omega,?_⟩));refine hK2 _ ?_;clear hK2 K2));refine sxz (hK' _ ?_);clear hK' K';(try simp only [thn,inb]);refine Again.mk 1 (by omega) (by omega) ?_;refine Imp.to' (fun _ _=>trivial) (by simp [dNum,ct3]) (by simp [dNum,ct3])
  ·simp only [ct3];refine rgq fw [0,3,9,10,11,12] [] ?_;refine AW_then fun K2 hK2=>?_;refine AW_tt rfl ?_;refine AW_skip (hK2 _ ?_);refine AW_then fun K3 hK3=>?_;refine AW_block ?_;refine rgq fw [0,3,5,9,10,11] [] ?_;refine rgq fw [0,3,9,10,11] [] ?_;refine rgq fw [0,3,9,10,11,20] [] ?_;refine AW_ff rfl ?_;refine AW_skip (hK3 _ ?_);refine AW_re (tyOf_good _) fun K' hK'=>?_;(repeat (refine sxn fun K2 hK2=>?_;simp [dNum];(repeat (refine ⟨by omega,?_⟩));refine hK2 _ ?_;clear hK2 K2));refine sxz (hK' _ ?_);clear hK' K';(try simp only [thn,inb]);refine Again.mk 2 (by omega) (by omega) ?_;refine Imp.to' (fun _ _=>trivial) (by simp [dNum,ct3]) (by simp [dNum,ct3])
  ·simp only [ct3];refine rgq fw [0,3,9,10,11,12] [] ?_;refine AW_then fun K2 hK2=>?_;refine AW_ff rfl ?_;refine AW_exit (hK1 _ ?_);refine rgm fw hgr [0,6] [900] ?_;refine AW_then fun K4 hK4=>?_;refine rgq fw [6,25,26,27] [900] ?_;refine AW_for (S:=Nat) (fun n=>n≤2) (fun n=>⟨lst [(6,.own 900 0 (ct3 0 A.length (A.length+B.length) n)),(25,.d (.sl none [[.sl none A],[.sl none B]])),(26,int 2),(27,int n)],hlst [(900,.sl 3 1 (ct3 [] A (A ++ B) n))]⟩) (fun n=>2 - n) 0 ?_ (by omega) ?_
   ·refine Imp.to' (fun _ _=>trivial) (by simp [dNum,ct3]) (by simp [dNum,ct3])
   ·intro n hn
    rcases (by omega:n=0∨n=1∨n=2) with rfl | rfl | rfl
    ·simp only [ct3];refine rgq fw [6,25,26,27,28] [900] ?_;refine AW_then fun K5 hK5=>?_;refine AW_tt rfl ?_;refine AW_skip (hK5 _ ?_);refine AW_then fun K6 hK6=>?_;refine AW_block ?_;refine rgq fw [6,8,25,26,27] [900] ?_
     have qf:=(Aq fw (Aq @hA1 @hA2))
     refine reKv hK6 [6,25,26,27] [900] ?_;refine AW_re (tyOf_good _) fun K' hK'=>?_;(repeat (refine sxn fun K2 hK2=>?_;simp [dNum];(repeat (refine ⟨by omega,?_⟩));refine hK2 _ ?_;clear hK2 K2));refine sxz (hK' _ ?_);clear hK' K';(try simp only [thn,inb]);refine Again.mk 1 (by omega) (by omega) ?_;refine Imp.to' (fun _ _=>trivial) (by simp [dNum,ct3]) (by simp [dNum,ct3])
    ·simp only [ct3];refine rgq fw [6,25,26,27,28] [900] ?_;refine AW_then fun K5 hK5=>?_;refine AW_tt rfl ?_;refine AW_skip (hK5 _ ?_);refine AW_then fun K6 hK6=>?_;refine AW_block ?_;refine rgq fw [6,8,25,26,27] [900] ?_;refine AW_re (tyOf_good _) fun K' hK'=>?_;(repeat (refine sxn fun K2 hK2=>?_;simp [dNum,hB1,hB2,List.take_of_length_le];(repeat (refine ⟨by omega,?_⟩));refine hK2 _ ?_;clear hK2 K2));refine sxz (hK' _ ?_);clear hK' K';refine hK6 _ (AW.norm [6,25,26,27] [900] (fun _ _=>trivial) (AW.st (by simp [dNum,hB1,hB2,List.take_of_length_le];rfl) ?_));refine AW_re (tyOf_good _) fun K' hK'=>?_;(repeat (refine sxn fun K2 hK2=>?_;simp [dNum];(repeat (refine ⟨by omega,?_⟩));refine hK2 _ ?_;clear hK2 K2));refine sxz (hK' _ ?_);clear hK' K';(try simp only [thn,inb]);refine Again.mk 2 (by omega) (by omega) ?_;refine Imp.to' (fun _ _=>trivial) (by simp [dNum,ct3]) (by simp [dNum,ct3])
    ·simp only [ct3];refine rgq fw [6,25,26,27,28] [900] ?_;refine AW_then fun K5 hK5=>?_;refine AW_ff rfl ?_;refine AW_exit (hK4 _ ?_);refine AW.imp (Imp.freeze 900 trivial) ?_;refine AW.st (by simp [dNum];rfl) ?_;refine rgq fw [2] [] ?_;refine AW_ret ?_;simp [D.le,D.le.go,takeMap,dNum,D.le_refl,D.leGo_refl]
end Go.Proofs.YtpboiimemmfkiaaGreatDoor
namespace Go.Proofs.YtpboiimemmfkiaaGreatDoor
open Go.Av
theorem AW0_then {P:Program} {Mv X:Nat→Prop} {G:Glob} {n s:Nat} {x y:Code} {Q:Exit→St→Prop} {σ:St} (h:∀ K:St→Prop,(∀ σ',AW0 P Mv X G n s y Q σ'→K σ')→∀ X' ds,AW P Mv X' G ⟨n,ds,none⟩ x (thn K Q) σ):AW0 P Mv X G n s (.seq x y) Q σ:=
 AW0_seq (AW0_of (h _ fun _ h=>h))
theorem AW0_thn {P:Program} {Mv X:Nat→Prop} {G:Glob} {n s:Nat} {x y:Code} {Q:Exit→St→Prop} {σ:St} (h:∀ K:St→Prop,(∀ σ',AW0 P Mv X G n s y Q σ'→K σ')→AW0 P Mv X G n s x (thn K Q) σ):AW0 P Mv X G n s (.seq x y) Q σ:=
 AW0_seq (h _ fun _ h=>h)
theorem round_assign {P:Program} {Mv X:Nat→Prop} {G:Glob} {N:Fr} {x y:Code} {Q:Exit→St→Prop} {σ:St} (h:∀ K:St→Prop,(∀ σ',AW P Mv X G N y Q σ'→K σ')→AW P Mv X G N x (thn K (fun _ _=>False)) σ):AW P Mv X G N x (thn (AW P Mv X G N y Q) (fun _ _=>False)) σ:=
 h _ fun _ h=>h
section
variable {P:Program} {X:Nat→Prop} {G:Glob} {n s:Nat} {σ τ τ':St} {p:Prop}
theorem AW0.norm (l ns:List Nat) {c:Code} {Q:Exit→St→Prop} (h:AW0 P (fun _=>True) X G n s c Q (σ.norm l ns)):AW0 P (fun _=>True) X G n s c Q σ:=AW0.imp (fun X' ds=>Imp.norm l ns fun _ _=>trivial) h
theorem AW0.st {c:Code} {Q:Exit→St→Prop} (h:σ=τ) (h':AW0 P (fun _=>True) X G n s c Q τ):AW0 P (fun _=>True) X G n s c Q σ:=h ▸ h'
theorem rz0 (q:p) (l ns:List Nat) {id:Nat} {ops:Array Oper} {y:Code} {Q:Exit→St→Prop} (k:AW0 P (fun _=>True) X G n s y Q τ')
  (h:p→∀ (X':Nat→Prop) (ds:List Deferred) (K':St→Prop),K' τ→sxf P (tyOf P) (fun _=>True) X' G ⟨n,ds,none⟩ ops K' ops.toList σ:=by
   intro q X' ds K' hK'
   repeat (refine sxn fun K2 hK2=>?_;simp [q];(repeat (refine ⟨by omega,?_⟩));refine hK2 _ ?_;clear hK2 K2)
   exact sxz hK')
  (hn:p→τ.norm l ns=τ':=by intro q;simp [q];rfl):AW0 P (fun _=>True) X G n s (.seq (.region id ops false) y) Q σ:=
 AW0_seq (AW0_of fun X' ds=>AW_re (tyOf_good _) fun K hK=>h q X' ds K (hK _ (AW0.norm l ns (hn q ▸ k))))
theorem rz0m (q:p) {fx:List Nat} {g:FuncId} {xs:List AV} {rows1 rows2:List (Nat×Row)} {yv:AV} (hc:MC P G fx g xs (hlst rows1) yv (hlst rows2)) (l ns:List Nat) {id:Nat} {ops:Array Oper} {y:Code} {Q:Exit→St→Prop} (k:AW0 P (fun _=>True) X G n s y Q τ')
  (h:p→MC P G fx g xs (hlst rows1) yv (hlst rows2)→∀ (X':Nat→Prop) (ds:List Deferred) (K':St→Prop),K' τ→sxf P (tyOf P) (fun _=>True) X' G ⟨n,ds,none⟩ ops K' ops.toList σ:=by
   intro q hc X' ds K' hK'
   (repeat (refine sxn fun K2 hK2=>?_;simp [q];(repeat (refine ⟨by omega,?_⟩));refine hK2 _ ?_;clear hK2 K2));refine sxn fun K2 hK2=>?_;simp [q];refine callK.mc hc (by simp [q]) (by simp [q]) (by simp [q]) (by simp [q]) ?_;simp [q];refine hK2 _ ?_;clear hK2 K2;repeat (refine sxn fun K2 hK2=>?_;simp [q];(repeat (refine ⟨by omega,?_⟩));refine hK2 _ ?_;clear hK2 K2)
   exact sxz hK')
  (hn:p→τ.norm l ns=τ':=by intro q;simp [q];rfl):AW0 P (fun _=>True) X G n s (.seq (.region id ops false) y) Q σ:=
 AW0_seq (AW0_of fun X' ds=>AW_re (tyOf_good _) fun K hK=>h q hc X' ds K (hK _ (AW0.norm l ns (hn q ▸ k))))
end
def nil2:D:=.sl (some false) []
def pHp (NN RR NA RA:List (List D)) (pl:Int):Heap:=hlst [(2,.box 37 [.d nil2,.d nil2]),(3,.box 39 [.d (.v .nilIface)]),(4,.box 37 [.own 801 0 NN.length,.own 802 0 RR.length]),(5,.box 51 [.own 803 0 NA.length]),(6,.box 51 [.own 804 0 RA.length]),(7,.box 3 [int pl]),(801,.sl 124 3 NN),(802,.sl 153 3 RR),(803,.sl 3 1 NA),(804,.sl 3 1 RA)]
theorem dC_one (c:Option Ex):(dC c).one=true:=by
 cases c with
 | none=>rfl
 | some e=>obtain ⟨a,b,h⟩:=dE_ifc e;rw [dC,h];rfl
theorem getD_nat (l:List Nat) (i:Nat) (h:i < l.length):(dPls l)[i]? = some [dNum ((l.getD i 0:Nat):Int)]:=by
 rw [List.getD_eq_getElem?_getD];unfold dPls;simp [h]
theorem check_lt {p:PgP} {c:Int} {i:Nat} (h:checkP p=some (c,some i)):i < p.names.length+p.rungs.length:=by
 unfold checkP at h
 split at h
 ·cases h
 ·split at h
  ·rename_i e k hf
   have:=firstBad_lt hf
   simp only [Option.some.injEq,Prod.mk.injEq] at h
   omega
  ·split at h
   ·rename_i e k hf
    have:=firstBad_lt hf
    simp only [Option.some.injEq,Prod.mk.injEq] at h
    omega
   ·cases h
theorem rungP_bad {k:Int} {nm hd rest:Tx} {c:Int} {off:Nat} (h:rungP k nm hd rest = .bad c off):off≤hd.length+1+rest.length:=by
 unfold rungP at h
 split at h
 ·rename_i c' o hp
  simp only [LnR.bad.injEq] at h
  cases o with
  | none=>simp at h;omega
  | some o=>
   have:=parse_at hp
   simp at h;omega
 ·cases h
theorem line_bad {s:Tx} {c:Int} {off:Nat} (h:lineP s = .bad c off):off≤2 * s.length+1:=by
 have hle:=cutAt_le 61 s
 have nb:∀ l,nameL l≠.bad c off:=fun l=>by
  match l with
  | []=>simp [nameL]
  | [a]=>simp [nameL,nameP]
  | [a,b]=>simp only [nameL,nameP];split<;>simp
  | [a,b,c]=>simp only [nameL,nameP];split<;>(try split)<;>simp
  | a :: b :: c :: d :: l=>simp [nameL,nameP]
 unfold lineP at h
 split at h
 ·have h2:off≤(cutAt 61 s).1.length+1+(cutAt 61 s).2.length:=by
   match hw:wordsT (cutAt 61 s).1,h with
   | [a],h=>exact rungP_bad h
   | [a,b],h=>
    simp only [rungL] at h
    split at h
    ·cases h
    ·exact rungP_bad h
  omega
 ·exact absurd h (nb _)
theorem lxq:(⟨#[]⟩:ByteArray)=bs []:=rfl
theorem lxq32:(⟨#[32]⟩:ByteArray)=bs [32]:=rfl
set_option maxRecDepth 100000 in
set_option maxHeartbeats 32000000 in
theorem lparse_spec (G:Glob) (hM:HasMax G) (hP:HasP10 G) (hG:HasErr G) {es er:Value} (hE:HasNE G es er) (t:Tx):PureC Tryz.prog G 99 [dS t] (.tup [dPg (parseP t).2,dErr (parseP t).1]):=by
 refine PureC.of_body0 (tyOf_good _) Tryz.func99 rfl rfl (rs:=[.cell 2 37,.cell 3 39]) Tryz.results99 (by simp [Tryz.ntmps99]) fun X s0=>?_;simp only [Tryz.ntmps99,List.map]
 have fw:=(Aq @dNum.eq_1 @dS.eq_1)
 refine rz0 fw [0,2,3] [2,3] ?_;refine AW0_then fun K1 hK1 X' ds=>?_
 by_cases ht:20000 < t.length
 ·have ht1:(t.length:Int) > 20000:=by omega
  have hp:parseP t=(some (4,none),⟨[],[]⟩):=by unfold parseP;rw [if_pos ht]
  have qf:=(Aq fw (Aq @bs_size @ht1))
  refine rgqv [0,2,3,19] [2,3] ?_;refine AW_cond true (by simp [ht1]) (fun _=>?_) (fun h=>by cases h);refine rgq fw [2,3] [2,3] ?_;refine AW_ret ?_;simp [D.le,D.le.go,takeMap,dNum,dS,hp,dPg,cPg,dNms,dRgs,dErr]
 have ht1:¬ (t.length:Int) > 20000:=by omega
 have hseq:=splitSeq_mc2 G t
 have qf:=(Aq fw (Aq @bs_size @ht1))
 refine rgqv [0,2,3,19] [2,3] ?_;refine AW_cond false (by simp [ht1]) (fun h=>by cases h) (fun _=>?_);refine AW_skip (hK1 _ ?_);refine rz0 fw [0,2,3,4] [2,3,4] ?_;refine rz0 fw [0,2,3,4,5,6] [2,3,4,5,6] ?_;refine rz0 fw [0,2,3,4,5,6,7] [2,3,4,5,6,7] ?_;refine AW0_thn fun K5 hK5=>?_;refine AW0.imp (fun X' ds=>Imp.adoptCell 4 0 801 124 3 rfl rfl rfl) ?_;refine AW0.st (by simp;rfl) ?_;refine AW0.imp (fun X' ds=>Imp.adoptCell 4 1 802 153 3 rfl rfl rfl) ?_;refine AW0.st (by simp;rfl) ?_;refine AW0.imp (fun X' ds=>Imp.adoptCell 5 0 803 3 1 rfl rfl rfl) ?_;refine AW0.st (by simp;rfl) ?_;refine AW0.imp (fun X' ds=>Imp.adoptCell 6 0 804 3 1 rfl rfl rfl) ?_;refine AW0.st (by simp;rfl) ?_;simp only [seqRows,seqFn,dS,dNum] at hseq;refine rz0m (Aq @lxs10 fw) hseq [2,3,4,5,6,7,23] [2,3,4,5,6,7,511,512,513,801,802,803,804] ?_;refine AW0_block ?_
 obtain ⟨l,hl⟩:∃ l,l=cutT 10 t:=⟨_,rfl⟩
 have hllen:=cutT_len 10 t
 rw [← hl] at hllen
 obtain ⟨inv,hinvD⟩:∃ f:Nat→Heap,f=fun k=>match prK l k with
  | .inl _=>hno
  | .inr s=>pHp (s.names.map cNm) (s.rungs.map cRg) (dPls s.nAt) (dPls s.rAt) (placeK l k):=⟨_,rfl⟩
 have hinv:∀ k s,prK l k = .inr s→inv k=pHp (s.names.map cNm) (s.rungs.map cRg) (dPls s.nAt) (dPls s.rAt) (placeK l k):=fun k s h=>by rw [hinvD];dsimp only;rw [h]
 refine AW0_rangeFunc (l.map fun s=>.string (bs s)) [511,512,513] [2,3,4,5,6,7] (lst [(2,.ref 2 0 0),(3,.ref 3 0 0),(4,.ref 4 0 0),(5,.ref 5 0 0),(6,.ref 6 0 0),(7,.ref 7 0 0)]) inv (fun k=>∃ s,prK l k = .inr s) ⟨prS0,rfl⟩ (gf:=260) (caps:=[.ref 512 0 0,.ref 511 0 0,.ref 513 0 0]) (by simp) (Fun.of Tryz.func260 rfl rfl) (by decide) ?hIt ?he1 ?hH (fun _ _=>trivial) ?hfx ?round ?done
 case hIt=>
  intro w X μ lb hs hgl hsz hlr
  rw [hl];refine seq_iter G hM t (by omega) w X μ lb ?_ hgl hsz ?_
  ·simpa [seqRows,dS,dNum] using hs
  ·intro i u x hu hx
   have h:=hlr i u x hu hx
   match i,hx with
   | 0,hx=>obtain rfl:=Option.some.inj hx;exact h
   | 1,hx=>obtain rfl:=Option.some.inj hx;exact h
   | 2,hx=>obtain rfl:=Option.some.inj hx;exact h
 case he1=>
  intro i x hx
  have h:=lst_mem hx
  simp only [List.mem_cons,List.not_mem_nil,or_false,Prod.mk.injEq] at h
  rcases h with ⟨rfl,rfl⟩ | ⟨rfl,rfl⟩ | ⟨rfl,rfl⟩ | ⟨rfl,rfl⟩ | ⟨rfl,rfl⟩ | ⟨rfl,rfl⟩<;>exact ⟨rfl,_,rfl,rfl⟩
 case hH=>
  rw [hinv 0 prS0 rfl];simp [pHp,prS0,dPls,placeK_zero,nil2]
  try rfl
 case hfx=>
  intro q h
  simp at h ⊢
  omega
 case done=>
  rintro ⟨s,hs⟩
  rw [List.length_map] at hs ⊢
  have hpe:=parseP_end (s:=s) (by omega) (hl ▸ hs)
  have hok:=prOk_k (t:=t) (by omega) (Nat.le_refl _) (hl ▸ hs)
  have hsm:=prOk_small hok (by rw [← hl];omega)
  have hchk:=ladderCheck_spec G ⟨s.names,s.rungs⟩ hsm
  rw [hinv _ _ hs];refine hK5 _ (AW0_of fun X' ds=>?_)
  obtain ⟨hnl,hrl,hnm,_,_⟩:=hok
  rw [← hl] at hnm
  have hplace:∀ c i,checkP ⟨s.names,s.rungs⟩=some (c,some i)→i < (s.nAt ++ s.rAt).length:=fun c i h=>by have:=check_lt h;simp at this ⊢;omega
  unfold pHp;refine AW.imp (Imp.freeze 801 trivial) ?_;refine AW.st (by simp [dNum,dS];rfl) ?_;refine AW.imp (Imp.freeze 802 trivial) ?_;refine AW.st (by simp [dNum,dS];rfl) ?_;refine AW.imp (Imp.freeze 803 trivial) ?_;refine AW.st (by simp [dNum,dS];rfl) ?_;refine AW.imp (Imp.freeze 804 trivial) ?_;refine AW.st (by simp [dNum,dS];rfl) ?_
  have hcc:=concat_spec G s.nAt s.rAt (by omega) (by omega)
  have hgd:=fun i h=>getD_nat (s.nAt ++ s.rAt) i h
  simp only [dPg,cPg,dNms,dRgs] at hchk;generalize hNN:s.names.map cNm=NN at hchk ⊢;generalize hRR:s.rungs.map cRg=RR at hchk ⊢;generalize dPls s.nAt=NA at hcc ⊢;generalize dPls s.rAt=RA at hcc ⊢;generalize dPls (s.nAt ++ s.rAt)=CC at hcc hgd
  cases hck:checkP ⟨s.names,s.rungs⟩ with
  | none=>
   rw [hck] at hchk hpe;simp only [dErr] at hchk;refine rgc fw hchk [2,3,4,5,6,14] [2,3,4,5,6,7] ?_;refine AW_then fun K7 hK7=>?_;refine rgq (Aq fw (Aq @pairA.eq_1 (Aq @pairA.eq_2 @assertA.eq_1))) [2,3,4,5,6,14,15,16] [2,3,4,5,6,7] ?_;refine rgq fw [2,3,4,5,6,14,15,108] [2,3,4,5,6,7] ?_;refine AW_ff rfl ?_;refine AW_skip (hK7 _ ?_);refine AW_then fun K8 hK8=>?_;refine rgq fw [2,3,4,14,127] [2,3,4,5,6,7] ?_;refine AW_ff rfl ?_;refine AW_skip (hK8 _ ?_);refine rgq fw [2,3] [2,3,4,5,6,7] ?_;refine AW_ret ?_;simp [D.le,D.le.go,takeMap,dNum,dS,hpe,dPg,cPg,dNms,dRgs,dErr,hNN,hRR,D.le_refl,D.leGo_refl]
  | some ci=>
   obtain ⟨c,i⟩:=ci
   rw [hck] at hchk hpe
   cases i with
   | none=>
    simp only [dErr] at hchk;refine rgc fw hchk [2,3,4,5,6,14] [2,3,4,5,6,7] ?_;refine AW_then fun K7 hK7=>?_;refine rgq (Aq fw (Aq @pairA.eq_1 (Aq @pairA.eq_2 @assertA.eq_1))) [2,3,4,5,6,14,15,16] [2,3,4,5,6,7] ?_;refine rgq fw [2,3,4,5,6,14,15,108] [2,3,4,5,6,7] ?_;refine AW_ff rfl ?_;refine AW_skip (hK7 _ ?_);refine AW_then fun K8 hK8=>?_;refine rgq fw [2,3,4,14,127] [2,3,4,5,6,7] ?_;refine AW_tt rfl ?_;refine rgq fw [2,3] [2,3,4,5,6,7] ?_;refine AW_ret ?_;simp [D.le,D.le.go,takeMap,dNum,dS,hpe,dPg,cPg,dNms,dRgs,dErr]
   | some i=>
    have hi:=hplace c i hck
    have hgi:=hgd i hi
    dsimp only at hpe
    obtain ⟨hil,hgv⟩:=List.getElem?_eq_some_iff.1 hgi
    simp only [dErr] at hchk;simp only [dNum] at hgv;clear hgi;generalize (s.nAt ++ s.rAt).getD i 0=pl at hgv hpe;refine rgc fw hchk [2,3,4,5,6,14] [2,3,4,5,6,7] ?_;refine AW_then fun K7 hK7=>?_;refine rgq (Aq fw (Aq @pairA.eq_1 (Aq @pairA.eq_2 @assertA.eq_1))) [2,3,4,5,6,14,15,16] [2,3,4,5,6,7] ?_;refine rgq fw [2,3,4,5,6,14,15,108] [2,3,4,5,6,7] ?_;refine AW_tt rfl ?_;refine AW_rbe (tyOf_good _) (by kernel_rfl) ([6,15]) (List.range 18) (by kernel_rfl) fun K' hK'=>?_;(repeat (refine sxb_nextO rfl fun K2 hK2=>?_;simp [dNum,dS,hil,hgv];(repeat (refine ⟨by omega,?_⟩));refine hK2 _ ?_;clear hK2 K2));refine sxb_nextO rfl fun K2 hK2=>?_;simp [dNum,dS,hil,hgv];refine callD.mk (hcc) (by simp;rfl) (by simp;rfl) (by first | exact D.leGo_refl _ | simp [takeMap,List.map_map,Function.comp_def,D.le,D.le.go,D.le_refl,D.leGo_refl,dNum,dS,hil,hgv]) (by simp) ?_;refine hK2 _ ?_;clear hK2 K2;simp only [putd,upd_lst];(repeat (refine sxb_nextO rfl fun K2 hK2=>?_;simp [dNum,dS,hil,hgv];(repeat (refine ⟨by omega,?_⟩));refine hK2 _ ?_;clear hK2 K2));refine sxb_nilO (hK' _ ?_);clear hK' K';refine hK7 _ (AW.norm [2,3,4,14] [2,3,4,5,6,7] (fun _ _=>trivial) (AW.st (by simp [dNum,dS,hil,hgv];rfl) ?_));refine AW_then fun K8 hK8=>?_;refine rgq fw [2,3,4,14,127] [2,3,4,5,6,7] ?_;refine AW_tt rfl ?_;refine rgq fw [2,3] [2,3,4,5,6,7] ?_;refine AW_ret ?_;simp [D.le,D.le.go,takeMap,dNum,dS,hpe,dPg,cPg,dNms,dRgs,dErr]
 case round=>
  rintro X' L k hk ⟨s,hs⟩
  have hk':k < l.length:=by simpa using hk
  obtain ⟨ln,hln⟩:∃ ln,ln=l[k]:=⟨_,rfl⟩
  rw [hinv k s hs,show (l.map fun s=>Value.string (bs s))[k] = .string (bs ln) by simp [hln]]
  have hpb:placeK l k+ln.length≤t.length:=by rw [hln];subst hl;exact piece_le hk'
  have hpl:(placeK l (k+1):Int)=(placeK l k:Int)+((ln.length:Int)+1):=by rw [placeK_succ hk',← hln];omega
  have hok:=prOk_k (t:=t) (by omega) (Nat.le_of_lt (hl ▸ hk')) (hl ▸ hs)
  have hnx:∀ s',stepS s (placeK l k) ln = .inr s'→prK l (k+1) = .inr s':=fun s' h=>prK_next hk' hs (hln ▸ h)
  have herr:∀ c i,stepS s (placeK l k) ln = .inl (c,i)→parseP t=(some (c,some i),⟨[],[]⟩):=fun c i h=>parseP_bad (by omega) (hl ▸ prK_err hk' hs (hln ▸ h))
  obtain ⟨hnl,hrl,hnm,_,_⟩:=hok
  have htr:=trim1_spec G ln (by omega)
  have htw:=trim_words ln
  have hline:=fun h=>line_spec G hM hP hG hE ln (by omega) h
  generalize hpk:placeK l k=pk at *
  have hN2:(s.names.map cNm).length=s.names.length:=by simp
  have hR2:(s.rungs.map cRg).length=s.rungs.length:=by simp
  have hNA2:(dPls s.nAt).length=s.names.length:=by simp [dPls,hnl]
  have hRA2:(dPls s.rAt).length=s.rungs.length:=by simp [dPls,hrl]
  generalize hNN:s.names.map cNm=NN at *;generalize hRR:s.rungs.map cRg=RR at *;generalize hNA:dPls s.nAt=NA at *;generalize hRA:dPls s.rAt=RA at *;unfold pHp;refine AW.st (by simp;rfl) ?_;refine round_assign fun K7 hK7=>?_;refine reK fw hK7 [2,3,4,5,6,7,8] [2,3,4,5,6,7,801,802,803,804] ?_;refine AW_block ?_;refine AW_then fun K8 hK8=>?_;simp only [dS] at htr
  by_cases h0:wordsT ln=[]
  ·have hz:=htw.2 h0
   rw [hz] at htr
   have hst:stepS s pk ln = .inr s:=by unfold stepS;rw [if_pos h0]
   have hn:=hnx _ hst
   refine rg [2,3,4,5,6,7,8,27] [2,3,4,5,6,7,801,802,803,804] (notIn_ok rfl) fun K' hK'=>?_;(repeat (refine sxn fun K2 hK2=>?_;simp [dNum,dS,lxq,lxq32,binS,bs_list];(repeat (refine ⟨by omega,?_⟩));refine hK2 _ ?_;clear hK2 K2));refine sxn fun K2 hK2=>?_;simp [dNum,dS,lxq,lxq32,binS,bs_list];refine callK.data (htr) (by simp;rfl) (by first | exact D.leGo_refl _ | simp [takeMap,List.map_map,Function.comp_def,D.le,D.le.go,D.le_refl,D.leGo_refl,dNum,dS,lxq,lxq32,binS,bs_list]) ?_;refine hK2 _ ?_;clear hK2 K2;simp only [putd,upd_lst];(repeat (refine sxn fun K2 hK2=>?_;simp [dNum,dS,lxq,lxq32,binS,bs_list];(repeat (refine ⟨by omega,?_⟩));refine hK2 _ ?_;clear hK2 K2));refine sxz (hK' _ (AW.st (by simp [dNum,dS,lxq,lxq32,binS,bs_list];rfl) ?_));clear hK' K';refine AW_ff rfl ?_;refine AW_skip (hK8 _ ?_);refine AW_re (tyOf_good _) fun K' hK'=>?_;(repeat (refine sxn fun K2 hK2=>?_;simp [dNum,dS,bs_size];(repeat (refine ⟨by omega,?_⟩));refine hK2 _ ?_;clear hK2 K2));refine sxz (hK' _ ?_);clear hK' K';(try simp only [thn,inb]);refine And.intro ⟨s,hn⟩ ?_;rw [hinv _ _ hn,hpl,hNN,hRR,hNA,hRA];unfold pHp;refine (show Imp _ _ _ _ _ ⟨lst [],hlst _⟩ from ?_);refine Imp.to' (notIn_ok rfl) (by simp [dNum,dS,hpl]) (by simp [dNum,dS,hpl])
  have hz:Lib.trimB ln 32≠[]:=fun h=>h0 (htw.1 h)
  have hst0:stepS s pk ln=match lineP ln with
   | .form=>.inl (3,pk)
   | .bad c off=>.inl (c,pk+off)
   | .name n=>if s.rungs=[] then .inr ⟨s.names ++ [n],s.nAt ++ [pk],s.rungs,s.rAt⟩ else .inl (3,pk)
   | .rung r=>.inr ⟨s.names,s.nAt,s.rungs ++ [r],s.rAt ++ [pk]⟩:=by unfold stepS;rw [if_neg h0];cases lineP ln<;>rfl
  have hlp:=hline h0
  simp only [dS] at hlp;generalize Lib.trimB ln 32=tz at htr hz;refine rg [2,3,4,5,6,7,8,27] [2,3,4,5,6,7,801,802,803,804] (notIn_ok rfl) fun K' hK'=>?_;(repeat (refine sxn fun K2 hK2=>?_;simp [dNum,dS,lxq,lxq32,binS,bs_list,hz];(repeat (refine ⟨by omega,?_⟩));refine hK2 _ ?_;clear hK2 K2));refine sxn fun K2 hK2=>?_;simp [dNum,dS,lxq,lxq32,binS,bs_list,hz];refine callK.data (htr) (by simp;rfl) (by first | exact D.leGo_refl _ | simp [takeMap,List.map_map,Function.comp_def,D.le,D.le.go,D.le_refl,D.leGo_refl,dNum,dS,lxq,lxq32,binS,bs_list,hz]) ?_;refine hK2 _ ?_;clear hK2 K2;simp only [putd,upd_lst];(repeat (refine sxn fun K2 hK2=>?_;simp [dNum,dS,lxq,lxq32,binS,bs_list,hz];(repeat (refine ⟨by omega,?_⟩));refine hK2 _ ?_;clear hK2 K2));refine sxz (hK' _ (AW.st (by simp [dNum,dS,lxq,lxq32,binS,bs_list,hz];rfl) ?_));clear hK' K';refine AW_cond true (by simp [hz]) (fun _=>?_) (fun h=>by cases h)
  have hlb:=fun c off=>line_bad (s:=ln) (c:=c) (off:=off)
  cases hlk:lineP ln with
  | form=>
   rw [hlk] at hlp hst0
   dsimp only at hst0
   simp only [dLine] at hlp
   have hp:=herr _ _ hst0
   refine rgc fw hlp [2,3,4,5,6,7,8,9,10,11] [2,3,4,5,6,7,801,802,803,804] ?_;refine AW_then fun K9 hK9=>?_;refine rgq (Aq fw (Aq @pairA.eq_1 (Aq @pairA.eq_2 @assertA.eq_1))) [2,3,4,5,6,7,8,9,10,11,12,13] [2,3,4,5,6,7,801,802,803,804] ?_;refine rgq fw [2,3,4,5,6,7,8,9,10,11,12,39] [2,3,4,5,6,7,801,802,803,804] ?_;refine AW_ff rfl ?_;refine AW_skip (hK9 _ ?_);refine AW_block ?_;refine AW_then fun K10 hK10=>?_;refine rgq fw [2,3,4,5,6,7,8,9,10,66] [2,3,4,5,6,7,801,802,803,804] ?_;refine AW_tt rfl ?_;refine AW_skip (hK10 _ ?_);refine AW_tt rfl ?_;refine AW_rQ (tyOf_good _) (by kernel_rfl) ([3]) ([(1,7),(5,2),(6,3)]) (List.range 7) [2,3] [2,3,4,5,6,7,801,802,803,804] (notIn_ok rfl) (by kernel_rfl) fun K' hK'=>?_;(repeat (refine sxQ_nextO rfl fun K2 hK2=>?_;simp [dNum,dS];(repeat (refine ⟨by omega,?_⟩));refine hK2 _ ?_;clear hK2 K2));refine sxQ_nilO (hK' _ ?_);refine AW.st (by simp [dNum,dS];rfl) ?_;clear hK' K';refine AW_ret (Exists.intro _ (And.intro (Imp.env (by intro i x h;cases h)) ?_));simp [D.le,D.le.go,takeMap,hp,dPg,cPg,dNms,dRgs,dErr,nil2,dNum]
  | bad c off=>
   rw [hlk] at hlp hst0
   dsimp only at hst0
   simp only [dLine] at hlp
   have hp:=herr _ _ hst0
   have ho:=hlb c off hlk
   have hcs:((pk+off:Nat):Int)=(pk:Int)+(off:Int):=by omega
   refine rgc fw hlp [2,3,4,5,6,7,8,9,10,11] [2,3,4,5,6,7,801,802,803,804] ?_;refine AW_then fun K9 hK9=>?_;refine rgq (Aq fw (Aq @pairA.eq_1 (Aq @pairA.eq_2 @assertA.eq_1))) [2,3,4,5,6,7,8,9,10,11,12,13] [2,3,4,5,6,7,801,802,803,804] ?_;refine rgq fw [2,3,4,5,6,7,8,9,10,11,12,39] [2,3,4,5,6,7,801,802,803,804] ?_;refine AW_tt rfl ?_;refine AW_rQ (tyOf_good _) (by kernel_rfl) ([12]) ([(4,999),(5,7),(9,999),(14,2),(15,3)]) (List.range 16) [2,3] [2,3,4,5,6,7,801,802,803,804] (notIn_ok rfl) (by kernel_rfl) fun K' hK'=>?_;(repeat (refine sxQ_nextO rfl fun K2 hK2=>?_;simp [dNum,dS];(repeat (refine ⟨by omega,?_⟩));refine hK2 _ ?_;clear hK2 K2));refine sxQ_nilO (hK' _ ?_);refine AW.st (by simp [dNum,dS];rfl) ?_;clear hK' K';refine AW_ret (Exists.intro _ (And.intro (Imp.env (by intro i x h;cases h)) ?_));simp [D.le,D.le.go,takeMap,hp,dPg,cPg,dNms,dRgs,dErr,nil2,dNum,hcs]
  | name n=>
   rw [hlk] at hlp hst0
   dsimp only at hst0
   simp only [dLine] at hlp
   have hcn:cNm n=[.v (.string (bs n.name)),.v (.int .i64 n.kind),.v (.int .i64 n.count)]:=rfl
   have hNs:(s.names ++ [n]).map cNm=NN ++ [cNm n]:=by rw [List.map_append,hNN];rfl
   have hAs:dPls (s.nAt ++ [pk])=NA ++ [[.v (.int .i64 pk)]]:=by rw [← hNA];unfold dPls;rw [List.map_append];rfl
   generalize bs n.name=nm at hcn;generalize n.kind=kd at hcn;generalize n.count=ct at hcn;rw [hcn] at hlp hNs;refine rgc fw hlp [2,3,4,5,6,7,8,9,10,11] [2,3,4,5,6,7,801,802,803,804] ?_;refine AW_then fun K9 hK9=>?_;refine rgq (Aq fw (Aq @pairA.eq_1 (Aq @pairA.eq_2 @assertA.eq_1))) [2,3,4,5,6,7,8,9,10,11,12,13] [2,3,4,5,6,7,801,802,803,804] ?_;refine rgq fw [2,3,4,5,6,7,8,9,10,11,12,39] [2,3,4,5,6,7,801,802,803,804] ?_;refine AW_ff rfl ?_;refine AW_skip (hK9 _ ?_);refine AW_block ?_;refine AW_then fun K10 hK10=>?_;refine rgq fw [2,3,4,5,6,7,8,9,10,66] [2,3,4,5,6,7,801,802,803,804] ?_;refine AW_ff rfl ?_
   by_cases hr0:s.rungs=[]
   ·rw [if_pos hr0] at hst0
    have hn:=hnx _ hst0
    have hra0:RA=[]:=List.length_eq_zero_iff.1 (by rw [hRA2,hr0];rfl)
    subst hra0;refine reK fw hK10 [2,3,4,5,6,7,8,9,10,66] [2,3,4,5,6,7,801,802,803,804] ?_;refine AW_ff rfl ?_;refine rgq fw [2,3,4,5,6,7,8,9,10,81] [2,3,4,5,6,7,801,802,803,804] ?_;refine AW_ff rfl ?_;refine AW_rle (tyOf_good _) (by kernel_rfl) ([(6,(801,59)),(10,(803,63))]) ([(7,[801]),(8,[801]),(9,[801]),(11,[803])]) ([0,1,2,3,4,7,8,5,9,6,11,10,12,13]) (by kernel_rfl) fun K' hK'=>?_;(repeat (refine sxl_nextO rfl fun K2 hK2=>?_;simp [dNum,dS,List.take_of_length_le];(repeat (refine ⟨by omega,?_⟩));refine hK2 _ ?_;clear hK2 K2));refine sxl_nilO (hK' _ ?_);clear hK' K';refine hK8 _ (AW.norm [2,3,4,5,6,7,8] [2,3,4,5,6,7,801,802,803,804] (notIn_ok rfl) (AW.st (by simp [dNum,dS,List.take_of_length_le];rfl) ?_));refine AW_re (tyOf_good _) fun K' hK'=>?_;(repeat (refine sxn fun K2 hK2=>?_;simp [dNum,dS,bs_size];(repeat (refine ⟨by omega,?_⟩));refine hK2 _ ?_;clear hK2 K2));refine sxz (hK' _ ?_);clear hK' K';(try simp only [thn,inb]);refine And.intro ⟨_,hn⟩ ?_;rw [hinv _ _ hn,hpl]
    dsimp only
    rw [hNs,hAs,hRR,hRA];unfold pHp;refine (show Imp _ _ _ _ _ ⟨lst [],hlst _⟩ from ?_);refine Imp.to' (notIn_ok rfl) (by simp [dNum,dS,hpl]) (by simp [dNum,dS,hpl])
   ·rw [if_neg hr0] at hst0
    have hp:=herr _ _ hst0
    have hra0:0 < RA.length:=by rw [hRA2];exact List.length_pos_iff.2 hr0
    have qf:=(Aq fw @hra0)
    refine reKv hK10 [2,3,4,5,6,7,8,9,10,66] [2,3,4,5,6,7,801,802,803,804] ?_;refine AW_cond true (by simp [hra0]) (fun _=>?_) (fun h=>by cases h);refine AW_rQ (tyOf_good _) (by kernel_rfl) ([3]) ([(1,7),(5,2),(6,3)]) (List.range 7) [2,3] [2,3,4,5,6,7,801,802,803,804] (notIn_ok rfl) (by kernel_rfl) fun K' hK'=>?_;(repeat (refine sxQ_nextO rfl fun K2 hK2=>?_;simp [dNum,dS];(repeat (refine ⟨by omega,?_⟩));refine hK2 _ ?_;clear hK2 K2));refine sxQ_nilO (hK' _ ?_);refine AW.st (by simp [dNum,dS];rfl) ?_;clear hK' K';refine AW_ret (Exists.intro _ (And.intro (Imp.env (by intro i x h;cases h)) ?_));simp [D.le,D.le.go,takeMap,hp,dPg,cPg,dNms,dRgs,dErr,nil2,dNum]
  | rung r=>
   rw [hlk] at hlp hst0
   dsimp only at hst0
   simp only [dLine] at hlp
   have hn:=hnx _ hst0
   have ho1:=dC_one r.cond
   have hcr:cRg r=[.v (.int .i64 r.kind),.v (.string (bs r.name)),dC r.cond]:=rfl
   have hRs:(s.rungs ++ [r]).map cRg=RR ++ [cRg r]:=by rw [List.map_append,hRR];rfl
   have hAs:dPls (s.rAt ++ [pk])=RA ++ [[.v (.int .i64 pk)]]:=by rw [← hRA];unfold dPls;rw [List.map_append];rfl
   generalize bs r.name=nm at hcr;generalize r.kind=kd at hcr;generalize dC r.cond=dc at hcr ho1;rw [hcr] at hlp hRs;refine rgc fw hlp [2,3,4,5,6,7,8,9,10,11] [2,3,4,5,6,7,801,802,803,804] ?_;refine AW_then fun K9 hK9=>?_;refine rgq (Aq fw (Aq @pairA.eq_1 (Aq @pairA.eq_2 @assertA.eq_1))) [2,3,4,5,6,7,8,9,10,11,12,13] [2,3,4,5,6,7,801,802,803,804] ?_;refine rgq fw [2,3,4,5,6,7,8,9,10,11,12,39] [2,3,4,5,6,7,801,802,803,804] ?_;refine AW_ff rfl ?_;refine AW_skip (hK9 _ ?_);refine AW_block ?_;refine AW_then fun K10 hK10=>?_;refine rgq fw [2,3,4,5,6,7,8,9,10,66] [2,3,4,5,6,7,801,802,803,804] ?_;refine AW_ff rfl ?_;refine reK fw hK10 [2,3,4,5,6,7,8,9,10,66] [2,3,4,5,6,7,801,802,803,804] ?_;refine AW_ff rfl ?_;refine rgq fw [2,3,4,5,6,7,8,9,10,81] [2,3,4,5,6,7,801,802,803,804] ?_;refine AW_tt rfl ?_;refine AW_rle (tyOf_good _) (by kernel_rfl) ([(6,(802,89)),(10,(804,93))]) ([(7,[802]),(8,[802]),(9,[802]),(11,[804])]) ([0,1,2,3,4,7,8,5,9,6,11,10,12,13]) (by kernel_rfl) fun K' hK'=>?_;(repeat (refine sxl_nextO rfl fun K2 hK2=>?_;simp [dNum,dS,List.take_of_length_le,ho1];(repeat (refine ⟨by omega,?_⟩));refine hK2 _ ?_;clear hK2 K2));refine sxl_nilO (hK' _ ?_);clear hK' K';refine hK8 _ (AW.norm [2,3,4,5,6,7,8] [2,3,4,5,6,7,801,802,803,804] (notIn_ok rfl) (AW.st (by simp [dNum,dS,List.take_of_length_le,ho1];rfl) ?_));refine AW_re (tyOf_good _) fun K' hK'=>?_;(repeat (refine sxn fun K2 hK2=>?_;simp [dNum,dS,bs_size];(repeat (refine ⟨by omega,?_⟩));refine hK2 _ ?_;clear hK2 K2));refine sxz (hK' _ ?_);clear hK' K';(try simp only [thn,inb]);refine And.intro ⟨_,hn⟩ ?_;rw [hinv _ _ hn,hpl]
   dsimp only
   rw [hRs,hAs,hNN,hNA];unfold pHp;refine (show Imp _ _ _ _ _ ⟨lst [],hlst _⟩ from ?_);refine Imp.to' (notIn_ok rfl) (by simp [dNum,dS,hpl]) (by simp [dNum,dS,hpl])
end Go.Proofs.YtpboiimemmfkiaaGreatDoor
namespace Go.Proofs.YtpboiimemmfkiaaGreatDoor
open Go.Av
def limT (S P:Int) (n:Nat):Prop:=S < 1∨3 < S∨P < 0∨2 < P∨n < 1∨3 < n
instance (S P:Int) (n:Nat):Decidable (limT S P n):=inferInstanceAs (Decidable (_∨_))
end Go.Proofs.YtpboiimemmfkiaaGreatDoor
namespace Go.Proofs.YtpboiimemmfkiaaGreatDoor
open Go.Av
abbrev dig (n:Nat):List UInt8:=Lib.decDigits n
end Go.Proofs.YtpboiimemmfkiaaGreatDoor
namespace Go.Proofs.YtpboiimemmfkiaaGreatDoor
open Go.Av
def headN (k:Int):List UInt8:=if k=1 then [105,110,112,117,116,32] else if k=2 then [99,111,105,108,32] else if k=3 then [116,105,109,101,114,32] else [99,111,117,110,116,101,114,32]
def cntT (n:NmP):List UInt8:=if 3≤n.kind then 32 :: dig n.count.toNat else []
def nameT (n:NmP):List UInt8:=headN n.kind ++ n.name ++ cntT n ++ [10]
def namesTx (l:List NmP):List UInt8:=l.flatMap nameT
def headG (k:Int):List UInt8:=if k=1 then [] else if k=2 then [115,101,116,32] else if k=3 then [114,101,115,101,116,32] else if k=4 then [114,117,110,32] else if k=5 then [99,111,117,110,116,32] else [122,101,114,111,32]
def condT (c:Option Ex):List UInt8:=match c with
 | none=>[]
 | some e=>wrE e 0
def rungT (r:RgP):List UInt8:=headG r.kind ++ r.name ++ [32,61,32] ++ condT r.cond ++ [10]
def rungsTx (l:List RgP):List UInt8:=l.flatMap rungT
def progT (p:PgP):List UInt8:=namesTx p.names ++ rungsTx p.rungs
end Go.Proofs.YtpboiimemmfkiaaGreatDoor
namespace Go.Proofs.YtpboiimemmfkiaaGreatDoor
open Go.Av
theorem name_chars {s:Tx} (h:nameF s=true):∀ c∈s,c≠10∧c≠32∧c≠61:=by
 unfold nameF at h;simp only [Bool.and_eq_true,decide_eq_true_eq,trim_nil] at h
 obtain ⟨h1,h2,h3,h4,h5,-⟩:=h
 have hs:∀ c:UInt8,cutL.contains c=true→c≠10∧c≠32∧c≠61:=by
  have h:∀ n:Fin 256,cutL.contains (UInt8.ofNat n)=true→UInt8.ofNat n≠10∧UInt8.ofNat n≠32∧UInt8.ofNat n≠61:=by decide +kernel
  intro c
  have:=h ⟨c.toNat,c.toNat_lt⟩
  simpa using this
 exact fun c hc=>hs c (h5 c hc)
theorem joinTail_mem {c:UInt8} {s:Tx}:∀ {l:List Tx},c∈Lib.joinTail s l→c∈s∨∃ x∈l,c∈x
 | [],h=>by simp [Lib.joinTail] at h
 | x :: l,h=>by
  simp only [Lib.joinTail,List.map_cons,List.flatten_cons,List.mem_append] at h
  rcases h with (h | h) | h
  ·exact .inl h
  ·exact .inr ⟨x,by simp,h⟩
  ·rcases joinTail_mem (show c∈Lib.joinTail s l from h) with h | ⟨y,hy,hc⟩
   ·exact .inl h
   ·exact .inr ⟨y,by simp [hy],hc⟩
theorem join_mem {c:UInt8}:∀ {l:List Tx} {s:Tx},c∈Lib.join l s→c∈s∨∃ x∈l,c∈x
 | [],s,h=>by simp [Lib.join,List.intercalate] at h
 | x :: l,s,h=>by
  rw [Lib.join_cons,List.mem_append] at h
  rcases h with h | h
  ·exact .inr ⟨x,by simp,h⟩
  ·rcases joinTail_mem h with h | ⟨y,hy,hc⟩
   ·exact .inl h
   ·exact .inr ⟨y,by simp [hy],hc⟩
theorem wr_line:∀ (n:Nat) (e:Ex),SizeOf.sizeOf e≤n→WfE e→∀ k,(10:UInt8) ∉ wrE e k:=by
 intro n
 induction n with
 | zero=>intro e h;cases e<;>simp at h<;>omega
 | succ n ih=>
  intro e hs hw k hm
  cases e with
  | cst b=>cases b<;>simp [wrE] at hm
  | bit s=>rw [wrE] at hm;exact (name_chars hw 10 hm).1 rfl
  | rise s=>
   rw [wrE] at hm
   rcases List.mem_cons.1 hm with hm | hm
   ·revert hm;decide
   ·exact (name_chars hw 10 hm).1 rfl
  | fall s=>
   rw [wrE] at hm
   rcases List.mem_cons.1 hm with hm | hm
   ·revert hm;decide
   ·exact (name_chars hw 10 hm).1 rfl
  | not x=>
   rw [wrE] at hm
   rcases List.mem_cons.1 hm with hm | hm
   ·revert hm;decide
   ·exact ih x (by simp at hs;omega) hw 2 hm
  | and l=>
   have hj:∀ s:Tx,(10:UInt8) ∉ s→(10:UInt8) ∉ Lib.join (wrL l 2) s:=fun s h1 h=>by
    rcases join_mem h with h | ⟨x,hx,hc⟩
    ·exact h1 h
    ·rw [wrL_map] at hx
     obtain ⟨y,hy,rfl⟩:=List.mem_map.1 hx
     have:=List.sizeOf_lt_of_mem hy
     exact ih y (by simp at hs;omega) ((WfEs_iff l).1 hw.2 y hy) 2 hc
   rw [wrE] at hm
   have h3:=hj [32,38,32] (by decide)
   split at hm
   ·rw [List.mem_append,List.mem_append] at hm
    rcases hm with (hm | hm) | hm
    ·revert hm;decide
    ·exact h3 hm
    ·revert hm;decide
   ·exact h3 hm
  | or l=>
   have hj:∀ s:Tx,(10:UInt8) ∉ s→(10:UInt8) ∉ Lib.join (wrL l 1) s:=fun s h1 h=>by
    rcases join_mem h with h | ⟨x,hx,hc⟩
    ·exact h1 h
    ·rw [wrL_map] at hx
     obtain ⟨y,hy,rfl⟩:=List.mem_map.1 hx
     have:=List.sizeOf_lt_of_mem hy
     exact ih y (by simp at hs;omega) ((WfEs_iff l).1 hw.2 y hy) 1 hc
   rw [wrE] at hm
   have h3:=hj [32,124,32] (by decide)
   split at hm
   ·rw [List.mem_append,List.mem_append] at hm
    rcases hm with (hm | hm) | hm
    ·revert hm;decide
    ·exact h3 hm
    ·revert hm;decide
   ·exact h3 hm
theorem parse_blank {e:Ex} (hw:WfE e) (hd:dpI e≤20) (hl:(wrE e 0).length≤1999):parseM (32 :: wrE e 0)=(some e,none):=by
 generalize ht:(32:UInt8) :: wrE e 0=t
 have hlen:t.length=(wrE e 0).length+1:=by rw [← ht];rfl
 have hs:Has t 1 (wrE e 0):=fun k hk=>by rw [← ht,Nat.add_comm];rfl
 have k0:skipB t 0=1:=by
  rw [skipB_blank (by rw [← ht];rfl)];exact skip_at hs (wr_head e 0 hw)
 have k1:skipB t (1+(wrE e 0).length)=t.length:=by
  rw [hlen,Nat.add_comm 1];exact skipB_stop (by rw [List.getElem?_eq_none (by omega)];simp)
 have hor:=or_back (t:=t) hw hd 0 (Nat.zero_le _) (by rw [k0];exact hs) (by rw [k0];intro c hc;rw [List.getElem?_eq_none (by omega)] at hc;cases hc) (by rw [k0,k1];simp) (by rw [k0,k1];simp)
 rw [k0,k1] at hor;unfold parseM;rw [if_neg (by omega),hor]
 dsimp only
 have k2:skipB t t.length=t.length:=skipB_stop (by simp)
 rw [k2,if_neg (by omega)]
theorem words_one {a:Tx} (ha:(32:UInt8) ∉ a) (h0:a≠[]):wordsT a=[a]:=by
 have:=wordsGo_skip a [] [] ha
 rw [List.append_nil,List.nil_append] at this;unfold wordsT;rw [this];simp [wordsGo,h0]
theorem words_cons {a b:Tx} (ha:(32:UInt8) ∉ a) (h0:a≠[]):wordsT (a ++ 32 :: b)=a :: wordsT b:=by
 have:=wordsGo_skip a [] (32 :: b) ha
 rw [List.nil_append] at this;unfold wordsT;rw [this]
 conv=>lhs;unfold wordsGo
 simp [h0]
theorem words_end {a:Tx} (ha:(32:UInt8) ∉ a) (h0:a≠[]):wordsT (a ++ [32])=[a]:=by
 rw [words_cons ha h0];rfl
def kwordN (k:Int):Tx:=if k=1 then [105,110,112,117,116] else if k=2 then [99,111,105,108] else if k=3 then [116,105,109,101,114] else [99,111,117,110,116,101,114]
theorem headN_word {k:Int} (h:1≤k∧k≤4):headN k=kwordN k ++ [32]∧(32:UInt8) ∉ kwordN k∧(61:UInt8) ∉ kwordN k∧(10:UInt8) ∉ kwordN k∧kwordN k≠[]∧ixW kwN (kwordN k)=k:=by
 have:k=1∨k=2∨k=3∨k=4:=by omega
 rcases this with rfl | rfl | rfl | rfl<;>decide +kernel
def kwordR (k:Int):Tx:=if k=2 then [115,101,116] else if k=3 then [114,101,115,101,116] else if k=4 then [114,117,110] else if k=5 then [99,111,117,110,116] else [122,101,114,111]
theorem headG_word {k:Int} (h:2≤k∧k≤6):headG k=kwordR k ++ [32]∧(32:UInt8) ∉ kwordR k∧(61:UInt8) ∉ kwordR k∧(10:UInt8) ∉ kwordR k∧kwordR k≠[]∧ixW kwR (kwordR k)=k:=by
 have:k=2∨k=3∨k=4∨k=5∨k=6:=by omega
 rcases this with rfl | rfl | rfl | rfl | rfl<;>decide +kernel
theorem dig_small {n:Int} (h:1≤n∧n≤7):numF (dig n.toNat)=some n∧(32:UInt8) ∉ dig n.toNat∧(61:UInt8) ∉ dig n.toNat∧(10:UInt8) ∉ dig n.toNat∧dig n.toNat≠[]:=by
 have:n=1∨n=2∨n=3∨n=4∨n=5∨n=6∨n=7:=by omega
 rcases this with rfl | rfl | rfl | rfl | rfl | rfl | rfl<;>decide +kernel
def nameB (n:NmP):Tx:=headN n.kind ++ n.name ++ cntT n
def rungB (r:RgP):Tx:=headG r.kind ++ r.name ++ [32,61,32] ++ condT r.cond
structure NmOk (n:NmP):Prop where
 name:nameF n.name=true
 kind:1≤n.kind∧n.kind≤4
 count:(n.kind < 3∧n.count=0)∨(3≤n.kind∧1≤n.count∧n.count≤7)
structure RgOk (r:RgP):Prop where
 name:nameF r.name=true
 kind:1≤r.kind∧r.kind≤6
 cond:∃ e,r.cond=some e∧WfE e∧dpI e≤20∧(wrE e 0).length≤1990
theorem nameB_line {n:NmP} (h:NmOk n):(10:UInt8) ∉ nameB n∧wordsT (nameB n)≠[]∧lineP (nameB n) = .name n:=by
 obtain ⟨hn,hk,hc⟩:=h
 obtain ⟨e1,w1,w2,w3,w4,w5⟩:=headN_word hk
 have hch:=name_chars hn
 have hnn:=(name_facts hn).1
 have c10:(10:UInt8) ∉ n.name:=fun hm=>(hch 10 hm).1 rfl
 have c32:(32:UInt8) ∉ n.name:=fun hm=>(hch 32 hm).2.1 rfl
 have c61:(61:UInt8) ∉ n.name:=fun hm=>(hch 61 hm).2.2 rfl
 obtain ⟨nm,kd,ct⟩:=n
 dsimp only at *
 have hB:nameB ⟨nm,kd,ct⟩=kwordN kd ++ 32 :: (nm ++ cntT ⟨nm,kd,ct⟩):=by simp [nameB,e1]
 have h10:(10:UInt8) ∉ cntT ⟨nm,kd,ct⟩∧(61:UInt8) ∉ cntT ⟨nm,kd,ct⟩:=by
  unfold cntT
  rcases hc with ⟨h1,h2⟩ | ⟨h1,h2⟩
  ·rw [if_neg (by dsimp only;omega)];simp
  ·rw [if_pos (by dsimp only;omega)]
   obtain ⟨_,d2,d3,d4,_⟩:=dig_small h2
   simp [d3,d4]
 have hw:wordsT (nameB ⟨nm,kd,ct⟩)=kwordN kd :: wordsT (nm ++ cntT ⟨nm,kd,ct⟩):=by rw [hB,words_cons w1 w4]
 refine ⟨?_,?_,?_⟩
 ·rw [hB];simp [w3,c10,h10.1]
 ·rw [hw];simp
 ·unfold lineP;rw [if_neg (by rw [hB];simp [w2,c61,h10.2]),hw]
  show nameP (ixW kwN (kwordN kd)) _=_
  rw [w5]
  rcases hc with ⟨h1,rfl⟩ | ⟨h1,h2⟩
  ·have e:cntT ⟨nm,kd,0⟩=[]:=by unfold cntT;rw [if_neg (by dsimp only;omega)]
   rw [e,List.append_nil,words_one c32 hnn];rw [nameP,if_pos (by omega)]
  ·have e:cntT ⟨nm,kd,ct⟩=32 :: dig ct.toNat:=by unfold cntT;rw [if_pos (by dsimp only;omega)]
   obtain ⟨d1,d2,d3,d4,d5⟩:=dig_small h2
   rw [e,words_cons c32 hnn,words_one d2 d5];rw [nameP,if_pos (by omega),d1]
theorem rungB_line {r:RgP} (h:RgOk r):(10:UInt8) ∉ rungB r∧wordsT (rungB r)≠[]∧lineP (rungB r) = .rung r:=by
 obtain ⟨hn,hk,e,he,hw,hd,hl⟩:=h
 have hch:=name_chars hn
 have hnn:=(name_facts hn).1
 have c10:(10:UInt8) ∉ r.name:=fun hm=>(hch 10 hm).1 rfl
 have c32:(32:UInt8) ∉ r.name:=fun hm=>(hch 32 hm).2.1 rfl
 have c61:(61:UInt8) ∉ r.name:=fun hm=>(hch 61 hm).2.2 rfl
 obtain ⟨kd,nm,cd⟩:=r
 dsimp only at *
 subst he
 have hwl:=wr_line _ e (Nat.le_refl _) hw 0
 have hpb:=parse_blank hw hd (by omega)
 obtain ⟨hd',hhd⟩:∃ hd',headG kd ++ nm ++ [32]=hd':=⟨_,rfl⟩
 have hB:rungB ⟨kd,nm,some e⟩=hd' ++ 61 :: (32 :: wrE e 0):=by rw [← hhd];simp [rungB,condT]
 have hG:(10:UInt8) ∉ headG kd∧(61:UInt8) ∉ headG kd:=by
  by_cases h1:kd=1
  ·subst h1;decide
  ·obtain ⟨g1,g2,g3,g4,_⟩:=headG_word (k:=kd) (by omega)
   rw [g1];simp [g3,g4]
 have h61:(61:UInt8) ∉ hd':=by rw [← hhd];simp [hG.2,c61]
 have hwd:wordsT hd'≠[]∧∀ rest,parseM rest=(some e,none)→rungL hd' rest (wordsT hd') = .rung ⟨kd,nm,some e⟩:=by
  by_cases h1:kd=1
  ·subst h1
   have:hd'=nm ++ [32]:=by rw [← hhd];rfl
   rw [this,words_end c32 hnn];refine ⟨by simp,fun rest hr=>?_⟩;rw [rungL,rungP,hr]
  ·obtain ⟨g1,g2,g3,g4,g5,g6⟩:=headG_word (k:=kd) (by omega)
   have:hd'=kwordR kd ++ 32 :: (nm ++ [32]):=by rw [← hhd,g1];simp
   rw [this,words_cons g2 g5,words_end c32 hnn];refine ⟨by simp,fun rest hr=>?_⟩;rw [rungL,g6,if_neg (by omega),rungP,hr]
 refine ⟨?_,?_,?_⟩
 ·rw [hB,← hhd];simp [hG.1,c10,hwl]
 ·intro h0
  rw [wordsT_nil] at h0
  have:=h0 61 (by rw [hB];simp)
  revert this;decide
 ·unfold lineP;rw [if_pos (by rw [hB];simp),hB,cutAt_some h61];exact hwd.2 _ hpb
theorem cut_lines:∀ (l:List Tx),(∀ s∈l,(10:UInt8) ∉ s)→cutT 10 (l.flatMap fun s=>s ++ [10])=l ++ [[]]
 | [],_=>rfl
 | s :: l,h=>by
  rw [List.flatMap_cons,List.append_assoc]
  show cutT 10 (s ++ 10 :: (l.flatMap fun s=>s ++ [10]))=_
  rw [cutT_some (h s (by simp)),cut_lines l fun x hx=>h x (by simp [hx])]
  rfl
def progL (p:PgP):List Tx:=p.names.map nameB ++ p.rungs.map rungB
theorem progT_L (p:PgP):progT p=(progL p).flatMap fun s=>s ++ [10]:=by
 unfold progT namesTx rungsTx progL;rw [List.flatMap_append,List.flatMap_map,List.flatMap_map]
 rfl
theorem read_names {l:List Tx} {ns:List NmP} (hn:∀ n∈ns,NmOk n) (hl:∀ i (h:i < ns.length),l[i]? = some (nameB ns[i])):∀ k,k≤ns.length→∃ s,prK l k = .inr s∧s.names=ns.take k∧s.rungs=[]
 | 0,_=>⟨prS0,rfl,by simp [prS0],rfl⟩
 | k+1,hk=>by
  obtain ⟨s,h1,h2,h3⟩:=read_names hn hl k (by omega)
  obtain ⟨_,b2,b3⟩:=nameB_line (hn ns[k] (List.getElem_mem (by omega)))
  have hg:l.getD k []=nameB ns[k]:=by rw [List.getD_eq_getElem?_getD,hl k (by omega)];rfl
  rw [prK,h1]
  dsimp only
  rw [hg];unfold stepS;rw [if_neg b2,b3]
  dsimp only
  rw [if_pos h3];exact ⟨_,rfl,by rw [h2,List.take_succ_eq_append_getElem (by omega)],h3⟩
theorem read_rungs {l:List Tx} {p:PgP} (hn:∀ n∈p.names,NmOk n) (hr:∀ r∈p.rungs,RgOk r) (hl:∀ i (h:i < p.names.length),l[i]? = some (nameB p.names[i])) (hl2:∀ i (h:i < p.rungs.length),l[p.names.length+i]? = some (rungB p.rungs[i])) :
  ∀ k,k≤p.rungs.length→∃ s,prK l (p.names.length+k) = .inr s∧s.names=p.names∧s.rungs=p.rungs.take k
 | 0,_=>by
  obtain ⟨s,h1,h2,h3⟩:=read_names hn hl p.names.length (Nat.le_refl _)
  exact ⟨s,h1,by rw [h2,List.take_length],by rw [h3];simp⟩
 | k+1,hk=>by
  obtain ⟨s,h1,h2,h3⟩:=read_rungs hn hr hl hl2 k (by omega)
  obtain ⟨_,b2,b3⟩:=rungB_line (hr p.rungs[k] (List.getElem_mem (by omega)))
  have hg:l.getD (p.names.length+k) []=rungB p.rungs[k]:=by rw [List.getD_eq_getElem?_getD,hl2 k (by omega)];rfl
  rw [← Nat.add_assoc,prK,h1]
  dsimp only
  rw [hg];unfold stepS;rw [if_neg b2,b3];exact ⟨_,rfl,h2,by dsimp only;rw [h3,List.take_succ_eq_append_getElem (by omega)]⟩
theorem back_law {p:PgP} (hc:checkP p=none) (hn:∀ n∈p.names,NmOk n) (hr:∀ r∈p.rungs,RgOk r) (hl:(progT p).length≤20000):parseP (progT p)=(none,p):=by
 have hcut:cutT 10 (progT p)=progL p ++ [[]]:=by
  rw [progT_L];refine cut_lines _ fun s hs=>?_
  rcases List.mem_append.1 hs with hs | hs
  ·obtain ⟨n,hn',rfl⟩:=List.mem_map.1 hs
   exact (nameB_line (hn n hn')).1
  ·obtain ⟨r,hr',rfl⟩:=List.mem_map.1 hs
   exact (rungB_line (hr r hr')).1
 have hlen:(progL p).length=p.names.length+p.rungs.length:=by simp [progL]
 obtain ⟨s,h1,h2,h3⟩:=read_rungs (l:=progL p ++ [[]]) hn hr (fun i h=>by
   rw [List.getElem?_append_left (by omega)];unfold progL;rw [List.getElem?_append_left (by simpa using h)]
   simp [h]) (fun i h=>by
   rw [List.getElem?_append_left (by omega)];unfold progL;rw [List.getElem?_append_right (by simp)]
   simp [h]) p.rungs.length (Nat.le_refl _)
 rw [List.take_length] at h3
 have hend:prK (progL p ++ [[]]) (progL p ++ [[]]).length = .inr s:=by
  rw [List.length_append,hlen]
  show prK _ (p.names.length+p.rungs.length+1)=_
  rw [prK,h1]
  dsimp only
  have:(progL p ++ [[]]).getD (p.names.length+p.rungs.length) []=[]:=by
   rw [List.getD_eq_getElem?_getD,List.getElem?_append_right (by omega),hlen];simp
  rw [this];unfold stepS;rw [if_pos (show wordsT []=[] from rfl)]
 rw [parseP_end hl (by rw [hcut];exact hend),h2,h3]
 show (match checkP p with | none=>_ | some (c,none)=>_ | some (c,some i)=>_)=_
 rw [hc]
end Go.Proofs.YtpboiimemmfkiaaGreatDoor
namespace Go.Proofs.YtpboiimemmfkiaaGreatDoor
open Go.Av
theorem edgN_len {p:PgP} (h:∀ r∈p.rungs,∃ e,r.cond=some e∧bE e≤2^28):∀ {n:Nat},n≤p.rungs.length→(edgN p n).length≤2^28 * n
 | 0,_=>by simp [edgN]
 | n+1,hn=>by
  have ih:=edgN_len h (n:=n) (by omega)
  obtain ⟨e,he,hb⟩:=h p.rungs[n] (List.getElem_mem _)
  rw [edgN_succ (by omega),List.length_append]
  have:(edgR p p.rungs[n]).length≤2^28:=by
   unfold edgR;rw [he,List.length_map]
   have h1:=Lib.compact_length_le (sortT (nmsE false e))
   have h2:=sortT_len (nmsE false e)
   have h3:=nms_len false e
   show (namesE false e).length≤_
   unfold namesE;omega
  omega
set_option maxHeartbeats 16000000 in
theorem ledges_spec (G:Glob) (p:PgP) (hnl:p.names.length < 2^62) (hrl:p.rungs.length≤100) (hg:∀ r∈p.rungs,∃ e,r.cond=some e∧bE e≤2^28):PureC Tryz.prog G 95 [dPg p] (.sl none ((Lib.compact (sortI (edgN p p.rungs.length))).map fun x=>[.v (.int .i64 x)])):=by
 have hnum:=fun s=>lc_num G p hnl s
 have hlen:=fun n hn=>edgN_len (n:=n) hg hn
 have hL:=hlen _ (Nat.le_refl _)
 have hso:=sortI_mc G 300 3 (edgN p p.rungs.length) (by omega)
 have hco:=compactI_mc G 300 3 (sortI (edgN p p.rungs.length)) (by rw [sortI_len];omega)
 rw [sortI_len] at hco
 have hcl:=Lib.compact_length_le (sortI (edgN p p.rungs.length))
 rw [sortI_len] at hcl;generalize hLL:edgN p p.rungs.length=l at hso hco hcl hL ⊢;generalize sortI l=z at hso hco hcl ⊢
 have htk:List.take (Lib.compact z).length ((Lib.compact z ++ List.replicate (l.length - (Lib.compact z).length) 0).map fun s=>[D.v (.int .i64 s)])=(Lib.compact z).map fun s=>[D.v (.int .i64 s)]:=by
  rw [List.map_append,List.take_append_of_le_length (by simp),List.take_of_length_le (by simp)]
 have hyl:(Lib.compact z ++ List.replicate (l.length - (Lib.compact z).length) 0).length=l.length:=by simp;omega
 generalize Lib.compact z ++ List.replicate (l.length - (Lib.compact z).length) 0=y at hco htk hyl;generalize Lib.compact z=c at hco hcl htk ⊢;simp only [dPg,cPg,dNms,dRgs,dS] at hnum ⊢;refine PureC.of_body (tyOf_good _) Tryz.func95 rfl rfl (rs:=[.tmp 2]) Tryz.results95 (by simp [Tryz.ntmps95]) fun X=>?_;simp only [Tryz.ntmps95,List.map]
 have fw:=@dNum.eq_1
 refine rgq fw [1] [1] ?_;refine AW.imp (Imp.freezeB 1 trivial) ?_;refine AW.st (by simp [dNum];rfl) ?_;refine rgq fw [1,3] [] ?_;refine AW_then fun K1 hK1=>?_;refine rgq fw [1,3,9,10,11] [] ?_;refine AW_for (S:=Nat) (fun i=>i≤p.rungs.length) (fun i=>⟨lst [(1,.d (.ip [.sl none (p.names.map cNm),.sl none (p.rungs.map cRg)])),(3,.own 300 0 (edgN p i).length),(9,.d (.sl none (p.rungs.map cRg))),(10,int p.rungs.length),(11,int i)],hlst [(300,.sl 3 1 ((edgN p i).map fun x=>[.v (.int .i64 x)]))]⟩) (fun i=>p.rungs.length - i) 0 ?_ (by simp) ?_
 ·refine (Imp.adopt 3 300 3 1 rfl rfl).trans ?_;refine Imp.to' (fun _ _=>trivial) (by simp [dNum,edgN]) (by simp [dNum,edgN])
 ·intro i hi
  have hE1:=hlen i hi
  have hE2:(edgN p i).length < 2^40:=by omega
  have hsuc:=fun h=>edgN_succ (p:=p) (i:=i) h
  have hfin:i=p.rungs.length→edgN p i=l:=fun h=>by rw [h];exact hLL
  generalize hEE:edgN p i=E at hE2 hsuc hfin ⊢;refine rgq fw [1,3,9,10,11,12] [300] ?_;refine AW_then fun K2 hK2=>?_;refine AW_cond' (b:=i < p.rungs.length) (by simp [D.le,D.le.go,takeMap,dNum]) (fun hc=>?_) (fun hc=>?_)
  ·have hlt:=hc
   obtain ⟨e,he,hb⟩:=hg _ (List.getElem_mem hlt)
   have hs2:=hsuc hlt
   have hcr:cRg p.rungs[i]=[.v (.int .i64 p.rungs[i].kind),.v (.string (bs p.rungs[i].name)),dC p.rungs[i].cond]:=rfl
   have hed:=edgesE_spec G e hb
   have hnl2:(namesE false e).length≤2^28:=by
    have h1:=Lib.compact_length_le (sortT (nmsE false e))
    have h2:=sortT_len (nmsE false e)
    have h3:=nms_len false e
    unfold namesE;omega
   unfold edgR at hs2;rw [he] at hs2 hcr;simp only [dC,dS] at hs2 hcr hed
   obtain ⟨ta,ca,hta⟩:=dE_ifc e
   rw [hta] at hcr hed;generalize namesE false e=ns at hs2 hed hnl2;generalize p.rungs[i].kind=kd at hcr;generalize p.rungs[i].name=nm at hcr;refine AW_skip (hK2 _ ?_);refine AW_then fun K3 hK3=>?_;refine AW_block ?_
   have qf:=(Aq fw (Aq @hlt @hcr))
   refine rgqv [1,3,5,9,10,11] [300,5] ?_;refine AW.imp (Imp.freezeB 5 trivial) ?_;refine AW.st (by simp [dNum];rfl) ?_;refine rgc fw hed [1,3,9,10,11,17,18,19] [300] ?_
   obtain ⟨AA,hAA⟩:∃ f:Nat→List Int,f=fun j=>E ++ (ns.take j).map (numP p):=⟨_,rfl⟩
   have hA0:AA 0=E:=by rw [hAA];simp
   have hAe:AA ns.length=E ++ ns.map (numP p):=by rw [hAA];simp
   have hAs0:∀ j (h:j < ns.length),AA (j+1)=AA j ++ [numP p ns[j]]:=fun j h=>by rw [hAA];dsimp only;rw [List.take_succ_eq_append_getElem h,List.map_append,List.append_assoc];rfl
   have hAl0:∀ j,(AA j).length < 2^41:=fun j=>by rw [hAA];dsimp only;rw [List.length_append,List.length_map,List.length_take];omega
   clear hAA;refine AW_for (S:=Nat) (fun j=>j≤ns.length) (fun j=>⟨lst [(1,.d (.ip [.sl none (p.names.map cNm),.sl none (p.rungs.map cRg)])),(3,.own 300 0 (AA j).length),(9,.d (.sl none (p.rungs.map cRg))),(10,int p.rungs.length),(11,int i),(17,.d (.sl none (ns.map fun s=>[.v (.string (bs s))]))),(18,int ns.length),(19,int j)],hlst [(300,.sl 3 1 ((AA j).map fun x=>[.v (.int .i64 x)]))]⟩) (fun j=>ns.length - j) 0 ?_ (by simp) ?_
   ·refine Imp.to' (fun _ _=>trivial) (by simp [dNum,hA0]) (by simp [dNum,hA0])
   ·intro j hj
    have hAs:=hAs0 j
    have hAl:=hAl0 j
    have hAend:j=ns.length→E ++ ns.map (numP p)=AA j:=fun h=>by rw [h,hAe]
    generalize hAA:AA j=A at hAs hAl hAend ⊢;refine rgq fw [1,3,9,10,11,17,18,19,20] [300] ?_;refine AW_then fun K4 hK4=>?_;refine AW_cond' (b:=j < ns.length) (by simp [D.le,D.le.go,takeMap,dNum]) (fun hc=>?_) (fun hc=>?_)
    ·have hjl:=hc
     have hA2:=hAs hjl
     have hnj:=hnum ns[j]
     generalize numP p ns[j]=z2 at hA2 hnj;refine AW_skip (hK4 _ ?_);refine AW_then fun K5 hK5=>?_;refine AW_block ?_
     have qf:=(Aq fw @hjl)
     refine rgqv [1,3,7,9,10,11,17,18,19] [300] ?_;refine AW_re (tyOf_good _) fun K' hK'=>?_;(repeat (refine sxn fun K2 hK2=>?_;simp [dNum,List.take_of_length_le];(repeat (refine ⟨by omega,?_⟩));refine hK2 _ ?_;clear hK2 K2));refine sxn fun K2 hK2=>?_;simp [dNum,List.take_of_length_le];refine callK.data (hnj) (by simp;rfl) (by first | exact D.leGo_refl _ | simp [takeMap,List.map_map,Function.comp_def,D.le,D.le.go,D.le_refl,D.leGo_refl,dNum,List.take_of_length_le]) ?_;refine hK2 _ ?_;clear hK2 K2;simp only [putd,upd_lst];(repeat (refine sxn fun K2 hK2=>?_;simp [dNum,List.take_of_length_le];(repeat (refine ⟨by omega,?_⟩));refine hK2 _ ?_;clear hK2 K2));refine sxz (hK' _ ?_);clear hK' K';refine hK5 _ (AW.norm [1,3,9,10,11,17,18,19] [300] (fun _ _=>trivial) (AW.st (by simp [dNum,List.take_of_length_le];rfl) ?_));refine AW_re (tyOf_good _) fun K' hK'=>?_;(repeat (refine sxn fun K2 hK2=>?_;simp [dNum];(repeat (refine ⟨by omega,?_⟩));refine hK2 _ ?_;clear hK2 K2));refine sxz (hK' _ ?_);clear hK' K';(try simp only [thn,inb]);refine Again.mk (j+1) (by omega) (by omega) ?_;refine Imp.to' (fun _ _=>trivial) (by simp [dNum,hA2]) (by simp [dNum,hA2])
    ·obtain rfl:j=ns.length:=by omega
     rw [hAend rfl] at hs2;refine AW_exit (hK3 _ ?_);refine AW_re (tyOf_good _) fun K' hK'=>?_;(repeat (refine sxn fun K2 hK2=>?_;simp [dNum];(repeat (refine ⟨by omega,?_⟩));refine hK2 _ ?_;clear hK2 K2));refine sxz (hK' _ ?_);clear hK' K';(try simp only [thn,inb]);refine Again.mk (i+1) (by omega) (by omega) ?_;refine Imp.to' (fun _ _=>trivial) (by simp [dNum,hs2]) (by simp [dNum,hs2])
  ·obtain rfl:=hfin (by omega)
   refine AW_exit (hK1 _ ?_);refine rgm fw hso [3] [300] ?_;refine rgm fw hco [2] [300] ?_
   have hle:c.length≤y.length:=by omega
   by_cases hcy:c.length=y.length
   ·have htk2:(y.map fun s=>[D.v (.int .i64 s)])=c.map fun s=>[D.v (.int .i64 s)]:=by rw [← htk,hcy,List.take_of_length_le (by simp)]
    refine AW.imp (Imp.freeze 300 trivial) ?_;refine AW.st (by simp [dNum,hcy,hle,htk2];rfl) ?_;refine AW_ret ?_;simp [D.le,D.le.go,takeMap,dNum,D.le_refl,D.leGo_refl,hcy,htk2]
   ·refine AW.imp (Imp.freeze 300 trivial) ?_;refine AW.st (by simp [dNum,hcy,hle,htk];rfl) ?_;refine AW_ret ?_;simp [D.le,D.le.go,takeMap,dNum,D.le_refl,D.leGo_refl,htk]
end Go.Proofs.YtpboiimemmfkiaaGreatDoor
namespace Go.Proofs.YtpboiimemmfkiaaGreatDoor
open Go.Av
theorem nameF_len {s:Tx} (h:nameF s=true):s≠[]∧s.length≤8:=by
 unfold nameF at h;simp only [Bool.and_eq_true,decide_eq_true_eq] at h;exact ⟨h.1,h.2.1⟩
end Go.Proofs.YtpboiimemmfkiaaGreatDoor
namespace Go.Proofs.YtpboiimemmfkiaaGreatDoor
open Go.Av
theorem lineP_dp {s:Tx} {r:RgP} (h:lineP s = .rung r):∃ e,r.cond=some e∧WfE e∧dpI e≤20∧bE e≤10000:=by
 unfold lineP at h
 split at h
 ·obtain ⟨k,nm,hm,hr⟩:=rungL_ok h
  obtain ⟨e,he,hp,_,hn,_⟩:=rungP_ok hr
  exact ⟨e,he,(parse_wf hp).1,(parse_wf hp).2,parse_b hp⟩
 ·exact absurd h nameL_rung
def CondOk (r:RgP):Prop:=∃ e,r.cond=some e∧WfE e∧dpI e≤20∧bE e≤10000
theorem prK_cond {l:List Tx}:∀ {k:Nat} {s:PrS},prK l k = .inr s→∀ r∈s.rungs,CondOk r
 | 0,s,h=>by
  simp only [prK,Sum.inr.injEq] at h;subst h;simp [prS0]
 | k+1,s,h=>by
  rw [prK] at h
  cases hk:prK l k with
  | inl e=>rw [hk] at h;cases h
  | inr s0=>
   rw [hk] at h
   dsimp only at h
   have ih:=prK_cond hk
   unfold stepS at h
   split at h
   ·simp only [Sum.inr.injEq] at h;subst h;exact ih
   ·split at h
    ·cases h
    ·cases h
    ·split at h
     ·simp only [Sum.inr.injEq] at h;subst h;exact ih
     ·cases h
    ·rename_i r hr
     simp only [Sum.inr.injEq] at h;subst h
     intro r' hr'
     rcases List.mem_append.1 hr' with h1 | h1
     ·exact ih r' h1
     ·obtain rfl:=List.mem_singleton.1 h1
      exact lineP_dp hr
theorem parse_ok {t:Tx} {p:PgP} (h:parseP t=(none,p)):checkP p=none∧∀ r∈p.rungs,CondOk r:=by
 unfold parseP at h
 split at h
 ·cases h
 ·split at h
  ·cases h
  ·rename_i s hs
   split at h
   ·rename_i hc
    simp only [Prod.mk.injEq,true_and] at h;subst h;exact ⟨hc,prK_cond hs⟩
   ·cases h
   ·cases h
theorem parse_err {t:Tx} {e:Int×Option Nat} (h:(parseP t).1=some e):(parseP t).2=⟨[],[]⟩:=by
 by_cases h1:20000 < t.length
 ·unfold parseP;rw [if_pos h1]
 ·cases hs:prK (cutT 10 t) (cutT 10 t).length with
  | inl ci=>obtain ⟨c,i⟩:=ci;rw [parseP_bad (by omega) hs]
  | inr s=>
   rw [parseP_end (by omega) hs] at h ⊢
   cases hc:checkP ⟨s.names,s.rungs⟩ with
   | none=>rw [hc] at h;cases h
   | some co=>
    obtain ⟨c,o⟩:=co
    cases o<;>rfl
theorem back_of {p:PgP} (hc:checkP p=none) (hk:∀ r∈p.rungs,CondOk r) (hw:∀ r∈p.rungs,∀ e,r.cond=some e→(wrE e 0).length≤1990) (hl:(progT p).length≤20000):parseP (progT p)=(none,p):=by
 have hg:=checkP_good hc
 have hr:=checkP_rung hc
 refine back_law hc (fun n hn=>⟨(hg.name n hn).1,(hg.name n hn).2,hg.count n hn⟩) (fun r hr1=>?_) hl
 obtain ⟨h1,h2,_⟩:=hr r hr1
 obtain ⟨e,he,hwf,hd,_⟩:=hk r hr1
 obtain ⟨k,hk,hke,hks⟩:=idx_pos h2
 have hks':p.names[k].name=r.name:=by simpa using hks
 have h4:=(hg.name _ (List.getElem_mem hk)).1
 rw [hks'] at h4;exact ⟨h4,h1,e,he,hwf,hd,hw r hr1 e he⟩
def fixP:PgP:=⟨[⟨[97],1,0⟩,⟨[109],2,0⟩],[⟨2,[109],some (.bit [97])⟩]⟩
def fixT:Tx:=[105,110,112,117,116,32,97,10,99,111,105,108,32,109,10,115,101,116,32,109,32,61,32,97,10]
theorem fix_text:progT fixP=fixT:=by decide
theorem fix_check:checkP fixP=none:=by kernel_rfl
theorem fix_parse:parseP fixT=(none,fixP):=by
 rw [← fix_text];refine back_of fix_check ?_ ?_ (by rw [fix_text];decide)
 ·intro r hr
  simp only [fixP,List.mem_singleton] at hr;subst hr
  have h:(parseM [97]).1=some (.bit [97]):=by kernel_rfl
  exact ⟨_,rfl,(parse_wf h).1,(parse_wf h).2,parse_b h⟩
 ·intro r hr e he
  simp only [fixP,List.mem_singleton] at hr;subst hr
  obtain rfl:=Option.some.inj he
  decide
theorem fix_bs:(⟨#[105,110,112,117,116,32,97,10,99,111,105,108,32,109,10,115,101,116,32,109,32,61,32,97,10]⟩:ByteArray)=bs fixT:=rfl
end Go.Proofs.YtpboiimemmfkiaaGreatDoor
namespace Go.Av
section
variable {P:Program} {T:Ty} {Mv X:Nat→Prop} {G:Glob} {N:Fr} {w:World} {μ:Mu} {a:Act} {σ:St} {ops:Array Oper}
def patch (R:List Nat) (H0 H2:Heap):Heap:=fun q=>if R.contains q then H0 q else H2 q
def ClosedR (R:List Nat) (H:Heap):Prop:=∀ q,R.contains q=true→H q=none∨∃ (t:TypeId) (cs:List D),H q=some (.box t (cs.map AV.d))
def OutR (R:List Nat) (H0 H:Heap):Prop:=∀ q,R.contains q=false→H0 q=H q
def offR (R:List Nat):AV→Bool
 | .ref r _ _=>!R.contains r
 | _=>true
def HCA (P:Program) (G:Glob) (mvd R:List Nat) (g:FuncId) (xs:List AV) (H:Heap) (y:AV) (H2:Heap):Prop:=
 ClosedR R H∧(∀ q,R.contains q=true→H2 q=H q)∧∀ H0,ClosedR R H0→OutR R H0 H→HC P G mvd g xs H0 y (patch R H0 H2)
theorem patch_self {R:List Nat} {H H2:Heap} (h:∀ q,R.contains q=true→H2 q=H q):patch R H H2=H2:=by
 funext q
 unfold patch
 split
 ·rename_i hq;exact (h q hq).symm
 ·rfl
theorem HCA.hc {mvd R:List Nat} {g:FuncId} {xs:List AV} {H H2:Heap} {y:AV} (h:HCA P G mvd R g xs H y H2):HC P G mvd g xs H y H2:=by
 have:=h.2.2 H h.1 fun _ _=>rfl
 rwa [patch_self h.2.1] at this
theorem HCA.swap {mvd R:List Nat} {g:FuncId} {xs:List AV} {H H2 H':Heap} {y:AV} (h:HCA P G mvd R g xs H y H2) (hc:ClosedR R H') (ho:OutR R H' H):HCA P G mvd R g xs H' y (patch R H' H2):=by
 refine ⟨hc,fun q hq=>by unfold patch;rw [if_pos hq],fun H0 h0 ho0=>?_⟩
 have e:patch R H0 (patch R H' H2)=patch R H0 H2:=by
  funext q
  unfold patch
  split
  ·rfl
  ·rfl
 rw [e];exact h.2.2 H0 h0 fun q hq=>(ho0 q hq).trans (ho q hq)
theorem LdSame.swap {R:List Nat} {H H2 H':Heap} {p:Nat×AV} (h:LdSame T ops H H2 p) (hp:offR R p.2=true) (ho:OutR R H' H):LdSame T ops H' (patch R H' H2) p:=by
 obtain ⟨k,v⟩:=p
 unfold LdSame at h ⊢
 dsimp only at h hp ⊢
 cases he:ops[k]? with
 | none=>rw [he] at h;exact h.elim
 | some o=>
  rw [he] at h
  dsimp only at h ⊢
  split at h<;>try exact h.elim
  cases v with
  | ref r e j=>
   simp only [offR,Bool.not_eq_true'] at hp
   have e1:=ho r hp
   have e2:patch R H' H2 r=H2 r:=by unfold patch;rw [if_neg (by rw [hp];decide)]
   unfold loadA at h ⊢
   dsimp only at h ⊢
   rw [e1,e2];exact h
  | d x=>cases x<;>rfl
  | _=>rfl
theorem closed_hup {R:List Nat} {H:Heap} {d:Nat} {t:TypeId} {cs:List D} (h:ClosedR R H):ClosedR R (hup H d (.box t (cs.map AV.d))):=fun q hq=>by
 unfold hup
 split
 ·exact .inr ⟨t,cs,rfl⟩
 ·exact h q hq
theorem closed_of {R:List Nat} {H:Heap} {d:Nat} {b:Row} (h:ClosedR R (hup H d b)) (hd:H d=none):ClosedR R H:=fun q hq=>by
 by_cases e:q=d
 ·subst e;exact .inl hd
 ·have:=h q hq
  unfold hup at this;rwa [if_neg e] at this
theorem out_hup {R:List Nat} {H:Heap} {d:Nat} {b:Row} (hd:R.contains d=true):OutR R (hup H d b) H:=fun q hq=>by
 unfold hup;rw [if_neg (fun e=>by subst e;rw [hd] at hq;cases hq)]
theorem OutR.symm {R:List Nat} {H H':Heap} (h:OutR R H H'):OutR R H' H:=fun q hq=>(h q hq).symm
theorem patch_hup {R:List Nat} {H H2:Heap} {d:Nat} {b:Row} (hd:R.contains d=true):hup (patch R H H2) d b=patch R (hup H d b) H2:=by
 funext q
 unfold hup patch
 by_cases e:q=d
 ·subst e;simp only [if_true,hd]
 ·simp only [if_neg e]
theorem patch_hup2 {R:List Nat} {H H2:Heap} {d:Nat} {b:Row} (hd:R.contains d=true) (h:∀ q,R.contains q=true→H2 q=H q):patch R (hup H d b) H2=hup H2 d b:=by
 rw [← patch_hup hd,patch_self h]
def isAl (R:List Nat) (o:Oper):Bool:=match o.op,o.dst with
 | .alloc _,some d=>R.contains d
 | _,_=>false
theorem al_ex {R:List Nat} {o:Oper} (h:isAl R o=true):∃ t d,o.op = .alloc t∧o.dst=some d∧R.contains d=true:=by
 unfold isAl at h
 split at h
 ·rename_i t d h1 h2;exact ⟨t,d,h1,h2,h⟩
 ·cases h
theorem al_run {R:List Nat} {o:Oper} (h:isAl R o=true) {e:Env} {H H':Heap} {x:AV} (hx:Ex P T Mv G o e H x H'):∃ (d:Nat) (t:TypeId) (cs:List D),R.contains d=true∧H d=none∧H'=hup H d (.box t (cs.map AV.d))∧∀ e2 H2,H2 d=none→Ex P T Mv G o e2 H2 x (hup H2 d (.box t (cs.map AV.d))):=by
 obtain ⟨t,d,h1,h2,h3⟩:=al_ex h
 obtain ⟨dst,op,type,pos,after,guard⟩:=o
 dsimp only at h1 h2
 subst h1 h2;unfold Ex at hx ⊢;simp only [isCall,isWr,if_true] at hx ⊢
 obtain ⟨c,hw,hc⟩:=hx
 unfold wr at hw ⊢
 dsimp only at hw ⊢
 cases hT:T t with
 | none=>rw [hT] at hw;cases hw
 | some ti=>
  rw [hT] at hw
  dsimp only at hw
  simp only [Option.some.injEq,Prod.mk.injEq,St.mk.injEq] at hw
  obtain ⟨rfl,rfl,_,rfl⟩:=hw
  exact ⟨d,t,zeroD ti.zero,h3,hc,rfl,fun e2 H2 hn=>⟨_,rfl,hn⟩⟩
def AHStep (P:Program) (T:Ty) (Mv:Nat→Prop) (G:Glob) (mvd R:List Nat) (ops:Array Oper) (ex:List (Nat×AV)) (o:Oper) (σ σ':St):Prop:=∃ c g xs y H2,isCall o.op=some c∧tgt G σ.env c=some (g,xs)∧(∀ r∈mvd,Mv r)∧HCA P G mvd R g xs σ.H y H2∧(∀ p∈ex,LdSame T ops σ.H H2 p∧offR R p.2=true)∧OffV mvd y∧σ'=⟨putd σ.env o.dst y,H2⟩
def AStep (P:Program) (T:Ty) (Mv:Nat→Prop) (G:Glob) (N:Fr) (mvd R db hv:List Nat) (ex:List (Nat×AV)) (ops:Array Oper) (i:Nat) (o:Oper) (σ σ':St):Prop:=
 okDst N o∧o.guard=none∧OffE mvd σ.env∧((db.contains i=true∧∃ c y,dataW T G σ.env o=some (c,y)∧c∧σ'=⟨putd σ.env o.dst (.d y),σ.H⟩)∨
  (db.contains i=false∧hv.contains i=true∧AHStep P T Mv G mvd R ops ex o σ σ')∨
  (db.contains i=false∧hv.contains i=false∧kindOf o.op≠9∧ldAt G ex i o σ.env∧∃ x H',Ex P T Mv G o σ.env σ.H x H'∧OffV mvd x∧σ'=⟨putd σ.env o.dst x,H'⟩))
theorem astep_m {mvd R db hv:List Nat} {ex:List (Nat×AV)} {i:Nat} {o:Oper} {σ σ':St} (h:AStep P T Mv G N mvd R db hv ex ops i o σ σ'):MStep P T Mv G N mvd db hv ex ops i o σ σ':=by
 obtain ⟨h1,h2,h3,h⟩:=h
 refine ⟨h1,h2,h3,?_⟩
 rcases h with h | ⟨b,v,c,g,xs,y,H2,hc,ht,hm,hh,hl,ho,e⟩ | h
 ·exact .inl h
 ·exact .inr (.inl ⟨b,v,c,g,xs,y,H2,hc,ht,hm,hh.hc,fun p hp=>(hl p hp).1,ho,e⟩)
 ·exact .inr (.inr h)
theorem astep_sound (hg:Good P T) (mvd R db hv:List Nat) (ex:List (Nat×AV)):Sound P X G N Mv (AStep P T Mv G N mvd R db hv ex ops) ops:=fun i o ho σ σ' h=>mstep_sound hg mvd db hv ex i o ho σ σ' (astep_m h)
def compatA (R db hv:List Nat) (ex:List (Nat×AV)) (ops:Array Oper) (i j:Nat) (oi oj:Oper):Bool:=oi.apart ops oj && (db.contains i || db.contains j ||
 (if hv.contains i then !hv.contains j && (kindOf oj.op == 0 || (ex.lookup j).isSome || isAl R oj) else if hv.contains j then kindOf oi.op == 0 || (ex.lookup i).isSome || isAl R oi else mayPass (kindOf oi.op) (kindOf oj.op)))
theorem astep_swaps (mvd R db hv:List Nat) (ex:List (Nat×AV)):Swaps (AStep P T Mv G N mvd R db hv ex ops) (compatA R db hv ex ops) ops:=fun i j oi oj hoi hoj hc σ σ1 σ2 h1 h2=>by
 simp only [compatA,Bool.and_eq_true] at hc
 obtain ⟨hap,hpass⟩:=hc
 obtain ⟨di,gi,oE,h1⟩:=h1
 obtain ⟨dj,gj,_,h2⟩:=h2
 have agj:∀ v,Agree oj.op (putd σ.env oi.dst v) σ.env:=fun v t ht=>(agree_put hap (e:=σ.env) (v:=v)).1 t (looks_of_op ht)
 have agi:∀ v,Agree oi.op σ.env (putd σ.env oj.dst v):=fun v t ht=>((agree_put hap (e:=σ.env) (v:=v)).2.1 t (looks_of_op ht)).symm
 have hne:=(agree_put hap (e:=σ.env) (v:=und)).2.2
 have tg:∀ {o:Oper} {c:Call} {e e':Env},isCall o.op=some c→Agree o.op e e'→tgt G e c=tgt G e' c:=fun {o c e e'} hc ha=>tgt_congr fun t ht=>ha t (by rw [(isCall_op hc).1];exact ht)
 have lda:∀ {k:Nat} {o:Oper} {e e':Env},Agree o.op e e'→ldAt G ex k o e→ldAt G ex k o e':=fun {k o e e'} ha h=>by
  unfold ldAt at h ⊢
  split
  ·rename_i pv hl
   simp only [hl] at h
   split
   ·rename_i t x hop
    simp only [hop] at h;rw [← aeval_congr (x:=x) fun t' ht'=>ha t' (by rw [hop,ht'];simp [Op.operands])];exact h
   ·rename_i hno
    split at h
    ·rename_i t x hop
     exact absurd hop (hno t x)
    ·exact h
  ·trivial
 rcases h1 with ⟨bi,c,y,e1,c1,rfl⟩ | ⟨bi,vi,c,g,xs,y,H2,hci,ti,hmv,hcl,hld,oy,rfl⟩ | ⟨bi,vi,k1,l1,x,H',e1,ox,rfl⟩
 ·-- data first
  rcases h2 with ⟨bj,c',z,e2,c2,rfl⟩ | ⟨bj,vj,c',g,xs,z,H2,hcj,tj,hmv,hcl,hld,oz,rfl⟩ | ⟨bj,vj,k2,l2,z,H2,e2,oz,rfl⟩
  ·rw [dataW_congr (agj _)] at e2;refine ⟨⟨putd σ.env oj.dst (.d z),σ.H⟩,⟨dj,gj,oE,.inl ⟨bj,c',z,e2,c2,rfl⟩⟩,di,gi,oE.put (OffV.d _ _) _,.inl ⟨bi,c,y,?_,c1,?_⟩⟩
   ·rw [← dataW_congr (agi _)];exact e1
   ·rw [putd_comm hne]
  ·rw [tg hcj (agj _)] at tj;refine ⟨⟨putd σ.env oj.dst z,H2⟩,⟨dj,gj,oE,.inr (.inl ⟨bj,vj,c',g,xs,z,H2,hcj,tj,hmv,hcl,hld,oz,rfl⟩)⟩,di,gi,oE.put oz _,.inl ⟨bi,c,y,?_,c1,?_⟩⟩
   ·rw [← dataW_congr (agi _)];exact e1
   ·rw [putd_comm hne]
  ·refine ⟨⟨putd σ.env oj.dst z,H2⟩,⟨dj,gj,oE,.inr (.inr ⟨bj,vj,k2,lda (agj _) l2,z,H2,e2.congr k2 (agj _),oz,rfl⟩)⟩,di,gi,oE.put oz _,.inl ⟨bi,c,y,?_,c1,?_⟩⟩
   ·rw [← dataW_congr (agi _)];exact e1
   ·rw [putd_comm hne]
 ·-- a call first
  rcases h2 with ⟨bj,c',z,e2,c2,rfl⟩ | ⟨bj,vj,_⟩ | ⟨bj,vj,k2,l2,z,H3,e2,oz,rfl⟩
  ·rw [dataW_congr (agj _)] at e2;refine ⟨⟨putd σ.env oj.dst (.d z),σ.H⟩,⟨dj,gj,oE,.inl ⟨bj,c',z,e2,c2,rfl⟩⟩,di,gi,oE.put (OffV.d _ _) _,.inr (.inl ⟨bi,vi,c,g,xs,y,H2,hci,?_,hmv,hcl,hld,oy,?_⟩)⟩
   ·rw [← tg hci (agi _)];exact ti
   ·rw [putd_comm hne]
  ·rw [bi,bj,vi] at hpass;simp [vj] at hpass;simp_all
  ·rw [bi,bj] at hpass
   have e2':=e2.congr k2 (agj _)
   have l2':=lda (agj _) l2
   have hp:(kindOf oj.op=0∨(ex.lookup j).isSome=true)∨isAl R oj=true:=by
    simp only [Bool.false_or,vi,vj,if_true,Bool.not_false,Bool.true_and] at hpass;simpa [or_assoc] using hpass
   rcases hp with hp | hp
   ·have hq:H3=H2∧Ex P T Mv G oj σ.env σ.H z σ.H:=by
     rcases hp with hp | hp
     ·exact ⟨e2'.keeps (by omega),e2'.free hp σ.H⟩
     ·obtain ⟨pv,hpv⟩:=Option.isSome_iff_exists.1 hp
      have hs:=(hld _ (lookup_mem hpv)).1
      refine ld_moves hoj hpv l2' ?_ e2';unfold LdSame at hs ⊢;simp only [hoj] at hs ⊢
      split<;>simp_all
    obtain ⟨rfl,e3⟩:=hq
    refine ⟨⟨putd σ.env oj.dst z,σ.H⟩,⟨dj,gj,oE,.inr (.inr ⟨bj,vj,k2,l2',z,σ.H,e3,oz,rfl⟩)⟩,di,gi,oE.put oz _,.inr (.inl ⟨bi,vi,c,g,xs,y,H3,hci,?_,hmv,hcl,hld,oy,?_⟩)⟩
    ·rw [← tg hci (agi _)];exact ti
    ·rw [putd_comm hne]
   ·obtain ⟨d,t,cs,hd,hn,rfl,hre⟩:=al_run hp e2'
    have hn1:σ.H d=none:=by rw [← hcl.2.1 d hd];exact hn
    refine ⟨⟨putd σ.env oj.dst z,hup σ.H d (.box t (cs.map AV.d))⟩,⟨dj,gj,oE,.inr (.inr ⟨bj,vj,k2,l2',z,_,hre _ _ hn1,oz,rfl⟩)⟩,di,gi,oE.put oz _,.inr (.inl ⟨bi,vi,c,g,xs,y,patch R (hup σ.H d (.box t (cs.map AV.d))) H2,hci,?_,hmv,hcl.swap (closed_hup hcl.1) (out_hup hd),fun p hp=>⟨(hld p hp).1.swap (hld p hp).2 (out_hup hd),(hld p hp).2⟩,oy,?_⟩)⟩
    ·rw [← tg hci (agi _)];exact ti
    ·rw [putd_comm hne,patch_hup2 hd hcl.2.1]
 ·rcases h2 with ⟨bj,c',z,e2,c2,rfl⟩ | ⟨bj,vj,c',g,xs,z,H2,hcj,tj,hmv,hcl,hld,oz,rfl⟩ | ⟨bj,vj,k2,l2,z,H2,e2,oz,rfl⟩
  ·rw [dataW_congr (agj _)] at e2;refine ⟨⟨putd σ.env oj.dst (.d z),σ.H⟩,⟨dj,gj,oE,.inl ⟨bj,c',z,e2,c2,rfl⟩⟩,di,gi,oE.put (OffV.d _ _) _,.inr (.inr ⟨bi,vi,k1,lda (agi _) l1,x,H',e1.congr k1 (agi _),ox,?_⟩)⟩;rw [putd_comm hne]
  ·rw [tg hcj (agj _)] at tj;rw [bi,bj] at hpass
   have hp:(kindOf oi.op=0∨(ex.lookup i).isSome=true)∨isAl R oi=true:=by
    simp only [Bool.false_or,vi,vj,if_true,Bool.false_eq_true,if_false] at hpass;simpa [or_assoc] using hpass
   have e1':=e1.congr k1 (agi z)
   have l1':=lda (agi z) l1
   rcases hp with (hp | hp) | hp
   ·obtain rfl:=e1.keeps (by omega)
    refine ⟨⟨putd σ.env oj.dst z,H2⟩,⟨dj,gj,oE,.inr (.inl ⟨bj,vj,c',g,xs,z,H2,hcj,tj,hmv,hcl,hld,oz,rfl⟩)⟩,di,gi,oE.put oz _,.inr (.inr ⟨bi,vi,k1,l1',x,H2,e1'.free hp H2,ox,?_⟩)⟩;rw [putd_comm hne]
   ·obtain ⟨pv,hpv⟩:=Option.isSome_iff_exists.1 hp
    have hs:=(hld _ (lookup_mem hpv)).1
    have hH:H'=σ.H:=(ld_moves (H2:=σ.H) hoi hpv l1 (by unfold LdSame;simp only [hoi];unfold LdSame at hs;simp only [hoi] at hs;split<;>simp_all) e1).1
    subst hH
    obtain ⟨_,e3⟩:=ld_moves hoi hpv l1' hs e1'
    refine ⟨⟨putd σ.env oj.dst z,H2⟩,⟨dj,gj,oE,.inr (.inl ⟨bj,vj,c',g,xs,z,H2,hcj,tj,hmv,hcl,hld,oz,rfl⟩)⟩,di,gi,oE.put oz _,.inr (.inr ⟨bi,vi,k1,l1',x,H2,e3,ox,?_⟩)⟩;rw [putd_comm hne]
   ·obtain ⟨d,t,cs,hd,hn,rfl,hre⟩:=al_run hp e1'
    have hO:=out_hup (H:=σ.H) (b:=.box t (cs.map AV.d)) hd
    have hcl2:=hcl.swap (closed_of hcl.1 hn) hO.symm
    have hn2:patch R σ.H H2 d=none:=by unfold patch;rw [if_pos hd];exact hn
    refine ⟨⟨putd σ.env oj.dst z,patch R σ.H H2⟩,⟨dj,gj,oE,.inr (.inl ⟨bj,vj,c',g,xs,z,patch R σ.H H2,hcj,tj,hmv,hcl2,fun p hp=>⟨(hld p hp).1.swap (hld p hp).2 hO.symm,(hld p hp).2⟩,oz,rfl⟩)⟩,di,gi,oE.put oz _,.inr (.inr ⟨bi,vi,k1,l1',x,_,hre _ _ hn2,ox,?_⟩)⟩;rw [putd_comm hne,patch_hup hd,patch_self hcl.2.1]
  ·rw [bi,bj] at hpass
   have hcc:compat ops oi oj=true:=by simp only [compat,Bool.and_eq_true];simp only [Bool.false_or,vi,vj,Bool.false_eq_true,if_false] at hpass;exact ⟨hap,hpass⟩
   obtain ⟨H3,f1,f2⟩:=commute (N:=N) hcc ⟨di,.inl ⟨wantedS_free gi,e1⟩⟩ ⟨dj,.inl ⟨wantedS_free gj,e2⟩⟩ k1 k2
   have un:∀ {o:Oper} {e:Env} {H H':Heap} {x:AV},o.guard=none→Sx P T Mv G N ops o e H x H'→Ex P T Mv G o e H x H':=fun hgu h=>by
    rcases h.2 with ⟨_,h⟩ | ⟨hw,_⟩
    ·exact h
    ·rw [wantedS_free hgu] at hw;cases hw
   refine ⟨⟨putd σ.env oj.dst z,H3⟩,⟨dj,gj,oE,.inr (.inr ⟨bj,vj,k2,lda (agj _) l2,z,H3,un gj f1,oz,rfl⟩)⟩,di,gi,oE.put oz _,.inr (.inr ⟨bi,vi,k1,lda (agi _) l1,x,H2,un gi f2,ox,?_⟩)⟩;rw [putd_comm hne]
def haK (P:Program) (T:Ty) (Mv:Nat→Prop) (G:Glob) (mvd R:List Nat) (ops:Array Oper) (ex:List (Nat×AV)) (g:FuncId) (xs:List AV) (σ:St) (dst:Option Tmp) (K:St→Prop):Prop:=∃ y H2,(∀ r∈mvd,Mv r)∧HCA P G mvd R g xs σ.H y H2∧(∀ p∈ex,LdSame T ops σ.H H2 p∧offR R p.2=true)∧OffV mvd y∧K ⟨putd σ.env dst y,H2⟩
theorem tr_data (o f:Nat→Nat→Nat→AV) (t:TypeId) (cs:List D):Row.tr o f (.box t (cs.map AV.d)) = .box t (cs.map AV.d):=by
 simp [Row.tr,AV.tr,Function.comp_def]
theorem hlst_some {l:List (Nat×Row)} {q:Nat} (h:(hlst l q).isSome=true):∃ p∈l,p.1=q:=by
 induction l with
 | nil=>simp [hlst] at h
 | cons p l ih=>
  simp only [hlst,List.lookup] at h
  cases hqp:(q == p.1) with
  | true=>exact ⟨p,by simp,by simpa using (beq_iff_eq.1 hqp).symm⟩
  | false=>
   rw [hqp] at h
   obtain ⟨p',h1,h2⟩:=ih h
   exact ⟨p',by simp [h1],h2⟩
theorem haK.mc {mvd R:List Nat} {ex:List (Nat×AV)} {dst:Option Tmp} {K:St→Prop} {fx:List Nat} {g:FuncId} {xs0 xs:List AV} {rows1 rows2:List (Nat×Row)} {y:AV} (hc:MC P G fx g xs (hlst rows1) y (hlst rows2)) (hx:xs0.map (AV.tr (onlyO (rows1.map (·.1))) (onlyF (rows1.map (·.1))))=xs)
  (hR:∀ r∈R,(rows1.map (·.1)).contains r=false∧(rows2.map (·.1)).contains r=false∧(σ.H r=none∨∃ (t:TypeId) (cs:List D),σ.H r=some (.box t (cs.map AV.d))))
  (hH:∀ p∈rows1,(σ.H p.1).map (Row.tr (onlyO (rows1.map (·.1))) (onlyF (rows1.map (·.1))))=hlst rows1 p.1) (hd:∀ p∈rows2,(rows1.map (·.1)).contains p.1=true∨σ.H p.1=none) (hm:∀ r∈rows1.map (·.1),fx.contains r=false→r∈mvd) (hmv:∀ r∈mvd,Mv r) (ho:∀ r∈mvd,y.kill r=y)
  (hl:∀ p∈ex,LdSame T ops σ.H (hjoin (hlst rows2) (trH (offL (rows1.map (·.1))) (stayO (rows1.map (·.1)) fx) (stayF (rows1.map (·.1)) fx) σ.H)) p∧offR R p.2=true)
  (h:K ⟨putd σ.env dst y,hjoin (hlst rows2) (trH (offL (rows1.map (·.1))) (stayO (rows1.map (·.1)) fx) (stayF (rows1.map (·.1)) fx) σ.H)⟩):haK P T Mv G mvd R ops ex g xs0 σ dst K:=by
 have hin:∀ q,R.contains q=true→q∈R:=fun q hq=>List.contains_iff_mem.1 hq
 have hcl:ClosedR R σ.H:=fun q hq=>(hR q (hin q hq)).2.2
 have hst:∀ (H0:Heap),ClosedR R H0→∀ q,R.contains q=true→hjoin (hlst rows2) (trH (offL (rows1.map (·.1))) (stayO (rows1.map (·.1)) fx) (stayF (rows1.map (·.1)) fx) H0) q=H0 q:=fun H0 hc0 q hq=>by
  obtain ⟨a1,a2,_⟩:=hR q (hin q hq)
  have e1:hlst rows2 q=none:=by
   cases he:hlst rows2 q with
   | none=>rfl
   | some r=>
    obtain ⟨p,hp,rfl⟩:=hlst_some (l:=rows2) (q:=q) (by rw [he];rfl)
    have:(rows2.map (·.1)).contains p.1=true:=List.contains_iff_mem.2 (List.mem_map.2 ⟨p,hp,rfl⟩)
    rw [this] at a2;cases a2
  unfold hjoin;rw [e1]
  dsimp only
  unfold trH offL;rw [a1];simp only [Bool.not_false,if_true]
  rcases hc0 q hq with h0 | ⟨t,cs,h0⟩
  ·rw [h0];rfl
  ·rw [h0,Option.map_some,tr_data]
 refine ⟨y,_,hmv,⟨hcl,hst σ.H hcl,fun H0 hc0 ho0=>?_⟩,hl,ho,h⟩
 have off1:∀ p∈rows1,R.contains p.1=false:=fun p hp=>by
  cases he:R.contains p.1 with
  | false=>rfl
  | true=>
   have h1:=(hR p.1 (hin _ he)).1
   have:(rows1.map (·.1)).contains p.1=true:=List.contains_iff_mem.2 (List.mem_map.2 ⟨p,hp,rfl⟩)
   rw [this] at h1;cases h1
 have off2:∀ p∈rows2,R.contains p.1=false:=fun p hp=>by
  cases he:R.contains p.1 with
  | false=>rfl
  | true=>
   have h1:=(hR p.1 (hin _ he)).2.1
   have:(rows2.map (·.1)).contains p.1=true:=List.contains_iff_mem.2 (List.mem_map.2 ⟨p,hp,rfl⟩)
   rw [this] at h1;cases h1
 have key:=HC.mc (mvd:=mvd) (H:=H0) hc hx (fun p hp=>by rw [ho0 p.1 (off1 p hp)];exact hH p hp) (fun p hp=>by rw [ho0 p.1 (off2 p hp)];exact hd p hp) hm
 have e:patch R H0 (hjoin (hlst rows2) (trH (offL (rows1.map (·.1))) (stayO (rows1.map (·.1)) fx) (stayF (rows1.map (·.1)) fx) σ.H))=hjoin (hlst rows2) (trH (offL (rows1.map (·.1))) (stayO (rows1.map (·.1)) fx) (stayF (rows1.map (·.1)) fx) H0):=by
  funext q
  unfold patch
  split
  ·rename_i hq;exact (hst H0 hc0 q hq).symm
  ·rename_i hq
   have hq':R.contains q=false:=by simpa using hq
   unfold hjoin trH;rw [ho0 q hq']
 rw [e];exact key
def stepA (P:Program) (T:Ty) (Mv:Nat→Prop) (G:Glob) (N:Fr) (mvd R db hv:List Nat) (ex:List (Nat×AV)) (ops:Array Oper) (i:Nat) (o:Oper) (σ:St) (K:St→Prop):Prop:=okDst N o∧o.guard=none∧
 if db.contains i=true then (match dataW T G σ.env o with
  | some (c,y)=>c∧K ⟨putd σ.env o.dst (.d y),σ.H⟩
  | none=>False)
 else if hv.contains i=true then (match isCall o.op with
  | some c=>match tgt G σ.env c with
   | some (g,xs)=>haK P T Mv G mvd R ops ex g xs σ o.dst K
   | none=>False
  | none=>False)
 else kindOf o.op≠9∧ldAt G ex i o σ.env∧match isCall o.op with
  | some c=>callD P G c σ.env o.dst σ.H [] [] K
  | none=>plainM T G Mv mvd o σ K
def sxa (P:Program) (T:Ty) (Mv:Nat→Prop) (G:Glob) (N:Fr) (mvd R db hv:List Nat) (ex:List (Nat×AV)) (ops:Array Oper) (K:St→Prop):List (Nat×Oper)→St→Prop
 | [],σ=>K σ
 | (i,o) :: rest,σ=>stepA P T Mv G N mvd R db hv ex ops i o σ (sxa P T Mv G N mvd R db hv ex ops K rest)
theorem sxa_run {mvd R db hv:List Nat} {ex:List (Nat×AV)} {K:St→Prop}:∀ (l:List Nat) (σ:St),(∀ i∈l,i < ops.size)→OffE mvd σ.env→sxa P T Mv G N mvd R db hv ex ops K (inOrder ops l) σ→∃ σn,K σn∧Go.Av.runS (AStep P T Mv G N mvd R db hv ex ops) ops l σ σn:=by
 intro l
 induction l with
 | nil=>intro σ _ _ h;exact ⟨σ,h,rfl⟩
 | cons i l ih=>
  intro σ hl hoE h
  have hi:=hl i (by simp)
  have ho:ops[i]? = some ops[i]:=by simp [hi]
  simp only [inOrder,ho] at h;generalize ops[i]=o at ho h;simp only [sxa,stepA] at h
  obtain ⟨hd,hgu,h⟩:=h
  have fin:∀ σ1,AStep P T Mv G N mvd R db hv ex ops i o σ σ1→OffE mvd σ1.env→sxa P T Mv G N mvd R db hv ex ops K (inOrder ops l) σ1→∃ σn,K σn∧Go.Av.runS (AStep P T Mv G N mvd R db hv ex ops) ops (i :: l) σ σn:=fun σ1 hs hE h1=>by
   obtain ⟨σn,hk,hr⟩:=ih σ1 (fun j hj=>hl j (by simp [hj])) hE h1
   exact ⟨σn,hk,o,ho,σ1,hs,hr⟩
  split at h
  ·rename_i hb
   split at h
   ·rename_i c y hw
    obtain ⟨hc,h⟩:=h
    exact fin _ ⟨hd,hgu,hoE,.inl ⟨hb,c,y,hw,hc,rfl⟩⟩ (hoE.put (OffV.d _ _) _) h
   ·exact h.elim
  ·rename_i hb
   have hb:db.contains i=false:=by simpa using hb
   split at h
   ·rename_i hv1
    split at h
    ·rename_i c hc
     split at h
     ·rename_i g xs ht
      obtain ⟨y,H2,h0,h1,h2,h3,h⟩:=h
      exact fin _ ⟨hd,hgu,hoE,.inr (.inl ⟨hb,hv1,c,g,xs,y,H2,hc,ht,h0,h1,h2,h3,rfl⟩)⟩ (hoE.put h3 _) h
     ·exact h.elim
    ·exact h.elim
   ·rename_i hv1
    have hv1:hv.contains i=false:=by simpa using hv1
    obtain ⟨hk,hla,h⟩:=h
    split at h
    ·rename_i c hc
     obtain ⟨y,g,ds,ht,hp,hoff,h⟩:=h
     refine fin _ ⟨hd,hgu,hoE,.inr (.inr ⟨hb,hv1,hk,hla,.d y,σ.H,?_,OffV.d _ _,rfl⟩)⟩ (hoE.put (OffV.d _ _) _) h;unfold Ex;simp only [hc];exact ⟨y,⟨g,_,ht,.inl ⟨ds,rfl,hp⟩⟩,rfl,trivial⟩
    ·rename_i hc
     unfold plainM at h
     split at h
     ·rename_i hw
      split at h
      ·rename_i c x σ1 h1
       obtain ⟨hcc,hoff,h⟩:=h
       have he:=wr_env hk h1
       obtain ⟨e,H⟩:=σ
       obtain ⟨e1,H1⟩:=σ1
       dsimp only at he
       subst he;refine fin _ ⟨hd,hgu,hoE,.inr (.inr ⟨hb,hv1,hk,hla,x,H1,?_,hoff,rfl⟩)⟩ (hoE.put hoff _) h;unfold Ex;simp only [hc];rw [if_pos hw];exact ⟨c,h1,hcc⟩
      ·exact h.elim
     ·rename_i hw
      split at h
      ·rename_i c x h1
       obtain ⟨hcc,hoff,h⟩:=h
       refine fin _ ⟨hd,hgu,hoE,.inr (.inr ⟨hb,hv1,hk,hla,x,σ.H,?_,hoff,rfl⟩)⟩ (hoE.put hoff _) h;unfold Ex;simp only [hc];rw [if_neg hw];exact ⟨c,h1,hcc,trivial⟩
      ·exact h.elim
theorem AW_regionA (hg:Good P T) (hm:P.follows .mixedOrders=true) (mvd R db hv:List Nat) (ex:List (Nat×AV)) (ord:List Nat) {id:Nat} (hok:okDrawS (compatA R db hv ex ops) ord ops=true) (hoE:OffE mvd σ.env) {Q:Exit→St→Prop} (h:sxa P T Mv G N mvd R db hv ex ops (fun σ'=>Q .normal σ') (inOrder ops ord) σ):AW P Mv X G N (.region id ops true) Q σ:=
 AW_regionS hm (astep_sound hg mvd R db hv ex) (astep_swaps mvd R db hv ex) ord hok fun hlt=>sxa_run ord σ hlt hoE h
theorem AW_ra (hg:Good P T) (hm:P.follows .mixedOrders=true) (mvd R db hv:List Nat) (ex:List (Nat×AV)) (ord:List Nat) (l ns:List Nat) (hM:∀ r,ns.contains r=false→Mv r) {id:Nat} (hok:okDrawS (compatA R db hv ex ops) ord ops=true) (hoE:OffE mvd σ.env) {y:Code} {Q:Exit→St→Prop}
  (h:∀ K:St→Prop,(∀ τ:St,AW P Mv X G N y Q (τ.norm l ns)→K τ)→sxa P T Mv G N mvd R db hv ex ops K (inOrder ops ord) σ):AW P Mv X G N (.seq (.region id ops true) y) Q σ:=
 AW_seq (AW_regionA hg hm mvd R db hv ex ord hok hoE (h _ fun _ h=>h.norm l ns hM))
theorem sxa_nextO {mvd R db hv:List Nat} {ex:List (Nat×AV)} {K:St→Prop} {i:Nat} {l:List Nat} {o:Oper} (ho:ops[i]? = some o) (h:∀ K':St→Prop,(∀ τ,sxa P T Mv G N mvd R db hv ex ops K (inOrder ops l) τ→K' τ)→stepA P T Mv G N mvd R db hv ex ops i o σ K'):sxa P T Mv G N mvd R db hv ex ops K (inOrder ops (i :: l)) σ:=by
 have:inOrder ops (i :: l)=(i,o) :: inOrder ops l:=by simp [inOrder,ho]
 rw [this];exact h _ fun _ h=>h
theorem sxa_nilO {mvd R db hv:List Nat} {ex:List (Nat×AV)} {K:St→Prop} (h:K σ):sxa P T Mv G N mvd R db hv ex ops K (inOrder ops []) σ:=h
end
attribute [simp] stepA
attribute [simp] offR
end Go.Av
namespace Go.Proofs.YtpboiimemmfkiaaGreatDoor
open Go.Av
theorem one_len (l:List Int):(∀ el∈l.map (fun n=>[D.v (.int .i64 n)]),el.length=1)=True:=eq_true (by simp)
theorem one_one (l:List Int):(∀ el∈l.map (fun n=>[D.v (.int .i64 n)]),∀ c∈el,c.one=true)=True:=eq_true (by simp [D.one])
theorem oneB_len (l:List Bool):(∀ el∈l.map (fun n=>[D.v (.bool n)]),el.length=1)=True:=eq_true fun el h=>by obtain ⟨b,_,rfl⟩:=List.mem_map.1 h;rfl
theorem oneB_one (l:List Bool):(∀ el∈l.map (fun n=>[D.v (.bool n)]),∀ c∈el,c.one=true)=True:=eq_true fun el h c hc=>by
 obtain ⟨b,_,rfl⟩:=List.mem_map.1 h
 obtain rfl:=List.mem_singleton.1 hc
 rfl
set_option maxHeartbeats 2000000 in
theorem cloneI_mc (G:Glob) (l:List Int) (h:l.length < 2^40):MC Tryz.prog G [] 149 [.d (dIl l)] (hlst []) (.own 702 0 l.length) (hlst [(702,.sl 3 1 (l.map fun n=>[.v (.int .i64 n)]))]):=by
 have hl2:(l.map fun n=>[D.v (.int .i64 n)]).length=l.length:=by simp
 have q1:=one_len l
 have q2:=one_one l
 simp only [dIl];rw [← hl2];rw [← hl2] at h;generalize (l.map fun n=>[D.v (.int .i64 n)])=L at *;refine MC.of_body (tyOf_good _) Tryz.func149 rfl rfl (rs:=[.tmp 2]) Tryz.results149 (by simp [Tryz.ntmps149]) rfl fun X=>?_;simp only [Tryz.ntmps149];refine AW.nilCase 0 rfl ?_ fun hl=>?_
 ·refine rg0 [0] [] ?_;refine AW_then fun K1 hK1=>?_;refine rg0 [0,4] [] ?_;refine AW_cond false rfl (fun hc=>by cases hc) (fun hc=>?_);refine AW_skip (hK1 _ ?_)
  have qf:=(Aq @q1 @q2)
  refine rgqv [2] [5] ?_;refine AW.imp (Imp.ren (r:=5) (r':=702) (by decide) (by simp)) ?_;refine AW.st (by simp [renO,renF,Go.Av.ren,renH_hlst];rfl) ?_;refine AW_ret ?_;simp [D.le,D.le.go,takeMap]
 ·subst hl;refine rg0 [0] [] ?_;refine AW_then fun K1 hK1=>?_;refine rg0 [0,4] [] ?_;refine AW_cond true rfl (fun hc=>?_) (fun hc=>by cases hc);refine rg0 [2] [] ?_;refine AW.imp (Imp.adopt 2 702 3 1 rfl rfl) ?_;refine AW.st (by simp;rfl) ?_;refine AW_ret ?_;simp [D.le,D.le.go,takeMap]
set_option maxHeartbeats 2000000 in
theorem cloneB_mc (G:Glob) (l:List Bool) (h:l.length < 2^40):MC Tryz.prog G [] 148 [.d (dBl l)] (hlst []) (.own 701 0 l.length) (hlst [(701,.sl 4 1 (l.map fun n=>[.v (.bool n)]))]):=by
 have hl2:(l.map fun n=>[D.v (.bool n)]).length=l.length:=by simp
 have q1:=oneB_len l
 have q2:=oneB_one l
 simp only [dBl];rw [← hl2];rw [← hl2] at h;generalize (l.map fun n=>[D.v (.bool n)])=L at *;refine MC.of_body (tyOf_good _) Tryz.func148 rfl rfl (rs:=[.tmp 2]) Tryz.results148 (by simp [Tryz.ntmps148]) rfl fun X=>?_;simp only [Tryz.ntmps148];refine AW.nilCase 0 rfl ?_ fun hl=>?_
 ·refine rg0 [0] [] ?_;refine AW_then fun K1 hK1=>?_;refine rg0 [0,4] [] ?_;refine AW_cond false rfl (fun hc=>by cases hc) (fun hc=>?_);refine AW_skip (hK1 _ ?_)
  have qf:=(Aq @q1 @q2)
  refine rgqv [2] [5] ?_;refine AW.imp (Imp.ren (r:=5) (r':=701) (by decide) (by simp)) ?_;refine AW.st (by simp [renO,renF,Go.Av.ren,renH_hlst];rfl) ?_;refine AW_ret ?_;simp [D.le,D.le.go,takeMap]
 ·subst hl;refine rg0 [0] [] ?_;refine AW_then fun K1 hK1=>?_;refine rg0 [0,4] [] ?_;refine AW_cond true rfl (fun hc=>?_) (fun hc=>by cases hc);refine rg0 [2] [] ?_;refine AW.imp (Imp.adopt 2 701 4 1 rfl rfl) ?_;refine AW.st (by simp;rfl) ?_;refine AW_ret ?_;simp [D.le,D.le.go,takeMap]
end Go.Proofs.YtpboiimemmfkiaaGreatDoor
namespace Go.Proofs.YtpboiimemmfkiaaGreatDoor
open Go.Av
theorem nameF_nn {s:Tx} (h:nameF s=true):s≠[]:=(name_facts h).1
theorem ask_names {S1 S2:Tx→Prop}:∀ (n:Nat) (e:Ex),SizeOf.sizeOf e≤n→WfE e→(∀ s∈nmsE true e,S1 s)→(∀ s∈nmsE false e,S2 s)→AskE S1 S2 e
 | 0,e,hn,_,_,_=>by cases e<;>simp at hn
 | n+1,e,hn,hw,h1,h2=>by
  have many:∀ l:List Ex,(∀ x∈l,SizeOf.sizeOf x≤n)→(∀ s∈nmsL true l,S1 s)→(∀ s∈nmsL false l,S2 s)→(∀ x∈l,WfE x)→AskL S1 S2 l:=by
   intro l
   induction l with
   | nil=>intro _ _ _ _;rw [AskL];trivial
   | cons x l ih=>
    intro hs h1 h2 h3
    simp only [nmsL,List.mem_append] at h1 h2;rw [AskL];exact ⟨ask_names n x (hs x (by simp)) (h3 x (by simp)) (fun s h=>h1 s (.inl h)) (fun s h=>h2 s (.inl h)),ih (fun y hy=>hs y (by simp [hy])) (fun s h=>h1 s (.inr h)) (fun s h=>h2 s (.inr h)) (fun y hy=>h3 y (by simp [hy]))⟩
  cases e with
  | cst b=>rw [AskE];trivial
  | bit s=>
   rw [AskE];rw [WfE] at hw;exact h1 s (by simp [nmsE,nmE,one1,nameF_nn hw])
  | rise s=>
   rw [AskE];rw [WfE] at hw;exact ⟨h1 s (by simp [nmsE,nmE,one1,nameF_nn hw]),h2 s (by simp [nmsE,nmE,one1,nameF_nn hw])⟩
  | fall s=>
   rw [AskE];rw [WfE] at hw;exact ⟨h1 s (by simp [nmsE,nmE,one1,nameF_nn hw]),h2 s (by simp [nmsE,nmE,one1,nameF_nn hw])⟩
  | not x=>
   rw [AskE];rw [WfE] at hw;exact ask_names n x (by simp at hn;omega) hw (fun s h=>h1 s (by rw [nmsE];exact h)) (fun s h=>h2 s (by rw [nmsE];exact h))
  | and l=>
   rw [AskE];rw [WfE] at hw;exact many l (fun x hx=>by have:=List.sizeOf_lt_of_mem hx;simp only [Ex.and.sizeOf_spec] at hn;omega) (fun s h=>h1 s (by rw [nmsE];exact h)) (fun s h=>h2 s (by rw [nmsE];exact h)) ((WfEs_iff l).1 hw.2)
  | or l=>
   rw [AskE];rw [WfE] at hw;exact many l (fun x hx=>by have:=List.sizeOf_lt_of_mem hx;simp only [Ex.or.sizeOf_spec] at hn;omega) (fun s h=>h1 s (by rw [nmsE];exact h)) (fun s h=>h2 s (by rw [nmsE];exact h)) ((WfEs_iff l).1 hw.2)
theorem ask_in {S1 S2:Tx→Prop} {e:Ex} (hw:WfE e) (h1:∀ s∈nmsE true e,S1 s) (h2:∀ s∈nmsE false e,S2 s):AskE S1 S2 e:=ask_names _ e (Nat.le_refl _) hw h1 h2
end Go.Proofs.YtpboiimemmfkiaaGreatDoor
namespace Go.Proofs.YtpboiimemmfkiaaGreatDoor
open Go.Av
theorem rungs_take (p:PgP) (s t0:StP) {n:Nat} (h:n < p.rungs.length):(p.rungs.take (n+1)).foldl (rungS p s) t0=rungS p s ((p.rungs.take n).foldl (rungS p s) t0) p.rungs[n]:=by
 rw [List.take_succ_eq_append_getElem h,List.foldl_append];rfl
theorem rung_ask {p:PgP} (hc:checkP p=none) (hk:∀ r∈p.rungs,CondOk r) {r:RgP} (hr:r∈p.rungs):∃ e,r.cond=some e∧AskE (fun nm=>¬ numP p nm < 0) (fun nm=>¬ numP p nm < 0) e∧bE e≤2^28:=by
 obtain ⟨e,he,hw,_,hb⟩:=hk r hr
 obtain ⟨_,_,e',he',hin⟩:=checkP_rung hc r hr
 rw [he] at he'
 obtain rfl:=Option.some.inj he'
 refine ⟨e,he,ask_in hw (fun s hs=>hin s (namesE_mem.2 hs)) (fun s hs=>hin s (names_sub (namesE_mem.2 hs))),by omega⟩
set_option maxRecDepth 100000 in
set_option maxHeartbeats 32000000 in
theorem do_spec (G:Glob) (p:PgP) (hck:checkP p=none) (hk:∀ r∈p.rungs,CondOk r) (s:StP) (hs:InvS p s) (inn:List Bool) (hin:inn.length=(inputP p).length):PureC Tryz.prog G 97 [dPg p,dSt s,dBl inn] (dSt (doP p s inn)):=by
 have hg:=checkP_good hck
 have hnm:=hg.names
 have hrn:=hg.rungs
 have hs1:=hs.l1
 have hs2:=hs.l2
 have hkd:=lkind_spec G p (by omega) 1
 have hcb:=cloneB_mc G s.is (by omega)
 have hci:=cloneI_mc G s.ct (by omega)
 have hnum:=fun x=>lc_num G p (by omega) x
 have hiL:=kindN_len p.names 1 p.names.length
 obtain ⟨t0,ht0,hI0⟩:∃ t0,t0=(⟨putIn (inputP p) inn s.is (inputP p).length,s.ct⟩:StP)∧InvS p t0:=⟨_,rfl,(putIn_inv inn hs _ (Nat.le_refl _)).1⟩
 obtain ⟨T,hT⟩:∃ T:Nat→StP,∀ n,T n=(p.rungs.take n).foldl (rungS p s) t0:=⟨_,fun _=>rfl⟩
 have hT0:T 0=t0:=hT 0
 have hTs:∀ n (h:n < p.rungs.length),T (n+1)=rungS p s (T n) p.rungs[n]:=fun n h=>by rw [hT,hT,rungs_take p s t0 h]
 have hTe:T p.rungs.length=doP p s inn:=by rw [hT,List.take_length,ht0];rfl
 have hTi:∀ n,InvS p (T n):=fun n=>by rw [hT];exact (rungs_inv hck s _ (fun r hr=>List.mem_of_mem_take hr) hI0).1
 have hask:∀ n (h:n < p.rungs.length),∃ e,p.rungs[n].cond=some e∧PureC Tryz.prog G 152 [dE e,.fn (.func 150) [.ip (cSt (T n)),.ip (cPg p)],.fn (.func 151) [.ip (cSt s),.ip (cPg p)]] (.v (.bool (evE (bitF p (T n).is) (bitF p s.is) e))):=fun n h=>by
  obtain ⟨e,he,ha,hb⟩:=rung_ask hck hk (List.getElem_mem h)
  exact ⟨e,he,eval_on G _ _ _ _ _ _ _ _ (ask1 G p (by omega) (T n) (hTi n).l1) (ask2 G p (by omega) s hs1) e ha hb⟩
 clear hT;rw [← hTe]
 have hput:∀ k,k≤(inputP p).length→(putIn (inputP p) inn s.is k).length=p.names.length:=fun k hk=>(putIn_inv inn hs k hk).1.l1
 have hpus:∀ k (h:k < (inputP p).length) (h2:k < inn.length),∃ i,i < p.names.length∧(inputP p)[k]=(i:Int)∧putIn (inputP p) inn s.is (k+1)=(putIn (inputP p) inn s.is k).set i inn[k]:=fun k h h2=>by
  obtain ⟨i,hi,he,_⟩:=input_at h
  refine ⟨i,hi,he,?_⟩;rw [putIn_succ h he]
  congr 1
  exact getD_of h2
 have hp0:putIn (inputP p) inn s.is 0=s.is:=rfl
 have hpe:t0=⟨putIn (inputP p) inn s.is (inputP p).length,s.ct⟩:=ht0
 clear ht0;generalize hPI:putIn (inputP p) inn s.is=PI at hput hpus hp0 hpe;clear hPI
 have hkI:kindN p.names 1 p.names.length=inputP p:=rfl
 rw [hkI] at hkd hiL;generalize inputP p=KI at *;simp only [dPg,cPg,dNms,dRgs,dBl,dIl,cSt] at hkd hcb hci hnum hask;simp only [dPg,cPg,dNms,dRgs,dSt,cSt,dBl,dIl]
 have hNl:(p.names.map cNm).length=p.names.length:=by simp
 have hNg:∀ i (h:i < p.names.length),(p.names.map cNm)[i]? = some [.v (.string (bs p.names[i].name)),.v (.int .i64 p.names[i].kind),.v (.int .i64 p.names[i].count)]:=fun i h=>by simp [h,cNm,dS]
 have hRl:(p.rungs.map cRg).length=p.rungs.length:=by simp
 have hRg:∀ i (h:i < p.rungs.length),(p.rungs.map cRg)[i]? = some (cRg p.rungs[i]):=fun i h=>by simp [h]
 generalize p.names.map cNm=NN at *;generalize p.rungs.map cRg=RR at *;refine PureC.of_body (tyOf_good _) Tryz.func97 rfl rfl (rs:=[.cell 6 72]) Tryz.results97 (by simp [Tryz.ntmps97]) fun X=>?_;simp only [Tryz.ntmps97,List.map]
 have fw:=@dNum.eq_1
 refine rgq fw [2,3,4,6] [3,4,6] ?_;refine AW.imp (Imp.freezeB 3 trivial) ?_;refine AW.st (by simp [dNum];rfl) ?_;refine AW.imp (Imp.freezeB 4 trivial) ?_;refine AW.st (by simp [dNum];rfl) ?_;refine AW_ra (tyOf_good _) (by kernel_rfl) ([]) ([7]) ([]) ([2,5]) ([(1,.d (.ip [.sl none (s.is.map fun b=>[.v (.bool b)]),.sl none (s.ct.map fun n=>[.v (.int .i64 n)])])),(4,.d (.ip [.sl none (s.ct.map fun n=>[.v (.int .i64 n)])]))]) (List.range 9) [2,3,4,6,7] [6,7,701,702] (fun _ _=>trivial) (by kernel_rfl) (by simp [OffE]) fun K' hK'=>?_;(repeat (refine sxa_nextO rfl fun K2 hK2=>?_;simp [dNum];(repeat (refine ⟨by omega,?_⟩));refine hK2 _ ?_;clear hK2 K2));refine sxa_nextO rfl fun K2 hK2=>?_;simp [dNum];refine haK.mc (hcb) (by simp [dNum]) (by simp [dNum]) (by simp [dNum]) (by simp [dNum]) (by simp [dNum]) (by simp [dNum]) (by simp [dNum]) (by simp [LdSame,dNum]) ?_;simp [dNum];refine hK2 _ ?_;clear hK2 K2;(repeat (refine sxa_nextO rfl fun K2 hK2=>?_;simp [dNum];(repeat (refine ⟨by omega,?_⟩));refine hK2 _ ?_;clear hK2 K2));refine sxa_nextO rfl fun K2 hK2=>?_;simp [dNum];refine haK.mc (hci) (by simp [dNum]) (by simp [dNum]) (by simp [dNum]) (by simp [dNum]) (by simp [dNum]) (by simp [dNum]) (by simp [dNum]) (by simp [LdSame,dNum]) ?_;simp [dNum];refine hK2 _ ?_;clear hK2 K2;(repeat (refine sxa_nextO rfl fun K2 hK2=>?_;simp [dNum];(repeat (refine ⟨by omega,?_⟩));refine hK2 _ ?_;clear hK2 K2));refine sxa_nilO (hK' _ ?_);refine AW.st (by simp [dNum];rfl) ?_;clear hK' K';refine AW_then fun K1 hK1=>?_;refine rgc fw hkd [2,3,4,6,7,24,25,26] [6,7,701,702] ?_;refine AW_for (S:=Nat) (fun k=>k≤KI.length) (fun k=>⟨lst [(2,.d (.sl none (inn.map fun b=>[.v (.bool b)]))),(3,.d (.ip [.sl none NN,.sl none RR])),(4,.d (.ip [.sl none (s.is.map fun b=>[.v (.bool b)]),.sl none (s.ct.map fun n=>[.v (.int .i64 n)])])),(6,.ref 6 0 0),(7,.ref 7 0 0),(24,.d (.sl none (KI.map fun x=>[.v (.int .i64 x)]))),(25,int KI.length),(26,int k)],hlst [(6,.box 72 [.d (.sl (some false) []),.d (.sl (some false) [])]),(7,.box 72 [.own 701 0 (PI k).length,.own 702 0 s.ct.length]),(701,.sl 4 1 ((PI k).map fun b=>[.v (.bool b)])),(702,.sl 3 1 (s.ct.map fun n=>[.v (.int .i64 n)]))]⟩) (fun k=>KI.length - k) 0 ?_ (by omega) ?_
 ·rw [hp0];refine Imp.to' (fun _ _=>trivial) (by simp [dNum]) (by simp [dNum])
 ·intro k hkk
  have hPl:=hput k hkk
  have hPs:=hpus k
  generalize hPk:PI k=P at hPl hPs ⊢;refine rgq fw [2,3,4,6,7,24,25,26,27] [6,7,701,702] ?_;refine AW_then fun K2 hK2=>?_;refine AW_cond' (b:=k < KI.length) (by simp [D.le,D.le.go,takeMap,dNum]) (fun hc=>?_) (fun hc=>?_)
  ·have hlt:=hc
   have hk2:k < inn.length:=by omega
   obtain ⟨i,hi,hKi,hPn⟩:=hPs hlt hk2
   have hi2:i < P.length:=by omega
   refine AW_skip (hK2 _ ?_);refine AW_then fun K3 hK3=>?_;refine AW_block ?_
   have qf:=(Aq fw (Aq @hlt @hKi))
   refine rgqv [2,3,4,6,7,8,9,24,25,26] [6,7,701,702] ?_;refine AW_rdge (tyOf_good _) (by kernel_rfl) [(1,7),(6,999),(7,701),(8,701)] (by kernel_rfl) fun K' hK'=>?_;(repeat (refine sxg_next fun K2 hK2=>?_;simp [dNum,hi2,hk2];(repeat (refine ⟨by omega,?_⟩));refine hK2 _ ?_;clear hK2 K2));refine sxg_nil (hK' _ ?_);clear hK' K';refine hK3 _ (AW.norm [2,3,4,6,7,24,25,26] [6,7,701,702] (fun _ _=>trivial) (AW.st (by simp [dNum,hi2,hk2];rfl) ?_));refine AW_re (tyOf_good _) fun K' hK'=>?_;(repeat (refine sxn fun K2 hK2=>?_;simp [dNum];(repeat (refine ⟨by omega,?_⟩));refine hK2 _ ?_;clear hK2 K2));refine sxz (hK' _ ?_);clear hK' K';(try simp only [thn,inb]);refine Again.mk (k+1) (by omega) (by omega) ?_;rw [hPn];refine Imp.to' (fun _ _=>trivial) (by simp [dNum,List.map_set]) (by simp [dNum,List.map_set])
  ·have hke:k=KI.length:=by omega
   refine AW_exit (hK1 _ ?_)
   have ht0e:t0=⟨P,s.ct⟩:=by rw [hpe,← hke,hPk]
   refine rgq fw [3,4,6,7,10] [6,7,701,702] ?_;refine rgq fw [3,6,7,10,11] [6,7,701,702] ?_;refine AW_then fun K4 hK4=>?_;refine rgq fw [3,6,7,10,11,43,44,45] [6,7,701,702] ?_;refine AW_for (S:=Nat) (fun n=>n≤p.rungs.length) (fun n=>⟨lst [(3,.d (.ip [.sl none NN,.sl none RR])),(6,.ref 6 0 0),(7,.ref 7 0 0),(10,.fn (.func 150) [.ref 7 0 0,.d (.ip [.sl none NN,.sl none RR])]),(11,.d (.fn (.func 151) [.ip [.sl none (s.is.map fun b=>[.v (.bool b)]),.sl none (s.ct.map fun n=>[.v (.int .i64 n)])],.ip [.sl none NN,.sl none RR]])),(43,.d (.sl none RR)),(44,int RR.length),(45,int n)],hlst [(6,.box 72 [.d (.sl (some false) []),.d (.sl (some false) [])]),(7,.box 72 [.own 701 0 (T n).is.length,.own 702 0 (T n).ct.length]),(701,.sl 4 1 ((T n).is.map fun b=>[.v (.bool b)])),(702,.sl 3 1 ((T n).ct.map fun n=>[.v (.int .i64 n)]))]⟩) (fun n=>p.rungs.length - n) 0 ?_ (by omega) ?_
   ·rw [hT0,ht0e];refine Imp.to' (fun _ _=>trivial) (by simp [dNum]) (by simp [dNum])
   ·intro n hn
    have hTn:=hTs n
    have hin2:=hTi n
    have hasn:=hask n
    generalize hTn0:T n=tn at hTn hin2 hasn ⊢
    obtain ⟨I,C⟩:=tn
    have hIl:=hin2.l1
    have hCl:=hin2.l2
    have hsm:=inv_small hck hin2
    dsimp only at hIl hCl hsm hasn ⊢
    refine rgq fw [3,6,7,10,11,43,44,45,46] [6,7,701,702] ?_;refine AW_then fun K5 hK5=>?_
    by_cases hlt:n < p.rungs.length
    ·have hlt2:n < RR.length:=by omega
     have hlt3:(n:Int) < (RR.length:Int):=by omega
     refine AW_cond true (by simp [hlt2]) (fun _=>?_) (fun h=>by cases h);refine AW_skip (hK5 _ ?_);refine AW_then fun K6 hK6=>?_;refine AW_block ?_
     obtain ⟨e,he,hev⟩:=hasn hlt
     obtain ⟨i,hi,hni,_,hcnt⟩:=rung_at hck (List.getElem_mem hlt)
     obtain ⟨hkr,_⟩:=checkP_rung hck _ (List.getElem_mem hlt)
     have hTn2:=hTn hlt
     have hRi:=hRg n hlt
     have hnu:=hnum p.rungs[n].name
     rw [hni] at hnu;unfold rungS at hTn2;simp only [hni,Int.toNat_natCast,hcnt,he,evC] at hTn2;unfold cRg at hRi;rw [he] at hRi;generalize p.rungs[n]=r at hRi hnu hkr hTn2
     obtain ⟨rk,rn,rc⟩:=r
     dsimp only at hRi hnu hkr hTn2
     generalize evE (bitF p I) (bitF p s.is) e=yes at hev hTn2
     obtain ⟨ety,ev,hee⟩:=dE_ifc e
     rw [show dC (some e)=dE e from rfl,hee] at hRi;rw [hee] at hev;simp only [dS] at hnu hRi
     have hNi:=hNg i hi
     have hi1:i < I.length:=by omega
     have hi2:i < C.length:=by omega
     have hi3:i < NN.length:=by omega
     have hNi2:NN[i]=[.v (.string (bs p.names[i].name)),.v (.int .i64 p.names[i].kind),.v (.int .i64 p.names[i].count)]:=by
      rw [List.getElem?_eq_getElem hi3] at hNi;exact Option.some.inj hNi
     have hRi2:RR[n]=[.v (.int .i64 rk),.v (.string (bs rn)),.ifc ety ev]:=by
      rw [List.getElem?_eq_getElem hlt2] at hRi;exact Option.some.inj hRi
     have hrun:=run_mc G ⟨I,C⟩ i p.names[i].count yes hi1 hi2 (fun x hx=>by have:=hsm x hx;omega)
     generalize p.names[i].count=m at hNi2 hTn2 hrun;generalize p.names[i].name=nmi at hNi2;generalize p.names[i].kind=kdi at hNi2
     have qf:=(Aq fw (Aq @hlt2 (Aq @hlt3 @hRi2)))
     refine rgqv [3,6,7,10,11,13,43,44,45] [6,7,701,702,13] ?_;refine AW.imp (Imp.freezeB 13 trivial) ?_;refine AW.st (by simp [dNum];rfl) ?_;refine rgc fw hnu [3,6,7,10,11,13,14,43,44,45] [6,7,701,702] ?_;refine rg [3,6,7,10,11,13,14,15,43,44,45] [6,7,701,702] (fun _ _=>trivial) fun K' hK'=>?_;(repeat (refine sxn fun K2 hK2=>?_;simp [dNum];(repeat (refine ⟨by omega,?_⟩));refine hK2 _ ?_;clear hK2 K2));refine sxn fun K2 hK2=>?_;simp [dNum];refine callK.lend (hev) (by simp;rfl) (by first | exact D.leGo_refl _ | simp [takeMap,List.map_map,Function.comp_def,D.le,D.le.go,D.le_refl,D.leGo_refl,dNum]) (by simp [D.scalar]) ?_;refine hK2 _ ?_;clear hK2 K2;simp only [putd,upd_lst];(repeat (refine sxn fun K2 hK2=>?_;simp [dNum];(repeat (refine ⟨by omega,?_⟩));refine hK2 _ ?_;clear hK2 K2));refine sxz (hK' _ (AW.st (by simp [dNum];rfl) ?_));clear hK' K';refine rgq fw [3,6,7,10,11,14,15,43,44,45,59] [6,7,701,702] ?_;refine AW_block ?_
     have hk6:rk=1∨rk=2∨rk=3∨rk=4∨rk=5∨rk=6:=by omega
     rcases hk6 with rfl | rfl | rfl | rfl | rfl | rfl
     ·have hTn2:=hTn2
      simp at hTn2;refine rgq fw [3,6,7,10,11,14,15,43,44,45,59,60] [6,7,701,702] ?_;refine AW_tt rfl ?_
      have qf:=(Aq fw @hi1)
      refine reKv hK6 [3,6,7,10,11,43,44,45] [6,7,701,702] ?_;refine AW_re (tyOf_good _) fun K' hK'=>?_;(repeat (refine sxn fun K2 hK2=>?_;simp [dNum];(repeat (refine ⟨by omega,?_⟩));refine hK2 _ ?_;clear hK2 K2));refine sxz (hK' _ ?_);clear hK' K';(try simp only [thn,inb]);refine Again.mk (n+1) (by omega) (by omega) ?_;rw [hTn2];refine Imp.to' (fun _ _=>trivial) (by simp [dNum,List.map_set]) (by simp [dNum,List.map_set])
     ·have hTn2:=hTn2
      rw [getD_of hi1] at hTn2;refine rgq fw [3,6,7,10,11,14,15,43,44,45,59,60] [6,7,701,702] ?_;refine AW_ff rfl ?_;refine rgq fw [3,6,7,10,11,14,15,43,44,45,59,67] [6,7,701,702] ?_;refine AW_tt rfl ?_
      cases hIb:I[i] with
      | true=>
       rw [hIb] at hTn2;simp at hTn2;refine AW_rdge (tyOf_good _) (by kernel_rfl) [(1,7),(4,7),(6,701),(7,701),(11,701),(12,701)] (by kernel_rfl) fun K' hK'=>?_;(repeat (refine sxg_next fun K2 hK2=>?_;simp [dNum,hi1,hIb];(repeat (refine ⟨by omega,?_⟩));refine hK2 _ ?_;clear hK2 K2));refine sxg_nil (hK' _ ?_);clear hK' K';refine hK6 _ (AW.norm [3,6,7,10,11,43,44,45] [6,7,701,702] (fun _ _=>trivial) (AW.st (by simp [dNum,hi1,hIb];rfl) ?_));refine AW_re (tyOf_good _) fun K' hK'=>?_;(repeat (refine sxn fun K2 hK2=>?_;simp [dNum];(repeat (refine ⟨by omega,?_⟩));refine hK2 _ ?_;clear hK2 K2));refine sxz (hK' _ ?_);clear hK' K';(try simp only [thn,inb]);refine Again.mk (n+1) (by omega) (by omega) ?_;rw [hTn2];refine Imp.to' (fun _ _=>trivial) (by simp [dNum,List.map_set]) (by simp [dNum,List.map_set])
      | false=>
       rw [hIb] at hTn2;simp at hTn2;refine AW_rdge (tyOf_good _) (by kernel_rfl) [(1,7),(4,7),(6,701),(7,701),(11,701),(12,701)] (by kernel_rfl) fun K' hK'=>?_;(repeat (refine sxg_next fun K2 hK2=>?_;simp [dNum,hi1,hIb];(repeat (refine ⟨by omega,?_⟩));refine hK2 _ ?_;clear hK2 K2));refine sxg_nil (hK' _ ?_);clear hK' K';refine hK6 _ (AW.norm [3,6,7,10,11,43,44,45] [6,7,701,702] (fun _ _=>trivial) (AW.st (by simp [dNum,hi1,hIb];rfl) ?_));refine AW_re (tyOf_good _) fun K' hK'=>?_;(repeat (refine sxn fun K2 hK2=>?_;simp [dNum];(repeat (refine ⟨by omega,?_⟩));refine hK2 _ ?_;clear hK2 K2));refine sxz (hK' _ ?_);clear hK' K';(try simp only [thn,inb]);refine Again.mk (n+1) (by omega) (by omega) ?_;rw [hTn2];refine Imp.to' (fun _ _=>trivial) (by simp [dNum,List.map_set]) (by simp [dNum,List.map_set])
     ·have hTn2:=hTn2
      rw [getD_of hi1] at hTn2;refine rgq fw [3,6,7,10,11,14,15,43,44,45,59,60] [6,7,701,702] ?_;refine AW_ff rfl ?_;refine rgq fw [3,6,7,10,11,14,15,43,44,45,59,67] [6,7,701,702] ?_;refine AW_ff rfl ?_;refine rgq fw [3,6,7,10,11,14,15,43,44,45,59,81] [6,7,701,702] ?_;refine AW_tt rfl ?_
      cases hIb:I[i] with
      | true=>
       rw [hIb] at hTn2;simp at hTn2;refine AW_rdge (tyOf_good _) (by kernel_rfl) [(1,7),(4,7),(6,701),(7,701),(12,701),(13,701)] (by kernel_rfl) fun K' hK'=>?_;(repeat (refine sxg_next fun K2 hK2=>?_;simp [dNum,hi1,hIb];(repeat (refine ⟨by omega,?_⟩));refine hK2 _ ?_;clear hK2 K2));refine sxg_nil (hK' _ ?_);clear hK' K';refine hK6 _ (AW.norm [3,6,7,10,11,43,44,45] [6,7,701,702] (fun _ _=>trivial) (AW.st (by simp [dNum,hi1,hIb];rfl) ?_));refine AW_re (tyOf_good _) fun K' hK'=>?_;(repeat (refine sxn fun K2 hK2=>?_;simp [dNum];(repeat (refine ⟨by omega,?_⟩));refine hK2 _ ?_;clear hK2 K2));refine sxz (hK' _ ?_);clear hK' K';(try simp only [thn,inb]);refine Again.mk (n+1) (by omega) (by omega) ?_;rw [hTn2];refine Imp.to' (fun _ _=>trivial) (by simp [dNum,List.map_set]) (by simp [dNum,List.map_set])
      | false=>
       rw [hIb] at hTn2;simp at hTn2;refine AW_rdge (tyOf_good _) (by kernel_rfl) [(1,7),(4,7),(6,701),(7,701),(12,701),(13,701)] (by kernel_rfl) fun K' hK'=>?_;(repeat (refine sxg_next fun K2 hK2=>?_;simp [dNum,hi1,hIb];(repeat (refine ⟨by omega,?_⟩));refine hK2 _ ?_;clear hK2 K2));refine sxg_nil (hK' _ ?_);clear hK' K';refine hK6 _ (AW.norm [3,6,7,10,11,43,44,45] [6,7,701,702] (fun _ _=>trivial) (AW.st (by simp [dNum,hi1,hIb];rfl) ?_));refine AW_re (tyOf_good _) fun K' hK'=>?_;(repeat (refine sxn fun K2 hK2=>?_;simp [dNum];(repeat (refine ⟨by omega,?_⟩));refine hK2 _ ?_;clear hK2 K2));refine sxz (hK' _ ?_);clear hK' K';(try simp only [thn,inb]);refine Again.mk (n+1) (by omega) (by omega) ?_;rw [hTn2];refine Imp.to' (fun _ _=>trivial) (by simp [dNum,List.map_set]) (by simp [dNum,List.map_set])
     ·have hTn2:=hTn2
      simp at hTn2;refine rgq fw [3,6,7,10,11,14,15,43,44,45,59,60] [6,7,701,702] ?_;refine AW_ff rfl ?_;refine rgq fw [3,6,7,10,11,14,15,43,44,45,59,67] [6,7,701,702] ?_;refine AW_ff rfl ?_;refine rgq fw [3,6,7,10,11,14,15,43,44,45,59,81] [6,7,701,702] ?_;refine AW_ff rfl ?_;refine rgq fw [3,6,7,10,11,14,15,43,44,45,59,96] [6,7,701,702] ?_;refine AW_tt rfl ?_
      obtain ⟨I2,C2,hIC,hI2,hC2⟩:∃ I2 C2,runS ⟨I,C⟩ i m yes=⟨I2,C2⟩∧I2.length=I.length∧C2.length=C.length:=⟨_,_,rfl,by simp,by simp⟩
      rw [hIC] at hrun hTn2;simp only [stR,dNum] at hrun
      have hj1:i < I2.length:=by omega
      have hj2:i < C2.length:=by omega
      have qf:=(Aq fw (Aq @hi3 @hNi2))
      refine rgmv hrun [3,6,7,10,11,14,15,43,44,45] [6,7,701,702] ?_;refine rgq fw [3,6,7,10,11,14,43,44,45,108] [6,7,701,702] ?_
      cases yes with
      | true=>
       simp only [if_true] at hTn2;refine AW_ff rfl ?_;refine AW_skip ?_;refine hK6 _ (AW.norm [3,6,7,10,11,43,44,45] [6,7,701,702] (fun _ _=>trivial) (AW.st (by simp [dNum];rfl) ?_));refine AW_re (tyOf_good _) fun K' hK'=>?_;(repeat (refine sxn fun K2 hK2=>?_;simp [dNum];(repeat (refine ⟨by omega,?_⟩));refine hK2 _ ?_;clear hK2 K2));refine sxz (hK' _ ?_);clear hK' K';(try simp only [thn,inb]);refine Again.mk (n+1) (by omega) (by omega) ?_;rw [hTn2];refine Imp.to' (fun _ _=>trivial) (by simp [dNum,List.map_set]) (by simp [dNum,List.map_set])
      | false=>
       simp only [Bool.false_eq_true,if_false,zeroS] at hTn2;refine AW_tt rfl ?_
       have qf:=(Aq fw (Aq @hj1 @hj2))
       refine reKv hK6 [3,6,7,10,11,43,44,45] [6,7,701,702] ?_;refine AW_re (tyOf_good _) fun K' hK'=>?_;(repeat (refine sxn fun K2 hK2=>?_;simp [dNum];(repeat (refine ⟨by omega,?_⟩));refine hK2 _ ?_;clear hK2 K2));refine sxz (hK' _ ?_);clear hK' K';(try simp only [thn,inb]);refine Again.mk (n+1) (by omega) (by omega) ?_;rw [hTn2];refine Imp.to' (fun _ _=>trivial) (by simp [dNum,List.map_set]) (by simp [dNum,List.map_set])
     ·have hTn2:=hTn2
      simp at hTn2;refine rgq fw [3,6,7,10,11,14,15,43,44,45,59,60] [6,7,701,702] ?_;refine AW_ff rfl ?_;refine rgq fw [3,6,7,10,11,14,15,43,44,45,59,67] [6,7,701,702] ?_;refine AW_ff rfl ?_;refine rgq fw [3,6,7,10,11,14,15,43,44,45,59,81] [6,7,701,702] ?_;refine AW_ff rfl ?_;refine rgq fw [3,6,7,10,11,14,15,43,44,45,59,96] [6,7,701,702] ?_;refine AW_ff rfl ?_;refine rgq fw [3,6,7,10,11,14,15,43,44,45,59,117] [6,7,701,702] ?_;refine AW_tt rfl ?_
      obtain ⟨I2,C2,hIC,hI2,hC2⟩:∃ I2 C2,runS ⟨I,C⟩ i m yes=⟨I2,C2⟩∧I2.length=I.length∧C2.length=C.length:=⟨_,_,rfl,by simp,by simp⟩
      rw [hIC] at hrun hTn2;simp only [stR,dNum] at hrun;refine AW_re (tyOf_good _) fun K' hK'=>?_;(repeat (refine sxn fun K2 hK2=>?_;simp [dNum,hi3,hNi2];(repeat (refine ⟨by omega,?_⟩));refine hK2 _ ?_;clear hK2 K2));refine sxn fun K2 hK2=>?_;simp [dNum,hi3,hNi2];refine callK.mc (hrun) ?_ ?_ ?_ ?_ ?_<;>simp [dNum,hi3,hNi2];refine hK2 _ ?_;clear hK2 K2;(repeat (refine sxn fun K2 hK2=>?_;simp [dNum,hi3,hNi2];(repeat (refine ⟨by omega,?_⟩));refine hK2 _ ?_;clear hK2 K2));refine sxz (hK' _ ?_);clear hK' K';refine hK6 _ (AW.norm [3,6,7,10,11,43,44,45] [6,7,701,702] (fun _ _=>trivial) (AW.st (by simp [dNum,hi3,hNi2];rfl) ?_));refine AW_re (tyOf_good _) fun K' hK'=>?_;(repeat (refine sxn fun K2 hK2=>?_;simp [dNum];(repeat (refine ⟨by omega,?_⟩));refine hK2 _ ?_;clear hK2 K2));refine sxz (hK' _ ?_);clear hK' K';(try simp only [thn,inb]);refine Again.mk (n+1) (by omega) (by omega) ?_;rw [hTn2];refine Imp.to' (fun _ _=>trivial) (by simp [dNum,List.map_set]) (by simp [dNum,List.map_set])
     ·have hTn2:=hTn2
      simp at hTn2;refine rgq fw [3,6,7,10,11,14,15,43,44,45,59,60] [6,7,701,702] ?_;refine AW_ff rfl ?_;refine rgq fw [3,6,7,10,11,14,15,43,44,45,59,67] [6,7,701,702] ?_;refine AW_ff rfl ?_;refine rgq fw [3,6,7,10,11,14,15,43,44,45,59,81] [6,7,701,702] ?_;refine AW_ff rfl ?_;refine rgq fw [3,6,7,10,11,14,15,43,44,45,59,96] [6,7,701,702] ?_;refine AW_ff rfl ?_;refine rgq fw [3,6,7,10,11,14,15,43,44,45,59,117] [6,7,701,702] ?_;refine AW_ff rfl ?_;refine rgq fw [3,6,7,10,11,14,15,43,44,45,128] [6,7,701,702] ?_;refine AW_tt rfl ?_;refine rgq fw [3,6,7,10,11,14,43,44,45,130] [6,7,701,702] ?_
      cases yes with
      | true=>
       simp only [if_true,zeroS] at hTn2;refine AW_tt rfl ?_
       have qf:=(Aq fw (Aq @hi1 @hi2))
       refine reKv hK6 [3,6,7,10,11,43,44,45] [6,7,701,702] ?_;refine AW_re (tyOf_good _) fun K' hK'=>?_;(repeat (refine sxn fun K2 hK2=>?_;simp [dNum];(repeat (refine ⟨by omega,?_⟩));refine hK2 _ ?_;clear hK2 K2));refine sxz (hK' _ ?_);clear hK' K';(try simp only [thn,inb]);refine Again.mk (n+1) (by omega) (by omega) ?_;rw [hTn2];refine Imp.to' (fun _ _=>trivial) (by simp [dNum,List.map_set]) (by simp [dNum,List.map_set])
      | false=>
       simp only [Bool.false_eq_true,if_false] at hTn2;refine AW_ff rfl ?_;refine AW_skip ?_;refine hK6 _ (AW.norm [3,6,7,10,11,43,44,45] [6,7,701,702] (fun _ _=>trivial) (AW.st (by simp [dNum];rfl) ?_));refine AW_re (tyOf_good _) fun K' hK'=>?_;(repeat (refine sxn fun K2 hK2=>?_;simp [dNum];(repeat (refine ⟨by omega,?_⟩));refine hK2 _ ?_;clear hK2 K2));refine sxz (hK' _ ?_);clear hK' K';(try simp only [thn,inb]);refine Again.mk (n+1) (by omega) (by omega) ?_;rw [hTn2];refine Imp.to' (fun _ _=>trivial) (by simp [dNum,List.map_set]) (by simp [dNum,List.map_set])
    ·have hlt3:¬ (n:Int) < (RR.length:Int):=by omega
     have hne:n=p.rungs.length:=by omega
     refine AW_cond false (by simp;omega) (fun h=>by cases h) (fun _=>?_);refine AW_exit (hK4 _ ?_)
     have hTl:T p.rungs.length=⟨I,C⟩:=by rw [← hne];exact hTn0
     refine rgq fw [6] [6,7,701,702] ?_;refine AW_ret ?_;simp [D.le,D.le.go,takeMap,dNum,hTl,D.le_refl,D.leGo_refl]
end Go.Proofs.YtpboiimemmfkiaaGreatDoor
namespace Go.Proofs.YtpboiimemmfkiaaGreatDoor
open Go.Av
theorem small_of {p:PgP} (hck:checkP p=none) (hk:∀ r∈p.rungs,CondOk r):SmallP p:=by
 have hg:=checkP_good hck
 have hnm:=hg.names
 have hrn:=hg.rungs
 refine ⟨by omega,by omega,fun n hn=>?_,fun r hr e he=>?_⟩
 ·have:=nameF_len (hg.name n hn).1;omega
 ·obtain ⟨e',he',_,_,hb⟩:=hk r hr
  rw [he] at he'
  obtain rfl:=Option.some.inj he'
  have h1:=Lib.compact_length_le (sortT (nmsE true e))
  have h2:=sortT_len (nmsE true e)
  have h3:=nms_len true e
  refine ⟨by omega,?_⟩;unfold namesE;omega
end Go.Proofs.YtpboiimemmfkiaaGreatDoor
namespace Go.Proofs.YtpboiimemmfkiaaGreatDoor
open Go.Av
def inB (x:Int) (k:Nat):Bool:=bitsI .and .i64 (x.fdiv (2 ^ (min k IntKind.i64.bits))) 1 == 1
def inBs (x:Int):Nat→List Bool
 | 0=>[]
 | k+1=>inBs x k ++ [inB x k]
theorem inBs_len (x:Int):∀ k,(inBs x k).length=k
 | 0=>rfl
 | k+1=>by rw [inBs,List.length_append,inBs_len x k];rfl
def readP (t:Tx):Option PgP:=if 1500 < t.length then none else match parseP t with
 | (none,p)=>some p
 | (some _,_)=>none
theorem readP_some {t:Tx} {p:PgP} (h:readP t=some p):parseP t=(none,p):=by
 unfold readP at h
 split at h
 ·cases h
 ·split at h
  ·rename_i q hq
   obtain rfl:=Option.some.inj h
   exact hq
  ·cases h
def dRd:Option PgP→D
 | none=>.tup [dPg ⟨[],[]⟩,.v (.bool false)]
 | some p=>.tup [dPg p,.v (.bool true)]
theorem dPg0:dPg ⟨[],[]⟩ = .agg [.sl none [],.sl none []]:=rfl
set_option maxHeartbeats 8000000 in
theorem kread_spec (G:Glob) (hM:HasMax G) (hP:HasP10 G) (hG:HasErr G) {es er:Value} (hE:HasNE G es er) (t:Tx):PureC Tryz.prog G 59 [dS t] (dRd (readP t)):=by
 have hp:=lparse_spec G hM hP hG hE t
 unfold readP;simp only [dS] at hp ⊢
 by_cases hl:1500 < t.length
 ·have hl':(1500:Int) < (t.length:Int):=by omega
  rw [if_pos hl];simp only [dRd,dPg0];refine PureC.of_body (tyOf_good _) Tryz.func59 rfl rfl (rs:=[.cell 2 37,.tmp 3]) Tryz.results59 (by simp [Tryz.ntmps59]) fun X=>?_;simp only [Tryz.ntmps59,List.map];refine rg0 [0,2] [2] ?_;refine AW_then fun K1 hK1=>?_
  have qf:=(Aq @bs_size @hl')
  refine rgqv [0,2,8] [2] ?_;refine AW_cond true (by simp [hl']) (fun _=>?_) (fun h=>by cases h);refine rg0 [2,3] [2] ?_;refine AW_ret ?_;simp [D.le,D.le.go,takeMap]
 ·have hl':¬ (1500:Int) < (t.length:Int):=by omega
  rw [if_neg hl]
  have key:∀ (q:PgP) (ev:D) (b:Bool),(b=true↔ev = .v .nilIface)→(b=false→∃ x y,ev = .ifc x y)→PureC Tryz.prog G 99 [.v (.string (bs t))] (.tup [dPg q,ev])→PureC Tryz.prog G 59 [.v (.string (bs t))] (.tup [dPg q,.v (.bool b)]):=fun q ev b hb1 hb2 hp=>by
   simp only [dPg,cPg,dNms,dRgs] at hp ⊢;generalize q.names.map cNm=NN at *;generalize q.rungs.map cRg=RR at *;refine PureC.of_body (tyOf_good _) Tryz.func59 rfl rfl (rs:=[.cell 2 37,.tmp 3]) Tryz.results59 (by simp [Tryz.ntmps59]) fun X=>?_;simp only [Tryz.ntmps59,List.map];refine rg0 [0,2] [2] ?_;refine AW_then fun K1 hK1=>?_
   have qf:=(Aq @bs_size @hl')
   refine rgqv [0,2,8] [2] ?_;refine AW_cond false (by simp<;>omega) (fun h=>by cases h) (fun _=>?_);refine AW_skip (hK1 _ ?_)
   cases b with
   | true=>
    obtain rfl:=hb1.1 rfl
    refine rgc trivial hp [2,4,5] [2,4] ?_;refine AW.imp (Imp.freezeB 4 trivial) ?_;refine AW.st (by simp;rfl) ?_;refine rdq trivial [2,3] [2] ?_;refine AW_ret ?_;simp [D.le,D.le.go,takeMap,D.le_refl,D.leGo_refl]
   | false=>
    obtain ⟨x,y,rfl⟩:=hb2 rfl
    refine rgc trivial hp [2,4,5] [2,4] ?_;refine AW.imp (Imp.freezeB 4 trivial) ?_;refine AW.st (by simp;rfl) ?_;refine rdq trivial [2,3] [2] ?_;refine AW_ret ?_;simp [D.le,D.le.go,takeMap,D.le_refl,D.leGo_refl]
  cases hpe:(parseP t).1 with
  | none=>
   obtain ⟨q,hq⟩:∃ q,parseP t=(none,q):=⟨(parseP t).2,by rw [← hpe]⟩
   rw [hq] at hp ⊢;exact key q _ true (by simp [dErr]) (by simp) hp
  | some e=>
   have h2:=parse_err hpe
   have hq:parseP t=(some e,⟨[],[]⟩):=by rw [← hpe,← h2]
   rw [hq] at hp ⊢
   obtain ⟨c,o⟩:=e
   cases o with
   | none=>exact key ⟨[],[]⟩ _ false (by simp [dErr]) (fun _=>⟨_,_,rfl⟩) hp
   | some o=>exact key ⟨[],[]⟩ _ false (by simp [dErr]) (fun _=>⟨_,_,rfl⟩) hp
end Go.Proofs.YtpboiimemmfkiaaGreatDoor
namespace Go.Proofs.YtpboiimemmfkiaaGreatDoor
open Go.Av
structure PtP where
 nm:Nat
 most:Int
 far:Bool
def edB (p:PgP) (n:NmP):Bool:=p.rungs.any (hasE n.name)
def partOf (n:NmP) (ed:Bool) (i:Nat):List PtP:=if n.kind=2∨(n.kind=1∧ed=true) then [⟨i,2,false⟩] else if n.kind≠1 then [⟨i,n.count+1,true⟩] else []
def partsN (p:PgP):Nat→List PtP
 | 0=>[]
 | i+1=>partsN p i ++ partOf (p.names.getD i ⟨[],0,0⟩) (edB p (p.names.getD i ⟨[],0,0⟩)) i
def partsP (p:PgP):List PtP:=partsN p p.names.length
theorem partsN_succ {p:PgP} {i:Nat} (h:i < p.names.length):partsN p (i+1)=partsN p i ++ partOf p.names[i] (edB p p.names[i]) i:=by
 rw [partsN,getD_of h]
def prodP:List PtP→Int
 | []=>1
 | x :: l=>x.most * prodP l
def digP (x:PtP) (s:StP):Int:=if x.far then s.ct.getD x.nm 0 else if s.is.getD x.nm false then 1 else 0
def nrP:List PtP→StP→Int
 | [],_=>0
 | x :: l,s=>digP x s+x.most * nrP l s
def putP (x:PtP) (k:Int) (s:StP):StP:=if x.far then ⟨s.is.set x.nm (decide (k=x.most - 1)),s.ct.set x.nm k⟩ else ⟨s.is.set x.nm (decide (k=1)),s.ct⟩
def stN:List PtP→Int→StP→StP
 | [],_,s=>s
 | x :: l,n,s=>stN l (n / x.most) (putP x (n % x.most) s)
structure GoodPt (p:PgP) (x:PtP):Prop where
 lt:x.nm < p.names.length
 fa:x.far=true→3≤p.names[x.nm].kind∧x.most=p.names[x.nm].count+1
 ne:x.far=false→x.most=2∧p.names[x.nm].kind < 3
 m2:2≤x.most
 m8:x.most≤8
theorem partOf_mem {n:NmP} {ed:Bool} {i:Nat} {x:PtP} (h:x∈partOf n ed i):x.nm=i∧((x.far=false∧x.most=2∧(n.kind=2∨(n.kind=1∧ed=true)))∨(x.far=true∧x.most=n.count+1∧n.kind≠1∧n.kind≠2)):=by
 unfold partOf at h
 split at h
 ·rename_i h1
  rw [List.mem_singleton] at h;subst h;exact ⟨rfl,.inl ⟨rfl,rfl,h1⟩⟩
 ·rename_i h1
  split at h
  ·rename_i h2
   rw [List.mem_singleton] at h;subst h;exact ⟨rfl,.inr ⟨rfl,rfl,h2,fun e=>h1 (.inl e)⟩⟩
  ·cases h
theorem partsN_mem {p:PgP} {x:PtP}:∀ {n:Nat},n≤p.names.length→(x∈partsN p n↔∃ i,∃ hi:i < p.names.length,i < n∧x∈partOf p.names[i] (edB p p.names[i]) i)
 | 0,_=>by simp [partsN]
 | n+1,hn=>by
  rw [partsN_succ (by omega),List.mem_append,partsN_mem (by omega)]
  constructor
  ·rintro (⟨i,hi,h1,h2⟩ | h)
   ·exact ⟨i,hi,by omega,h2⟩
   ·exact ⟨n,by omega,by omega,h⟩
  ·rintro ⟨i,hi,h1,h2⟩
   by_cases e:i=n
   ·subst e;exact .inr h2
   ·exact .inl ⟨i,hi,by omega,h2⟩
theorem parts_good {p:PgP} (hg:GoodP p) {x:PtP} (h:x∈partsP p):GoodPt p x:=by
 obtain ⟨i,hi,_,h2⟩:=(partsN_mem (Nat.le_refl _)).1 h
 obtain ⟨rfl,h3⟩:=partOf_mem h2
 have h4:=hg.name _ (List.getElem_mem hi)
 have h5:=hg.count _ (List.getElem_mem hi)
 rcases h3 with ⟨e1,e2,e3⟩ | ⟨e1,e2,e3,e4⟩
 ·exact ⟨hi,(fun h=>by rw [e1] at h;cases h),fun _=>⟨e2,by omega⟩,by omega,by omega⟩
 ·exact ⟨hi,fun _=>⟨by omega,e2⟩,(fun h=>by rw [e1] at h;cases h),by omega,by omega⟩
theorem partsN_len (p:PgP):∀ n,(partsN p n).length≤n
 | 0=>Nat.le_refl _
 | n+1=>by
  have:=partsN_len p n
  rw [partsN,List.length_append];unfold partOf
  split<;>(try split)<;>simp<;>omega
theorem prodP_pos {l:List PtP} (h:∀ x∈l,2≤x.most):0 < prodP l:=by
 induction l with
 | nil=>decide
 | cons x l ih=>
  have h1:=ih fun y hy=>h y (by simp [hy])
  have h2:=h x (by simp)
  exact Int.mul_pos (by omega) h1
theorem prodP_append:∀ (a b:List PtP),prodP (a ++ b)=prodP a * prodP b
 | [],b=>by simp [prodP]
 | x :: a,b=>by rw [List.cons_append,prodP,prodP,prodP_append a b,Int.mul_assoc]
theorem prodP_take {l:List PtP} {k:Nat} (h:k < l.length):prodP (l.take (k+1))=prodP (l.take k) * l[k].most:=by
 rw [List.take_succ_eq_append_getElem h,prodP_append];simp [prodP]
theorem prodP_mono {l:List PtP} (h:∀ x∈l,2≤x.most):∀ k,prodP (l.take k)≤prodP l:=by
 intro k
 have e:prodP l=prodP (l.take k) * prodP (l.drop k):=by rw [← prodP_append,List.take_append_drop]
 have h1:0 < prodP (l.take k):=prodP_pos fun x hx=>h x (List.mem_of_mem_take hx)
 have h2:0 < prodP (l.drop k):=prodP_pos fun x hx=>h x (List.mem_of_mem_drop hx)
 rw [e]
 have:=Int.mul_le_mul_of_nonneg_left (show (1:Int)≤prodP (l.drop k) by omega) (Int.le_of_lt h1)
 omega
theorem dig_range {p:PgP} {s:StP} (hs:InvS p s) {x:PtP} (hx:GoodPt p x):0≤digP x s∧digP x s < x.most:=by
 unfold digP
 cases hf:x.far with
 | true=>
  have h1:=hs.lo x.nm
  have h2:=hs.hi x.nm hx.lt
  have h3:=(hx.fa hf).2
  simp only [if_true]
  omega
 | false=>
  have:=(hx.ne hf).1
  simp only [Bool.false_eq_true,if_false]
  split<;>omega
theorem nr_range {l:List PtP} {s:StP} (h:∀ x∈l,0≤digP x s∧digP x s < x.most):0≤nrP l s∧nrP l s < prodP l:=by
 induction l with
 | nil=>exact ⟨Int.le_refl 0,(by decide:(0:Int) < 1)⟩
 | cons x l ih=>
  have h1:=ih fun y hy=>h y (by simp [hy])
  have h2:=h x (by simp)
  rw [nrP,prodP]
  have h3:0≤x.most * nrP l s:=Int.mul_nonneg (by omega) h1.1
  have h4:x.most * (nrP l s+1)≤x.most * prodP l:=Int.mul_le_mul_of_nonneg_left (by omega) (by omega)
  rw [Int.mul_add,Int.mul_one] at h4
  omega
def stP (p:PgP) (n:Int):StP:=stN (partsP p) n (startP p)
theorem put_inv {p:PgP} {x:PtP} (hx:GoodPt p x) {s:StP} (hs:InvS p s) {d:Int} (h0:0≤d) (h1:d < x.most):InvS p (putP x d s):=by
 have hlt:=hx.lt
 unfold putP
 cases hf:x.far with
 | false=>
  simp only [Bool.false_eq_true,if_false];exact set_inv hs hlt (hx.ne hf).2 _
 | true=>
  have hmo:=(hx.fa hf).2
  simp only [if_true];refine ⟨by simp [hs.l1],by simp [hs.l2],fun k=>?_,fun k hk=>?_,fun k hk h3=>?_⟩
  ·show 0≤(s.ct.set x.nm d).getD k 0
   by_cases e:x.nm=k
   ·subst e;rw [getD_set_same (by rw [hs.l2];exact hlt)];exact h0
   ·rw [getD_set_other e];exact hs.lo k
  ·show (s.ct.set x.nm d).getD k 0≤_
   by_cases e:x.nm=k
   ·subst e;rw [getD_set_same (by rw [hs.l2];exact hlt)];omega
   ·rw [getD_set_other e];exact hs.hi k hk
  ·show (s.is.set x.nm _).getD k false=decide ((s.ct.set x.nm d).getD k 0=_)
   by_cases e:x.nm=k
   ·subst e;rw [getD_set_same (by rw [hs.l1];exact hlt),getD_set_same (by rw [hs.l2];exact hlt)]
    congr 1
    exact propext ⟨fun h=>by omega,fun h=>by omega⟩
   ·rw [getD_set_other e,getD_set_other e];exact hs.at' k hk h3
theorem stN_inv {p:PgP}:∀ {l:List PtP} {n:Int} {s:StP},(∀ x∈l,GoodPt p x)→InvS p s→InvS p (stN l n s)
 | [],_,_,_,hs=>hs
 | x :: l,n,s,hl,hs=>by
  have hx:=hl x (by simp)
  have:=hx.m2
  rw [stN];exact stN_inv (fun y hy=>hl y (by simp [hy])) (put_inv hx hs (Int.emod_nonneg _ (by omega)) (Int.emod_lt_of_pos _ (by omega)))
theorem stP_inv {p:PgP} (hc:checkP p=none) (n:Int):InvS p (stP p n):=stN_inv (fun _ hx=>parts_good (checkP_good hc) hx) (start_inv (checkP_good hc))
theorem nr_lt {p:PgP} (hc:checkP p=none) {s:StP} (hs:InvS p s):0≤nrP (partsP p) s∧nrP (partsP p) s < prodP (partsP p):=
 nr_range fun _ hx=>dig_range hs (parts_good (checkP_good hc) hx)
theorem ext_getD {α:Type} {d:α}:∀ {a b:List α},a.length=b.length→(∀ i,i < a.length→a.getD i d=b.getD i d)→a=b:=fun {a b} hl h=>by
 refine List.ext_getElem hl fun i h1 h2=>?_
 have:=h i h1
 rwa [getD_of h1,getD_of h2] at this
def rowP (p:PgP) (m:Nat) (s:Nat):List Int:=(List.range (2 ^ m)).map fun i:Nat=>nrP (partsP p) (doP p (stP p s) (inBs (i:Int) m))
def nextP (p:PgP):List (List Int):=(List.range (prodP (partsP p)).toNat).map (rowP p (inputP p).length)
theorem nextP_len (p:PgP):(nextP p).length=(prodP (partsP p)).toNat:=by simp [nextP]
theorem rowP_len (p:PgP) (m s:Nat):(rowP p m s).length=2 ^ m:=by simp [rowP]
theorem nextP_at {p:PgP} {s:Nat} (h:s < (nextP p).length):(nextP p)[s]=rowP p (inputP p).length s:=by simp [nextP]
theorem rowP_at {p:PgP} {m s i:Nat} (h:i < (rowP p m s).length):(rowP p m s)[i]=nrP (partsP p) (doP p (stP p s) (inBs i m)):=by simp [rowP]
theorem rowP_mem {p:PgP} (hc:checkP p=none) {m s:Nat} {x:Int} (h:x∈rowP p m s):0≤x∧x < prodP (partsP p):=by
 obtain ⟨i,_,rfl⟩:=List.mem_map.1 h
 exact nr_lt hc (do_inv hc (stP_inv hc _) _).1
end Go.Proofs.YtpboiimemmfkiaaGreatDoor
namespace Go.Proofs.YtpboiimemmfkiaaGreatDoor
open Go.Av
structure TabN (NX:List (List Int)):Prop where
 pos:0 < NX.length
 mem:∀ l∈NX,∀ t∈l,0≤t∧t < NX.length
structure IsFar (NX:List (List Int)) (F:List Int):Prop where
 len:F.length=NX.length
 zero:F.getD 0 0=0
 one:∀ t,t < NX.length→F.getD t 0=0→t=0
 lo:∀ s,s < NX.length→-1≤F.getD s 0
 step:∀ s (h:s < NX.length),0≤F.getD s 0→∀ t∈NX[s],0≤F.getD t.toNat 0∧F.getD t.toNat 0≤F.getD s 0+1
 back:∀ t,t < NX.length→0 < F.getD t 0→∃ s,∃ h:s < NX.length,F.getD s 0=F.getD t 0 - 1∧(t:Int)∈NX[s]
theorem far_le {NX:List (List Int)} {F F':List Int} (h:IsFar NX F) (h':IsFar NX F'):∀ (n:Nat) (t:Nat),t < NX.length→F.getD t 0=n→0≤F'.getD t 0∧F'.getD t 0≤n
 | 0,t,ht,e=>by
  obtain rfl:=h.one t ht (by omega)
  rw [h'.zero];omega
 | n+1,t,ht,e=>by
  obtain ⟨s,hs,h1,h2⟩:=h.back t ht (by omega)
  obtain ⟨g1,g2⟩:=far_le h h' n s hs (by omega)
  have:=h'.step s hs g1 _ h2
  simp only [Int.toNat_natCast] at this
  omega
theorem far_unique {NX:List (List Int)} {F F':List Int} (h:IsFar NX F) (h':IsFar NX F'):F=F':=by
 refine ext_getD (d:=0) (h.len.trans h'.len.symm) fun t ht=>?_;rw [h.len] at ht
 have a:=h.lo t ht
 have b:=h'.lo t ht
 by_cases g:0≤F.getD t 0
 ·obtain ⟨n,hn⟩:=Int.eq_ofNat_of_zero_le g
  have h1:=far_le h h' n t ht hn
  obtain ⟨m,hm⟩:=Int.eq_ofNat_of_zero_le h1.1
  have h2:=far_le h' h m t ht hm
  omega
 ·by_cases g':0≤F'.getD t 0
  ·obtain ⟨m,hm⟩:=Int.eq_ofNat_of_zero_le g'
   have h2:=far_le h' h m t ht hm
   omega
  ·omega
def okT (O:List Int) (u:Nat) (t:Int):Prop:=0≤O.getD t.toNat 0∧O.getD t.toNat 0≤O.getD u 0+1
structure Bfs (NX:List (List Int)) (O T:List Int):Prop where
 len:O.length=NX.length
 zero:O.getD 0 0=0
 one:∀ t,t < NX.length→O.getD t 0=0→t=0
 lo:∀ s,s < NX.length→-1≤O.getD s 0
 hi:∀ s,s < NX.length→O.getD s 0+((O.countP fun x=>decide (x < 0):Nat):Int) < NX.length
 back:∀ t,t < NX.length→0 < O.getD t 0→∃ s,∃ h:s < NX.length,O.getD s 0=O.getD t 0 - 1∧(t:Int)∈NX[s]
 mem:∀ t∈T,0≤t∧t < NX.length∧0≤O.getD t.toNat 0
 srt:T.Pairwise (fun a b=>O.getD a.toNat 0≤O.getD b.toNat 0)
 top:∀ t0,T.head? = some t0→∀ u,u < NX.length→O.getD u 0≤O.getD t0.toNat 0+1
 done:∀ u (h:u < NX.length),0≤O.getD u 0→(u:Int) ∉ T→∀ t∈NX[u],okT O u t
 few:(O.countP fun x=>decide (x < 0))+T.length≤NX.length
def negN (O:List Int):Nat:=O.countP fun x=>decide (x < 0)
theorem negN_set {O:List Int} {t:Nat} {x:Int} (ht:t < O.length) (h:O.getD t 0 < 0) (hx:0≤x):negN (O.set t x)+1=negN O:=by
 unfold negN;rw [List.countP_set (h:=ht)];rw [getD_of ht] at h
 have h1:(O.countP fun x=>decide (x < 0))≠0:=fun e=>by
  have:=List.countP_eq_zero.1 e O[t] (List.getElem_mem ht)
  simp at this
  omega
 have h2:¬ x < 0:=by omega
 simp [h,h2]
 omega
theorem bfs_end {NX:List (List Int)} {O:List Int} (h:Bfs NX O []):IsFar NX O:=
 ⟨h.len,h.zero,h.one,h.lo,fun s hs h0 t ht=>h.done s hs h0 (by simp) t ht,h.back⟩
theorem bfs_pop {NX:List (List Int)} {O T:List Int} {s:Nat} (h:Bfs NX O ((s:Int) :: T)) (hs:s < NX.length) (hok:∀ t∈NX[s],okT O s t):Bfs NX O T:=by
 obtain ⟨s1,s2⟩:=List.pairwise_cons.1 h.srt
 refine ⟨h.len,h.zero,h.one,h.lo,h.hi,h.back,fun t ht=>h.mem t (by simp [ht]),s2,fun t0 h0 u hu=>?_,fun u hu h0 hn t ht=>?_,by have:=h.few;simp only [List.length_cons] at this;omega⟩
 ·have h1:=h.top _ rfl u hu
  have h2:=s1 t0 (List.mem_of_mem_head? h0)
  omega
 ·by_cases e:u=s
  ·subst e;exact hok t ht
  ·exact h.done u hu h0 (by simp [hn];omega) t ht
theorem okT_set {O:List Int} {u:Nat} {v:Int} {t:Nat} {x:Int} (h:okT O u v) (hu:0≤O.getD u 0) (ht:O.getD t 0 < 0):okT (O.set t x) u v:=by
 unfold okT at *
 have h1:t≠v.toNat:=fun e=>by rw [e] at ht;omega
 have h2:t≠u:=fun e=>by rw [e] at ht;omega
 rw [getD_set_other h1,getD_set_other h2];exact h
theorem bfs_push {NX:List (List Int)} {O T:List Int} {s t:Nat} (h:Bfs NX O ((s:Int) :: T)) (hs:s < NX.length) (ht:t < NX.length) (hin:(t:Int)∈NX[s]) (hneg:O.getD t 0 < 0):Bfs NX (O.set t (O.getD s 0+1)) ((s:Int) :: (T ++ [(t:Int)])):=by
 have hlen:=h.len
 have ht':t < O.length:=by omega
 have hs0:=(h.mem (s:Int) (by simp)).2.2
 simp only [Int.toNat_natCast] at hs0
 have hsn:t≠s:=fun e=>by subst e;omega
 have same:∀ u,t≠u→(O.set t (O.getD s 0+1)).getD u 0=O.getD u 0:=fun u hu=>getD_set_other hu
 have at':(O.set t (O.getD s 0+1)).getD t 0=O.getD s 0+1:=getD_set_same ht'
 have mem':∀ v∈((s:Int) :: T),t≠v.toNat:=fun v hv e=>by have:=(h.mem v hv).2.2;rw [← e] at this;omega
 have hcnt:=negN_set (x:=O.getD s 0+1) ht' hneg (by omega)
 unfold negN at hcnt
 have hfew:=h.few
 simp only [List.length_cons] at hfew
 have hbnd:=h.hi s hs
 refine ⟨by simp [hlen],?_,fun u hu e=>?_,fun u hu=>?_,fun u hu=>?_,fun u hu h0=>?_,fun v hv=>?_,?_,fun t0 h0 u hu=>?_,fun u hu h0 hn v hv=>?_,?_⟩
 ·have:t≠0:=fun e=>by subst e;rw [h.zero] at hneg;omega
  rw [same 0 this];exact h.zero
 ·by_cases e2:t=u
  ·subst e2;rw [at'] at e;omega
  ·rw [same u e2] at e;exact h.one u hu e
 ·by_cases e2:t=u
  ·subst e2;rw [at'];omega
  ·rw [same u e2];exact h.lo u hu
 ·by_cases e2:t=u
  ·subst e2;rw [at'];omega
  ·rw [same u e2];have:=h.hi u hu;omega
 ·by_cases e2:t=u
  ·subst e2;exact ⟨s,hs,by rw [at',same s hsn];omega,hin⟩
  ·rw [same u e2] at h0 ⊢
   obtain ⟨v,hv,h1,h2⟩:=h.back u hu h0
   exact ⟨v,hv,by rw [same v fun e=>by subst e;omega];exact h1,h2⟩
 ·have hv':v∈(s:Int) :: T∨v=(t:Int):=by simpa [or_assoc] using hv
  rcases hv' with hv' | rfl
  ·have:=h.mem v hv'
   exact ⟨this.1,this.2.1,by rw [same _ (mem' v hv')];exact this.2.2⟩
  ·exact ⟨by omega,by omega,by rw [Int.toNat_natCast,at'];omega⟩
 ·rw [← List.cons_append,List.pairwise_append];refine ⟨h.srt.imp_of_mem fun {a b} ha hb hab=>by rw [same _ (mem' a ha),same _ (mem' b hb)];exact hab,by simp,fun a ha b hb=>?_⟩
  obtain rfl:=List.mem_singleton.1 hb
  rw [same _ (mem' a ha),Int.toNat_natCast,at']
  obtain ⟨a1,a2,_⟩:=h.mem a ha
  rcases List.mem_cons.1 ha with rfl | ha2
  ·simp only [Int.toNat_natCast];omega
  ·have:=h.top _ rfl a.toNat (by omega)
   simp only [Int.toNat_natCast] at this
   omega
 ·simp only [List.head?_cons,Option.some.injEq] at h0;subst h0;rw [Int.toNat_natCast,same s hsn]
  by_cases e2:t=u
  ·subst e2;rw [at'];omega
  ·rw [same u e2]
   have:=h.top _ rfl u hu
   simpa using this
 ·have hnt:t≠u:=fun e=>by subst e;exact hn (by simp)
  rw [same u hnt] at h0;exact okT_set (h.done u hu h0 (fun hm=>hn (by simp only [List.mem_cons] at hm ⊢;rcases hm with hm | hm;exact .inl hm;exact .inr (by simp [hm]))) v hv) h0 hneg
 ·rw [List.length_cons,List.length_append];simp only [List.length_cons,List.length_nil]
  omega
theorem bfs_start {NX:List (List Int)} (h:TabN NX):Bfs NX ((List.replicate NX.length (-1)).set 0 0) [0]:=by
 have hp:=h.pos
 have z:((List.replicate NX.length (-1:Int)).set 0 0).getD 0 0=0:=getD_set_same (by simpa using hp)
 have o:∀ t,t < NX.length→t≠0→((List.replicate NX.length (-1:Int)).set 0 0).getD t 0 = -1:=fun t ht h0=>by
  rw [getD_set_other (fun e=>h0 e.symm),getD_of (by simpa using ht)];simp
 refine ⟨by simp,z,fun t ht e=>?_,fun s hs=>?_,fun s hs=>?_,fun t ht e=>?_,fun t ht=>?_,by simp,fun t0 h0 u hu=>?_,fun u hu h0 hn=>?_,?_⟩
 ·exact Classical.byContradiction fun h0=>by rw [o t ht h0] at e;omega
 ·by_cases e:s=0
  ·subst e;rw [z];omega
  ·rw [o s hs e];omega
 ·have hc:((List.replicate NX.length (-1:Int)).set 0 0).countP (fun x=>decide (x < 0))+1=NX.length:=by
   rw [List.countP_set (h:=by simpa using hp)];simp [List.countP_replicate]
   omega
  by_cases e:s=0
  ·subst e;rw [z];omega
  ·rw [o s hs e];omega
 ·by_cases e0:t=0
  ·subst e0;rw [z] at e;omega
  ·rw [o t ht e0] at e;omega
 ·obtain rfl:=List.mem_singleton.1 ht
  exact ⟨by omega,by omega,by rw [show ((0:Int).toNat)=0 from rfl,z];omega⟩
 ·simp only [List.head?_cons,Option.some.injEq] at h0;subst h0;rw [show ((0:Int).toNat)=0 from rfl,z]
  by_cases e:u=0
  ·subst e;rw [z];omega
  ·rw [o u hu e];omega
 ·by_cases e:u=0
  ·subst e;exact absurd (by simp) hn
  ·rw [o u hu e] at h0;omega
 ·rw [List.countP_set (h:=by simpa using hp)];simp [List.countP_replicate]
  omega
theorem bfs_row {NX:List (List Int)} (ht:TabN NX) {s:Nat} (hs:s < NX.length):∀ (L d:List Int) (O T:List Int),NX[s]=d ++ L→Bfs NX O ((s:Int) :: T)→(∀ t∈d,okT O s t)→∃ O' T',Bfs NX O' ((s:Int) :: T')∧(∀ t∈NX[s],okT O' s t)∧2 * negN O'+T'.length≤2 * negN O+T.length
 | [],d,O,T,e,h,hd=>⟨O,T,h,fun t htm=>hd t (by rw [e] at htm;simpa using htm),Nat.le_refl _⟩
 | t :: L,d,O,T,e,h,hd=>by
  have hin:t∈NX[s]:=by rw [e];simp
  obtain ⟨h0,h1⟩:=ht.mem _ (List.getElem_mem hs) t hin
  obtain ⟨u,rfl⟩:=Int.eq_ofNat_of_zero_le h0
  have hu:u < NX.length:=by omega
  have hs0:=(h.mem (s:Int) (by simp)).2.2
  simp only [Int.toNat_natCast] at hs0
  by_cases hneg:O.getD u 0 < 0
  ·have hb:=bfs_push h hs hu hin hneg
   have hsu:u≠s:=fun e=>by subst e;omega
   have hc:=negN_set (x:=O.getD s 0+1) (by rw [h.len];exact hu) hneg (by omega)
   obtain ⟨O',T',g1,g2,g3⟩:=bfs_row ht hs L (d ++ [(u:Int)]) _ _ (by rw [e];simp) hb (fun t htm=>by
    rcases List.mem_append.1 htm with htm | htm
    ·exact okT_set (hd t htm) hs0 hneg
    ·obtain rfl:=List.mem_singleton.1 htm
     unfold okT;rw [Int.toNat_natCast,getD_set_same (by rw [h.len];exact hu),getD_set_other hsu]
     omega)
   refine ⟨O',T',g1,g2,?_⟩;rw [List.length_append] at g3;simp only [List.length_cons,List.length_nil] at g3
   omega
  ·refine bfs_row ht hs L (d ++ [(u:Int)]) O T (by rw [e];simp) h fun t htm=>?_
   rcases List.mem_append.1 htm with htm | htm
   ·exact hd t htm
   ·obtain rfl:=List.mem_singleton.1 htm
    have:=h.top _ rfl u hu
    unfold okT;simp only [Int.toNat_natCast] at this ⊢
    omega
theorem far_exists {NX:List (List Int)} (ht:TabN NX):∃ F,IsFar NX F:=by
 have h:∀ (n:Nat) (O T:List Int),Bfs NX O T→2 * negN O+T.length≤n→∃ F,IsFar NX F:=by
  intro n
  induction n with
  | zero=>
   intro O T h hn
   obtain rfl:T=[]:=List.eq_nil_of_length_eq_zero (by omega)
   exact ⟨O,bfs_end h⟩
  | succ n ih=>
   intro O T h hn
   cases T with
   | nil=>exact ⟨O,bfs_end h⟩
   | cons t T=>
    obtain ⟨h0,h1,_⟩:=h.mem t (by simp)
    obtain ⟨s,rfl⟩:=Int.eq_ofNat_of_zero_le h0
    obtain ⟨O',T',g1,g2,g3⟩:=bfs_row ht (s:=s) (by omega) NX[s] [] O T rfl h (by simp)
    simp only [List.length_cons] at hn;exact ih O' T' (bfs_pop g1 (by omega) g2) (by omega)
 exact h _ _ _ (bfs_start ht) (Nat.le_refl _)
noncomputable def farN (NX:List (List Int)):List Int:=open Classical in if h:∃ F,IsFar NX F then h.choose else []
theorem farN_is {NX:List (List Int)} (ht:TabN NX):IsFar NX (farN NX):=by
 unfold farN;rw [dif_pos (far_exists ht)];exact (far_exists ht).choose_spec
theorem tab_next {p:PgP} (hck:checkP p=none):TabN (nextP p):=by
 have hp:0 < prodP (partsP p):=prodP_pos fun x hx=>(parts_good (checkP_good hck) hx).m2
 refine ⟨by rw [nextP_len];omega,fun l hl t htm=>?_⟩
 obtain ⟨s,_,rfl⟩:=List.mem_map.1 hl
 have:=rowP_mem hck htm
 rw [nextP_len]
 omega
end Go.Proofs.YtpboiimemmfkiaaGreatDoor
namespace Go.Proofs.YtpboiimemmfkiaaGreatDoor
open Go.Av
theorem ma1:bitsI .and .u64 1 4294967295=1:=by decide
theorem ma0:bitsI .and .u64 0 4294967295=0:=by decide
theorem man (n:Nat) (h:n < 2^32):bitsI .and .u64 (n:Int) 4294967295=n:=by
 have:=u_and n 4294967295 (by omega) (by decide)
 have e:n &&& 4294967295=n:=by
  have:=Nat.and_two_pow_sub_one_eq_mod n 32
  simp only [Nat.reducePow,Nat.reduceSub] at this;rw [this];omega
 rw [e] at this;exact this
theorem ms1:Int.fdiv 1 (2 ^ (min 32 IntKind.u64.bits))=0:=by decide
theorem ms0:Int.fdiv 0 (2 ^ (min 32 IntKind.u64.bits))=0:=by decide
theorem msn (n:Nat) (h:n < 2^32):Int.fdiv (n:Int) (2 ^ (min 32 IntKind.u64.bits))=0:=by
 have e:(2:Int) ^ (min 32 IntKind.u64.bits)=4294967296:=by decide
 rw [e,Int.fdiv_eq_ediv_of_nonneg _ (by decide)]
 omega
theorem mw0:IntKind.u64.wrap 0=0:=by decide
theorem mw1:IntKind.u64.wrap 1=1:=by decide
theorem mwn (n:Nat) (h:n < 2^32):IntKind.u64.wrap (n:Int)=n:=u_wrap n (by omega)
def dU (n:Int):D:=.v (.int .u64 n)
set_option maxHeartbeats 8000000 in
theorem mul64_one (G:Glob) (n:Nat) (h:n < 2^32):PureC Tryz.prog G 218 [dU 1,dU n] (.tup [dU 0,dU n]):=by
 have a2:=man n h
 have s2:=msn n h
 have w2:=mwn n h
 simp only [dU];refine PureC.of_body (tyOf_good _) Tryz.func218 rfl rfl (rs:=[.tmp 4,.tmp 5]) Tryz.results218 (by simp [Tryz.ntmps218]) fun X=>?_;simp only [Tryz.ntmps218,List.map]
 have fw:=(Aq @shI.eq_1 (Aq @shI.eq_2 (Aq @shI.eq_3 (Aq @ma1 (Aq @ma0 (Aq @a2 (Aq @ms1 (Aq @ms0 (Aq @s2 (Aq @mw0 (Aq @mw1 @w2)))))))))))
 refine rgq fw [0,1] [] ?_;refine rgq fw [0,1,6] [] ?_;refine rgq fw [0,1,6,7] [] ?_;refine rgq fw [0,1,6,7,8] [] ?_;refine rgq fw [0,1,6,7,8,9] [] ?_;refine rgq fw [0,1,6,7,8,9,10] [] ?_;refine rgq fw [0,1,6,7,9,11] [] ?_;refine rgq fw [0,1,6,7,9,11,12] [] ?_;refine rgq fw [0,1,6,7,9,12,13] [] ?_;refine rgq fw [0,1,7,9,12,13] [] ?_;refine rgq fw [0,1,4] [] ?_;refine rgq fw [4,5] [] ?_;refine AW_ret ?_;simp [D.le,D.le.go,takeMap,shI,ma1,ma0,a2,ms1,ms0,s2,mw0,mw1,w2]
set_option maxHeartbeats 4000000 in
theorem mul_one (G:Glob) (n:Nat) (h:n < 2^32):PureC Tryz.prog G 166 [dU 1,dU n] (.tup [dU 0,dU n]):=by
 have hm:=mul64_one G n h
 simp only [dU] at hm ⊢;refine PureC.of_body (tyOf_good _) Tryz.func166 rfl rfl (rs:=[.tmp 4,.tmp 5]) Tryz.results166 (by simp [Tryz.ntmps166]) fun X=>?_;simp only [Tryz.ntmps166,List.map];refine rg0 [0,1] [] ?_;refine AW_then fun K1 hK1=>?_;refine AW_ff rfl ?_;refine AW_skip (hK1 _ ?_);refine rgc trivial hm [8,9] [] ?_;refine rg0 [4,5] [] ?_;refine AW_ret ?_;simp [D.le,D.le.go,takeMap]
def repE (x:Int) (k n:Nat):List (List D):=List.replicate k [.v (.int .i64 x)] ++ List.replicate (n - k) [.v (.int .i64 0)]
theorem repE_len {x:Int} {k n:Nat} (h:k≤n):(repE x k n).length=n:=by simp [repE];omega
theorem repE_zero (x:Int) (n:Nat):List.replicate n [D.v (.int .i64 0)]=repE x 0 n:=by simp [repE]
theorem repE_all (x:Int) (n:Nat):repE x n n=List.replicate n [.v (.int .i64 x)]:=by simp [repE]
theorem repE_one {x:Int} {n:Nat} (h:1≤n):copyEls (repE x 0 n) [[.v (.int .i64 x)]] 0 n=repE x 1 n:=by
 have e:[[D.v (.int .i64 x)]].take n=[[.v (.int .i64 x)]]:=List.take_of_length_le (by simpa using h)
 simp [copyEls,repE,e]
theorem repE_take {x:Int} {k n:Nat}:(repE x k n).take k=List.replicate k [.v (.int .i64 x)]:=by
 unfold repE;rw [List.take_append_of_le_length (by simp),List.take_of_length_le (by simp)]
theorem repE_copy {x:Int} {k n:Nat} (h:k≤n):copyEls (repE x k n) (List.replicate k [.v (.int .i64 x)]) k (n - k)=repE x (k+min (n - k) k) n:=by
 unfold copyEls;rw [repE_take,List.take_replicate,List.length_replicate]
 have e:(repE x k n).drop (k+min (n - k) k)=List.replicate (n - (k+min (n - k) k)) [.v (.int .i64 0)]:=by
  unfold repE;rw [List.drop_append,List.drop_eq_nil_of_le (by simp),List.nil_append,List.length_replicate,List.drop_replicate]
  congr 1
  omega
 rw [e];unfold repE;rw [List.replicate_append_replicate]
set_option maxRecDepth 100000 in
set_option maxHeartbeats 8000000 in
theorem repeat_mc (G:Glob) (x:Int) (n:Nat) (h1:1≤n) (h2:n≤2^20):MC Tryz.prog G [] 107 [.d (.sl none [[.v (.int .i64 x)]]),.d (dNum n)] (hlst []) (.own 601 0 n) (hlst [(601,.sl 3 1 (List.replicate n [.v (.int .i64 x)]))]):=by
 have hm:=mul_one G n (by omega)
 have w2:=mwn n (by omega)
 have hz:=repE_zero x n
 have ho:=repE_one (x:=x) h1
 have h0:¬ (n:Int) < 0:=by omega
 have hb:¬ (n:Int) > 9223372036854775807:=by omega
 have ht1:[[D.v (.int .i64 x)]].take n=[[.v (.int .i64 x)]]:=List.take_of_length_le (by simpa using h1)
 simp only [dU,dNum] at hm ⊢;refine MC.of_body (tyOf_good _) Tryz.func107 rfl rfl (rs:=[.tmp 4]) Tryz.results107 (by simp [Tryz.ntmps107]) rfl fun X=>?_;simp only [Tryz.ntmps107]
 have fw:=(Aq @mw1 @w2)
 refine rgq fw [0,1] [] ?_;refine AW_then fun K1 hK1=>?_
 have qf:=(Aq fw @h0)
 refine rgqv [0,1,10] [] ?_;refine AW_cond false (by simp) (fun h=>by cases h) (fun _=>?_);refine AW_skip (hK1 _ ?_);refine rgc fw hm [0,5,6] [] ?_;refine AW_then fun K2 hK2=>?_
 have qf:=(Aq fw @hb)
 refine rgqv [0,6,26] [] ?_;refine AW_cond false (by simp<;>omega) (fun h=>by cases h) (fun _=>?_);refine AW_skip (hK2 _ ?_)
 have qf:=(Aq fw (Aq @makeEls.eq_1 (Aq @zeroD.eq_1 (Aq @zeroD.eq_2 @hz))))
 refine rgqv [0,7] [30] ?_
 have qf:=(Aq fw (Aq @repE_len (Aq @ho (Aq @ht1 @h1))))
 refine rgqv [7,8] [30] ?_;refine AW_then fun K3 hK3=>?_;refine AW_for (S:=Nat) (fun k=>1≤k∧k≤n) (fun k=>⟨lst [(7,.own 30 0 n),(8,int k)],hlst [(30,.sl 3 1 (repE x k n))]⟩) (fun k=>n - k) 1 ?_ ⟨by omega,h1⟩ ?_
 ·refine Imp.to' (notIn_ok rfl) (by simp [mw1,w2]) (by simp [mw1,w2])
 ·rintro k ⟨hk1,hk2⟩
  refine AW_then fun K4 hK4=>?_
  by_cases hlt:k < n
  ·have hl:=repE_len (x:=x) hk2
   have hcp:=repE_copy (x:=x) hk2
   have htk:=repE_take (x:=x) (k:=k) (n:=n)
   have qf:=(Aq fw @hlt)
   refine rgqv [7,8,37] [30] ?_;refine AW_cond true (by simp<;>omega) (fun _=>?_) (fun h=>by cases h);refine AW_skip (hK4 _ ?_);refine AW_block ?_
   have hkn:¬ k=n:=by omega
   refine AW_rce (tyOf_good _) (by kernel_rfl) ([7]) (List.range 10) (by kernel_rfl) fun K' hK'=>?_;(repeat (refine sxc_nextO rfl fun K2 hK2=>?_;simp [mw1,w2,hl,hcp,htk,hk2,hkn];(repeat (refine ⟨by omega,?_⟩));refine hK2 _ ?_;clear hK2 K2));refine sxc_nilO (hK' _ ?_);clear hK' K';(try simp only [thn,inb]);refine Again.mk (k+min (n - k) k) ⟨by omega,by omega⟩ (by omega) ?_;refine Imp.to' (notIn_ok rfl) (by simp [mw1,w2]) (by simp [mw1,w2])
  ·obtain rfl:k=n:=by omega
   refine rgq fw [7,8,37] [30] ?_;refine AW_cond false (by simp) (fun h=>by cases h) (fun _=>?_);refine AW_exit (hK3 _ ?_);rw [repE_all];refine rgq fw [4] [30] ?_;refine AW.imp (Imp.ren (r:=30) (r':=601) (by decide) (by simp)) ?_;refine AW.st (by simp [renO,renF,Go.Av.ren,renH_hlst];rfl) ?_;refine AW_ret ?_;simp [D.le,D.le.go,takeMap,mw1,w2]
end Go.Proofs.YtpboiimemmfkiaaGreatDoor
namespace Go.Proofs.YtpboiimemmfkiaaGreatDoor
open Go.Av
def cPa (x:PtP):List D:=[.v (.int .i64 x.nm),.v (.int .i64 x.most),.v (.bool x.far)]
def dPas (l:List PtP):D:=.sl none (l.map cPa)
def cMa (p:PgP) (st inp:Int) (nx:List (List D)):List D:=[dNms p.names,dRgs p.rungs,.v (.int .i64 st),.v (.int .i64 inp),.sl none nx,dPas (partsP p),dIl (inputP p)]
def maR (p:PgP) (st inp:Int) (nx:List (List D)):List (Nat×Row):=[(25,.box 59 [.d (dNms p.names),.d (dRgs p.rungs),.d (.v (.int .i64 st)),.d (.v (.int .i64 inp)),.own 800 0 nx.length,.d (dPas (partsP p)),.d (dIl (inputP p))]),(800,.sl 51 1 nx)]
def dMa (p:PgP) (st inp:Int) (nx:List (List D)):D:=.ip (cMa p st inp nx)
def nxD (l:List (List Int)):List (List D):=l.map fun r=>[dIl r]
theorem nxD_len (l:List (List Int)):(nxD l).length=l.length:=by simp [nxD]
set_option maxHeartbeats 2000000 in
theorem start_mc (G:Glob) (p:PgP) (hp:p.names.length < 2^40):MC Tryz.prog G [] 34 [.d (dPg p)] (hlst []) (.agg [.own 701 0 (startP p).is.length,.own 702 0 (startP p).ct.length]) (hlst [(701,.sl 4 1 ((startP p).is.map fun b=>[.v (.bool b)])),(702,.sl 3 1 ((startP p).ct.map fun n=>[.v (.int .i64 n)]))]):=by
 have hl2:(p.names.map cNm).length=p.names.length:=by simp
 simp only [dPg,cPg,dNms,dRgs,startP,List.map_replicate,List.length_replicate];rw [← hl2];rw [← hl2] at hp;generalize p.names.map cNm=NN at *;generalize p.rungs.map cRg=RR at *;refine MC.of_body (tyOf_good _) Tryz.func34 rfl rfl (rs:=[.cell 2 72]) Tryz.results34 (by simp [Tryz.ntmps34]) rfl fun X=>?_;simp only [Tryz.ntmps34];refine rg0 [1,2] [1,2] ?_;refine AW.imp (Imp.freezeB 1 (by decide)) ?_;refine AW.st (by simp;rfl) ?_;refine AW_rl (tyOf_good _) (by kernel_rfl) ([]) ([]) ([0,1,2,4,5,6,3,7,8,9]) [2] [2,6,10] (notIn_ok rfl) (by kernel_rfl) fun K' hK'=>?_;(repeat (refine sxl_nextO rfl fun K2 hK2=>?_;simp [makeEls,zeroD];(repeat (refine ⟨by omega,?_⟩));refine hK2 _ ?_;clear hK2 K2));refine sxl_nilO (hK' _ ?_);refine AW.st (by simp [makeEls,zeroD];rfl) ?_;clear hK' K';refine AW.imp (Imp.ren (r:=6) (r':=701) (by decide) (by simp)) ?_;refine AW.st (by simp [renO,renF,Go.Av.ren,renH_hlst];rfl) ?_;refine AW.imp (Imp.ren (r:=10) (r':=702) (by decide) (by simp)) ?_;refine AW.st (by simp [renO,renF,Go.Av.ren,renH_hlst];rfl) ?_;refine AW_ret ?_;simp [D.le,D.le.go,takeMap]
set_option maxRecDepth 100000 in
set_option maxHeartbeats 8000000 in
theorem mstate_mc (G:Glob) (p:PgP) (hck:checkP p=none) (st inp:Int) (nx:List (List D)) (n:Int) (h0:0≤n) (h1:n≤2^40):MC Tryz.prog G [25,800] 33 [.ref 25 0 0,.d (dNum n)] (hlst (maR p st inp nx)) (.d (dSt (stP p n))) (hlst (maR p st inp nx)):=by
 have hg:=checkP_good hck
 have hnm:=hg.names
 have hst:=start_mc G p (by omega)
 have hPg:∀ x∈partsP p,GoodPt p x:=fun x hx=>parts_good hg hx
 have hs1:(startP p).is.length=p.names.length:=by simp [startP]
 have hs2:(startP p).ct.length=p.names.length:=by simp [startP]
 have hfin:stN ((partsP p).drop 0) n (startP p)=stP p n:=rfl
 have hPl:=partsN_len p p.names.length
 have hPP:partsN p p.names.length=partsP p:=rfl
 rw [hPP] at hPl;simp only [dPg,cPg,dNms,dRgs] at hst;simp only [maR,dNms,dRgs,dPas,dIl,dNum,dSt,cSt,dBl];generalize hFIN:stP p n=FIN at *;generalize hST:startP p=ST at *;generalize hPTS:partsP p=PTS at *
 have hTl:(PTS.map cPa).length=PTS.length:=by simp
 have hTg:∀ i (h:i < PTS.length),(PTS.map cPa)[i]? = some [.v (.int .i64 PTS[i].nm),.v (.int .i64 PTS[i].most),.v (.bool PTS[i].far)]:=fun i h=>by simp [h,cPa]
 generalize PTS.map cPa=PT at *;generalize (inputP p).map (fun n=>[D.v (.int .i64 n)])=IN at *;generalize p.names.map cNm=NN at *;generalize p.rungs.map cRg=RR at *;refine MC.of_body (tyOf_good _) Tryz.func33 rfl rfl (rs:=[.cell 4 72]) Tryz.results33 (by simp [Tryz.ntmps33]) rfl fun X=>?_;simp only [Tryz.ntmps33]
 have fw:=@dNum.eq_1
 refine rgq fw [0,1,4] [25,800,4] ?_;refine rgm fw hst [0,1,4,5] [25,800,4,5,701,702] ?_;refine AW_then fun K1 hK1=>?_;refine rgq fw [1,4,5,17,18,19] [25,800,4,5,701,702] ?_;refine AW_for (S:=Nat×Int×StP) (fun s=>s.1≤PTS.length∧0≤s.2.1∧s.2.1≤2^40∧s.2.2.is.length=p.names.length∧s.2.2.ct.length=p.names.length∧stN (PTS.drop s.1) s.2.1 s.2.2=FIN) (fun s=>⟨lst [(1,int s.2.1),(4,.ref 4 0 0),(5,.ref 5 0 0),(17,.d (.sl none PT)),(18,int PT.length),(19,int s.1)],hlst [(25,.box 59 [.d (.sl none NN),.d (.sl none RR),.d (.v (.int .i64 st)),.d (.v (.int .i64 inp)),.own 800 0 nx.length,.d (.sl none PT),.d (.sl none IN)]),(800,.sl 51 1 nx),(4,.box 72 [.d (.sl (some false) []),.d (.sl (some false) [])]),(5,.box 72 [.own 701 0 s.2.2.is.length,.own 702 0 s.2.2.ct.length]),(701,.sl 4 1 (s.2.2.is.map fun b=>[.v (.bool b)])),(702,.sl 3 1 (s.2.2.ct.map fun n=>[.v (.int .i64 n)]))]⟩) (fun s=>PTS.length - s.1) (0,n,ST) ?_ ⟨by simp,h0,h1,hs1,hs2,hfin⟩ ?_
 ·refine Imp.to' (notIn_ok rfl) (by simp [dNum]) (by simp [dNum])
 ·rintro ⟨k,m,T⟩ ⟨hk,hm0,hm1,hl1,hl2,hrest⟩
  dsimp only at hk hm0 hm1 hl1 hl2 hrest ⊢
  obtain ⟨TI,TC⟩:=T
  dsimp only at hl1 hl2 ⊢
  refine rgq fw [1,4,5,17,18,19,20] [25,800,4,5,701,702] ?_;refine AW_then fun K2 hK2=>?_
  by_cases hlt:k < PTS.length
  ·have hlt2:k < PT.length:=by omega
   have hlt3:(k:Int) < (PT.length:Int):=by omega
   refine AW_cond true (by simp<;>omega) (fun _=>?_) (fun h=>by cases h);refine AW_skip (hK2 _ ?_);refine AW_then fun K3 hK3=>?_;refine AW_block ?_
   have hx:=hPg _ (List.getElem_mem hlt)
   have hPk:PT[k]=[.v (.int .i64 PTS[k].nm),.v (.int .i64 PTS[k].most),.v (.bool PTS[k].far)]:=by
    have:=hTg k hlt
    rw [List.getElem?_eq_getElem hlt2] at this;exact Option.some.inj this
   rw [List.drop_eq_getElem_cons hlt,stN] at hrest
   have hxl:=hx.lt
   have hm2:=hx.m2
   have hm8:=hx.m8
   clear hx;generalize PTS[k]=x at hPk hrest hxl hm2 hm8
   obtain ⟨i,M,fa⟩:=x
   dsimp only at hPk hrest hxl hm2 hm8
   have hMn:¬ M=0:=by omega
   have hmod:m.tmod M=m % M:=Int.tmod_eq_emod_of_nonneg hm0
   have hd0:0≤m / M:=Int.ediv_nonneg hm0 (by omega)
   have hd1:m / M≤m:=Int.ediv_le_self _ hm0
   have hdiv:IntKind.i64.wrap (m.tdiv M)=m / M:=by
    rw [Int.tdiv_eq_ediv_of_nonneg hm0];exact wrap_fit (by omega)
   have hr0:0≤m % M:=Int.emod_nonneg _ hMn
   have hr1:m % M < M:=Int.emod_lt_of_pos _ (by omega)
   generalize hq:m / M=q at *;generalize hr:m % M=r at *
   have hi1:i < TI.length:=by omega
   have hi2:i < TC.length:=by omega
   have qf:=(Aq fw (Aq @hlt2 @hPk))
   refine rgqv [1,4,5,7,17,18,19] [25,800,4,5,7,701,702] ?_;refine AW.imp (Imp.freezeB 7 (by decide)) ?_;refine AW.st (by simp [dNum];rfl) ?_
   have qf:=(Aq fw (Aq @hMn @hmod))
   refine rgqv [1,4,5,7,8,17,18,19] [25,800,4,5,701,702] ?_
   have qf:=(Aq fw (Aq @hMn @hdiv))
   refine rgqv [1,4,5,7,8,17,18,19] [25,800,4,5,701,702] ?_;refine rgq fw [1,4,5,7,8,17,18,19,32] [25,800,4,5,701,702] ?_
   cases fa with
   | true=>
    simp only [putP,if_true] at hrest;refine AW_tt rfl ?_
    have qf:=(Aq fw @hi2)
    refine rgqv [1,4,5,7,8,17,18,19] [25,800,4,5,701,702] ?_
    have qf:=(Aq fw @hi1)
    refine reKv hK3 [1,4,5,17,18,19] [25,800,4,5,701,702] ?_;refine AW_re (tyOf_good _) fun K' hK'=>?_;(repeat (refine sxn fun K2 hK2=>?_;simp [dNum];(repeat (refine ⟨by omega,?_⟩));refine hK2 _ ?_;clear hK2 K2));refine sxz (hK' _ ?_);clear hK' K';(try simp only [thn,inb]);refine Again.mk (k+1,q,⟨TI.set i (decide (r=M - 1)),TC.set i r⟩) ⟨by dsimp only;omega,hd0,by dsimp only;omega,by simp [hl1],by simp [hl2],hrest⟩ (by dsimp only;omega) ?_;refine Imp.to' (notIn_ok rfl) (by simp [dNum,List.map_set]) (by simp [dNum,List.map_set])
   | false=>
    simp only [putP,Bool.false_eq_true,if_false] at hrest;refine AW_ff rfl ?_
    have qf:=(Aq fw @hi1)
    refine reKv hK3 [1,4,5,17,18,19] [25,800,4,5,701,702] ?_;refine AW_re (tyOf_good _) fun K' hK'=>?_;(repeat (refine sxn fun K2 hK2=>?_;simp [dNum];(repeat (refine ⟨by omega,?_⟩));refine hK2 _ ?_;clear hK2 K2));refine sxz (hK' _ ?_);clear hK' K';(try simp only [thn,inb]);refine Again.mk (k+1,q,⟨TI.set i (decide (r=1)),TC⟩) ⟨by dsimp only;omega,hd0,by dsimp only;omega,by simp [hl1],hl2,hrest⟩ (by dsimp only;omega) ?_;refine Imp.to' (notIn_ok rfl) (by simp [dNum,List.map_set]) (by simp [dNum,List.map_set])
  ·have hlt3:¬ (k:Int) < (PT.length:Int):=by omega
   rw [List.drop_eq_nil_of_le (by omega),stN] at hrest;subst hrest;refine AW_cond false (by simp;omega) (fun h=>by cases h) (fun _=>?_);refine AW_exit (hK1 _ ?_);refine AW.imp (Imp.freeze 701 (by decide)) ?_;refine AW.st (by simp [dNum,List.take_of_length_le];rfl) ?_;refine AW.imp (Imp.freeze 702 (by decide)) ?_;refine AW.st (by simp [dNum,List.take_of_length_le];rfl) ?_;refine rgq fw [4] [25,800,4] ?_;refine AW_ret ?_;simp [D.le,D.le.go,takeMap,dNum,D.le_refl,D.leGo_refl]
set_option maxRecDepth 100000 in
set_option maxHeartbeats 8000000 in
theorem mnumber_mc (G:Glob) (p:PgP) (hck:checkP p=none) (st inp:Int) (nx:List (List D)) (s:StP) (hs:InvS p s) (hP:prodP (partsP p)≤4096):MC Tryz.prog G [25,800] 32 [.ref 25 0 0,.d (dSt s)] (hlst (maR p st inp nx)) (.d (dNum (nrP (partsP p) s))) (hlst (maR p st inp nx)):=by
 have hg:=checkP_good hck
 have hnm:=hg.names
 have hPg:∀ x∈partsP p,GoodPt p x:=fun x hx=>parts_good hg hx
 have hdg:∀ x∈partsP p,0≤digP x s∧digP x s < x.most:=fun x hx=>dig_range hs (hPg x hx)
 have hnr:=nr_range hdg
 have hm2:∀ x∈partsP p,2≤x.most:=fun x hx=>(hPg x hx).m2
 have hdn:∀ k,0≤nrP ((partsP p).drop k) s:=fun k=>(nr_range fun x hx=>hdg x (List.mem_of_mem_drop hx)).1
 have hdp:∀ k,0 < prodP ((partsP p).drop k):=fun k=>prodP_pos fun x hx=>hm2 x (List.mem_of_mem_drop hx)
 have hs1:=hs.l1
 have hs2:=hs.l2
 clear hs
 have hPl:=partsN_len p p.names.length
 have hPP:partsN p p.names.length=partsP p:=rfl
 rw [hPP] at hPl;simp only [maR,dNms,dRgs,dPas,dIl,dNum,dSt,cSt,dBl]
 obtain ⟨TI,TC⟩:=s
 dsimp only at hs1 hs2 ⊢
 generalize hPTS:partsP p=PTS at *
 have hTl:(PTS.map cPa).length=PTS.length:=by simp
 have hTg:∀ i (h:i < PTS.length),(PTS.map cPa)[i]? = some [.v (.int .i64 PTS[i].nm),.v (.int .i64 PTS[i].most),.v (.bool PTS[i].far)]:=fun i h=>by simp [h,cPa]
 generalize PTS.map cPa=PT at *;generalize (inputP p).map (fun n=>[D.v (.int .i64 n)])=IN at *;generalize p.names.map cNm=NN at *;generalize p.rungs.map cRg=RR at *;refine MC.of_body (tyOf_good _) Tryz.func32 rfl rfl (rs:=[.tmp 4]) Tryz.results32 (by simp [Tryz.ntmps32]) rfl fun X=>?_;simp only [Tryz.ntmps32]
 have fw:=@dNum.eq_1
 refine rgq fw [0,3] [25,800,3] ?_;refine AW.imp (Imp.freezeB 3 (by decide)) ?_;refine AW.st (by simp [dNum];rfl) ?_;refine rgq fw [0,3,5,6] [25,800] ?_;refine AW_then fun K1 hK1=>?_;refine rgq fw [3,5,6,13,14,15] [25,800] ?_;refine AW_for (S:=Nat×Int×Int) (fun s=>s.1≤PTS.length∧0≤s.2.1∧0 < s.2.2∧s.2.2 * prodP (PTS.drop s.1)=prodP PTS∧s.2.1+s.2.2 * nrP (PTS.drop s.1) ⟨TI,TC⟩=nrP PTS ⟨TI,TC⟩) (fun s=>⟨lst [(3,.d (.ip [.sl none (TI.map fun b=>[.v (.bool b)]),.sl none (TC.map fun n=>[.v (.int .i64 n)])])),(5,int s.2.1),(6,int s.2.2),(13,.d (.sl none PT)),(14,int PT.length),(15,int s.1)],hlst [(25,.box 59 [.d (.sl none NN),.d (.sl none RR),.d (.v (.int .i64 st)),.d (.v (.int .i64 inp)),.own 800 0 nx.length,.d (.sl none PT),.d (.sl none IN)]),(800,.sl 51 1 nx)]⟩) (fun s=>PTS.length - s.1) (0,0,1) ?_ ⟨by simp,by simp,by simp,by simp,by simp⟩ ?_
 ·refine Imp.to' (notIn_ok rfl) (by simp [dNum]) (by simp [dNum])
 ·rintro ⟨k,n,b⟩ ⟨hk,hn0,hb0,hpr,hrest⟩
  dsimp only at hk hn0 hb0 hpr hrest ⊢
  have hnn:=hdn k
  have hbn:0≤b * nrP (PTS.drop k) ⟨TI,TC⟩:=Int.mul_nonneg (by omega) hnn
  refine rgq fw [3,5,6,13,14,15,16] [25,800] ?_;refine AW_then fun K2 hK2=>?_
  by_cases hlt:k < PTS.length
  ·have hlt2:k < PT.length:=by omega
   have hlt3:(k:Int) < (PT.length:Int):=by omega
   refine AW_cond true (by simp<;>omega) (fun _=>?_) (fun h=>by cases h);refine AW_skip (hK2 _ ?_);refine AW_then fun K3 hK3=>?_;refine AW_block ?_
   have hx:=hPg _ (List.getElem_mem hlt)
   obtain ⟨hd0,hd1⟩:=hdg _ (List.getElem_mem hlt)
   have hPk:PT[k]=[.v (.int .i64 PTS[k].nm),.v (.int .i64 PTS[k].most),.v (.bool PTS[k].far)]:=by
    have:=hTg k hlt
    rw [List.getElem?_eq_getElem hlt2] at this;exact Option.some.inj this
   have hdn1:=hdn (k+1)
   have hdp1:=hdp (k+1)
   rw [List.drop_eq_getElem_cons hlt,nrP] at hrest;rw [List.drop_eq_getElem_cons hlt,prodP,← Int.mul_assoc] at hpr;rw [Int.mul_add,← Int.add_assoc,← Int.mul_assoc] at hrest
   have hxl:=hx.lt
   have hm2:=hx.m2
   clear hx hbn hnn;unfold digP at hrest hd0 hd1;generalize PTS[k]=x at hPk hrest hpr hxl hm2 hd0 hd1
   obtain ⟨i,M,fa⟩:=x
   dsimp only at hPk hrest hpr hxl hm2 hd0 hd1
   have hbM0:0 < b * M:=Int.mul_pos hb0 (by omega)
   have hbM1:b * M≤4096:=by
    have:=Int.mul_le_mul_of_nonneg_left (show (1:Int)≤prodP (PTS.drop (k+1)) by omega) (Int.le_of_lt hbM0)
    omega
   have hbMn:0≤b * M * nrP (PTS.drop (k+1)) ⟨TI,TC⟩:=Int.mul_nonneg (by omega) hdn1
   have hi1:i < TI.length:=by omega
   have hi2:i < TC.length:=by omega
   rw [getD_of hi1,getD_of hi2] at hrest hd0 hd1;generalize hbv:TI[i]=bv at *;generalize hcv:TC[i]=c at *;generalize hbMe:b * M=bM at *
   have qf:=(Aq fw (Aq @hlt2 @hPk))
   refine rgqv [3,5,6,8,13,14,15] [25,800,8] ?_;refine AW.imp (Imp.freezeB 8 (by decide)) ?_;refine AW.st (by simp [dNum];rfl) ?_;refine rgq fw [3,5,6,8,9,13,14,15] [25,800] ?_;refine AW_then fun K4 hK4=>?_;refine rgq fw [3,5,6,8,9,13,14,15,20] [25,800] ?_
   cases fa with
   | true=>
    simp only [if_true] at hrest hd0 hd1
    have hc0:0≤b * c:=Int.mul_nonneg (by omega) hd0
    have hc1:b * c≤bM:=by
     have:=Int.mul_le_mul_of_nonneg_left (Int.le_of_lt hd1) (Int.le_of_lt hb0)
     omega
    generalize hbce:b * c=bc at *;refine AW_tt rfl ?_
    have qf:=(Aq fw (Aq @hi2 @hcv))
    refine reKv hK4 [3,5,6,8,9,13,14,15] [25,800] ?_
    have qf:=(Aq fw @hbce)
    refine rgqv [3,5,6,8,13,14,15] [25,800] ?_
    have qf:=(Aq fw @hbMe)
    refine reKv hK3 [3,5,6,13,14,15] [25,800] ?_;refine AW_re (tyOf_good _) fun K' hK'=>?_;(repeat (refine sxn fun K2 hK2=>?_;simp [dNum];(repeat (refine ⟨by omega,?_⟩));refine hK2 _ ?_;clear hK2 K2));refine sxz (hK' _ ?_);clear hK' K';(try simp only [thn,inb]);refine Again.mk (k+1,n+bc,bM) ⟨by dsimp only;omega,by dsimp only;omega,hbM0,hpr,hrest⟩ (by dsimp only;omega) ?_;refine Imp.to' (notIn_ok rfl) (by simp [dNum]) (by simp [dNum])
   | false=>
    simp only [Bool.false_eq_true,if_false] at hrest hd0 hd1;refine AW_ff rfl ?_
    have qf:=(Aq fw (Aq @hi1 @hbv))
    refine rgqv [3,5,6,8,9,13,14,15,32] [25,800] ?_
    cases bv with
    | true=>
     simp only [if_true,Int.mul_one] at hrest
     have hb1:b≤bM:=by
      have:=Int.mul_le_mul_of_nonneg_left (show (1:Int)≤M by omega) (Int.le_of_lt hb0)
      omega
     refine AW_tt rfl ?_;refine reK fw hK4 [3,5,6,8,9,13,14,15] [25,800] ?_;refine rgq fw [3,5,6,8,13,14,15] [25,800] ?_
     have qf:=(Aq fw @hbMe)
     refine reKv hK3 [3,5,6,13,14,15] [25,800] ?_;refine AW_re (tyOf_good _) fun K' hK'=>?_;(repeat (refine sxn fun K2 hK2=>?_;simp [dNum];(repeat (refine ⟨by omega,?_⟩));refine hK2 _ ?_;clear hK2 K2));refine sxz (hK' _ ?_);clear hK' K';(try simp only [thn,inb]);refine Again.mk (k+1,n+b,bM) ⟨by dsimp only;omega,by dsimp only;omega,hbM0,hpr,hrest⟩ (by dsimp only;omega) ?_;refine Imp.to' (notIn_ok rfl) (by simp [dNum]) (by simp [dNum])
    | false=>
     simp only [Bool.false_eq_true,if_false,Int.mul_zero,Int.add_zero] at hrest;refine AW_ff rfl ?_;refine AW_skip (hK4 _ ?_);refine rgq fw [3,5,6,8,13,14,15] [25,800] ?_
     have qf:=(Aq fw @hbMe)
     refine reKv hK3 [3,5,6,13,14,15] [25,800] ?_;refine AW_re (tyOf_good _) fun K' hK'=>?_;(repeat (refine sxn fun K2 hK2=>?_;simp [dNum];(repeat (refine ⟨by omega,?_⟩));refine hK2 _ ?_;clear hK2 K2));refine sxz (hK' _ ?_);clear hK' K';(try simp only [thn,inb]);refine Again.mk (k+1,n,bM) ⟨by dsimp only;omega,by dsimp only;omega,hbM0,hpr,hrest⟩ (by dsimp only;omega) ?_;refine Imp.to' (notIn_ok rfl) (by simp [dNum]) (by simp [dNum])
  ·have hlt3:¬ (k:Int) < (PT.length:Int):=by omega
   rw [List.drop_eq_nil_of_le (by omega),nrP,Int.mul_zero,Int.add_zero] at hrest;subst hrest;refine AW_cond false (by simp;omega) (fun h=>by cases h) (fun _=>?_);refine AW_exit (hK1 _ ?_);refine rgq fw [4] [25,800] ?_;refine AW_ret ?_;simp [D.le,D.le.go,takeMap,dNum,D.le_refl,D.leGo_refl]
set_option maxRecDepth 100000 in
set_option maxHeartbeats 8000000 in
theorem minput_mc (G:Glob) (p:PgP) (hck:checkP p=none) (st inp:Int) (nx:List (List D)) (x:Int):MC Tryz.prog G [25,800] 48 [.ref 25 0 0,.d (dNum x)] (hlst (maR p st inp nx)) (.d (dBl (inBs x (inputP p).length))) (hlst (maR p st inp nx)):=by
 have hnm:=(checkP_good hck).names
 have hiL:=kindN_len p.names 1 p.names.length
 have hkI:kindN p.names 1 p.names.length=inputP p:=rfl
 rw [hkI] at hiL;simp only [maR,dNms,dRgs,dPas,dIl,dNum,dBl]
 have hIl:((inputP p).map fun n=>[D.v (.int .i64 n)]).length=(inputP p).length:=by simp
 generalize (inputP p).length=m at *;generalize (inputP p).map (fun n=>[D.v (.int .i64 n)])=IN at *;generalize (partsP p).map cPa=PT at *;generalize p.names.map cNm=NN at *;generalize p.rungs.map cRg=RR at *;refine MC.of_body (tyOf_good _) Tryz.func48 rfl rfl (rs:=[.tmp 4]) Tryz.results48 (by simp [Tryz.ntmps48]) rfl fun X=>?_;simp only [Tryz.ntmps48]
 have fw:=@dNum.eq_1
 refine rgq fw [0,1] [25,800] ?_;refine rgq fw [0,1,5] [25,800] ?_;refine AW_then fun K1 hK1=>?_;refine rgq fw [1,5,11,12] [25,800] ?_;refine AW_for (S:=Nat) (fun k=>k≤m) (fun k=>⟨lst [(1,int x),(5,.own 901 0 k),(11,int m),(12,int k)],hlst [(25,.box 59 [.d (.sl none NN),.d (.sl none RR),.d (.v (.int .i64 st)),.d (.v (.int .i64 inp)),.own 800 0 nx.length,.d (.sl none PT),.d (.sl none IN)]),(800,.sl 51 1 nx),(901,.sl 4 1 ((inBs x k).map fun b=>[.v (.bool b)]))]⟩) (fun k=>m - k) 0 ?_ (by omega) ?_
 ·refine (Imp.adopt 5 901 4 1 rfl rfl).trans ?_;refine Imp.to' (notIn_ok rfl) (by simp [dNum,inBs,hIl]) (by simp [dNum,inBs,hIl])
 ·intro k hkm
  have hBl:((inBs x k).map fun b=>[D.v (.bool b)]).length=k:=by simp [inBs_len]
  have hBs:inBs x (k+1)=inBs x k ++ [inB x k]:=rfl
  have hinB:(bitsI .and .i64 (x.fdiv (2 ^ (min k IntKind.i64.bits))) 1 == 1)=inB x k:=rfl
  generalize hbk:inBs x k=B at hBl hBs ⊢;refine rgq fw [1,5,11,12,13] [25,800,901] ?_;refine AW_then fun K2 hK2=>?_;refine AW_cond' (b:=k < m) (by simp [D.le,D.le.go,takeMap,dNum]) (fun hc=>?_) (fun hc=>?_)
  ·refine AW_skip (hK2 _ ?_);refine AW_then fun K3 hK3=>?_;refine AW_block ?_;refine rgq fw [1,5,6,11,12] [25,800,901] ?_;refine AW_re (tyOf_good _) fun K' hK'=>?_;(repeat (refine sxn fun K2 hK2=>?_;simp [dNum,hBl,List.take_of_length_le,shI,hinB];(repeat (refine ⟨by omega,?_⟩));refine hK2 _ ?_;clear hK2 K2));refine sxz (hK' _ ?_);clear hK' K';refine hK3 _ (AW.norm [1,5,11,12] [25,800,901] (notIn_ok rfl) (AW.st (by simp [dNum,hBl,List.take_of_length_le,shI,hinB];rfl) ?_));refine AW_re (tyOf_good _) fun K' hK'=>?_;(repeat (refine sxn fun K2 hK2=>?_;simp [dNum];(repeat (refine ⟨by omega,?_⟩));refine hK2 _ ?_;clear hK2 K2));refine sxz (hK' _ ?_);clear hK' K';(try simp only [thn,inb]);refine Again.mk (k+1) (by omega) (by omega) ?_;rw [hBs];refine Imp.to' (notIn_ok rfl) (by simp [dNum]) (by simp [dNum])
  ·obtain rfl:k=m:=by omega
   refine AW_exit (hK1 _ ?_);rw [hbk];refine AW.imp (Imp.freeze 901 (by decide)) ?_;refine AW.st (by simp [dNum,hBl,List.take_of_length_le];rfl) ?_;refine rgq fw [4] [25,800] ?_;refine AW_ret ?_;simp [D.le,D.le.go,takeMap,dNum,D.le_refl,D.leGo_refl]
end Go.Proofs.YtpboiimemmfkiaaGreatDoor
namespace Go.Proofs.YtpboiimemmfkiaaGreatDoor
open Go.Av
theorem wrap_shl6 {V:Nat} (h:V≤6):IntKind.i64.wrap (2 ^ (min V IntKind.i64.bits))=((2^V:Nat):Int):=by
 have:V=0∨V=1∨V=2∨V=3∨V=4∨V=5∨V=6:=by omega
 rcases this with rfl | rfl | rfl | rfl | rfl | rfl | rfl<;>decide
def setsB (n:Nat) (E:List Int):Nat→List Bool
 | 0=>List.replicate n false
 | j+1=>(setsB n E j).set (E.getD j 0).toNat true
theorem setsB_len (n:Nat) (E:List Int):∀ j,(setsB n E j).length=n
 | 0=>by simp [setsB]
 | j+1=>by rw [setsB,List.length_set,setsB_len]
theorem setsB_at {n:Nat} {E:List Int} {i:Nat} (hi:i < n):∀ j,j≤E.length→((setsB n E j).getD i false=true↔∃ q,q < j∧(E.getD q 0).toNat=i)
 | 0,_=>by
  rw [setsB,getD_rep];exact ⟨fun h=>(by cases h),fun ⟨q,hq,_⟩=>absurd hq (by omega)⟩
 | j+1,hj=>by
  rw [setsB]
  by_cases e:(E.getD j 0).toNat=i
  ·rw [← e,getD_set_same (by rw [setsB_len];omega)];exact ⟨fun _=>⟨j,by omega,rfl⟩,fun _=>rfl⟩
  ·rw [getD_set_other e,setsB_at hi j (by omega)]
   constructor
   ·rintro ⟨q,hq,h⟩;exact ⟨q,by omega,h⟩
   ·rintro ⟨q,hq,h⟩
    refine ⟨q,Classical.byContradiction fun hn=>?_,h⟩
    obtain rfl:q=j:=by omega
    exact e h
theorem sets_edges (p:PgP):setsB p.names.length (wedN p p.names.length) (wedN p p.names.length).length=p.names.map (edB p):=by
 refine ext_getD (d:=false) (by rw [setsB_len];simp) fun i hi=>?_;rw [setsB_len] at hi
 have e1:(p.names.map (edB p)).getD i false=edB p p.names[i]:=by rw [getD_of (by simpa using hi)];simp
 rw [e1]
 have h:=setsB_at (E:=wedN p p.names.length) hi _ (Nat.le_refl _)
 have h2:(∃ q,q < (wedN p p.names.length).length∧((wedN p p.names.length).getD q 0).toNat=i)↔edB p p.names[i]=true:=by
  constructor
  ·rintro ⟨q,hq,he⟩
   rw [getD_of hq] at he
   obtain ⟨k,hk,_,hx,ha⟩:=(wedN_mem (Nat.le_refl _)).1 (List.getElem_mem hq)
   rw [hx,Int.toNat_natCast] at he;subst he;exact ha
  ·intro ha
   obtain ⟨q,hq,he⟩:=List.mem_iff_getElem.1 ((wedN_mem (x:=(i:Int)) (Nat.le_refl _)).2 ⟨i,hi,hi,rfl,ha⟩)
   exact ⟨q,hq,by rw [getD_of hq,he];simp⟩
 rw [h2] at h
 cases h3:edB p p.names[i] with
 | true=>exact h.2 h3
 | false=>
  cases h4:(setsB p.names.length (wedN p p.names.length) (wedN p p.names.length).length).getD i false with
  | true=>rw [h.1 h4] at h3;cases h3
  | false=>rfl
theorem wed_at {p:PgP} {q:Nat} (hq:q < (wedN p p.names.length).length):∃ i,i < p.names.length∧(wedN p p.names.length)[q]=(i:Int):=by
 obtain ⟨k,hk,_,hx,_⟩:=(wedN_mem (Nat.le_refl _)).1 (List.getElem_mem hq)
 exact ⟨k,hk,hx⟩
theorem nextP_take {p:PgP} {s:Nat} (h:s < (nextP p).length):nxD ((nextP p).take (s+1))=nxD ((nextP p).take s) ++ [[dIl (rowP p (inputP p).length s)]]:=by
 rw [List.take_succ_eq_append_getElem h,nxD,nxD,List.map_append,nextP_at h]
 rfl
theorem rowP_take {p:PgP} {m s i:Nat} (h:i < 2 ^ m):(rowP p m s).take (i+1)=(rowP p m s).take i ++ [nrP (partsP p) (doP p (stP p s) (inBs i m))]:=by
 have h':i < (rowP p m s).length:=by rw [rowP_len];exact h
 rw [List.take_succ_eq_append_getElem h',rowP_at]
set_option maxRecDepth 100000 in
set_option maxHeartbeats 32000000 in
theorem mof_good (G:Glob) (p:PgP) (hck:checkP p=none) (hk:∀ r∈p.rungs,CondOk r) (hin:(inputP p).length≤6) (hP:prodP (partsP p)≤4096):PureC Tryz.prog G 37 [dPg p] (.tup [dMa p (prodP (partsP p)) ((2 ^ (inputP p).length:Nat):Int) (nxD (nextP p)),.v .nilIface]):=by
 have hg:=checkP_good hck
 have hnm:=hg.names
 have hcs:=ladderCheck_spec G p (small_of hck hk)
 rw [hck] at hcs
 have hkd:=lkind_spec G p (by omega) 1
 have hkI:kindN p.names 1 p.names.length=inputP p:=rfl
 rw [hkI] at hkd
 have hed:=ledges_spec G p (by omega) (by have:=hg.rungs;omega) (fun r hr=>by
  obtain ⟨e,he,_,_,hb⟩:=hk r hr
  exact ⟨e,he,by omega⟩)
 rw [edges_same hck] at hed
 have hsL:=setsB_len p.names.length (wedN p p.names.length)
 have hsE:=sets_edges p
 have hwA:=fun q (hq:q < (wedN p p.names.length).length)=>wed_at hq
 have hwS:=fun q (hq:q < (wedN p p.names.length).length)=>(show setsB p.names.length (wedN p p.names.length) (q+1)=(setsB p.names.length (wedN p p.names.length) q).set ((wedN p p.names.length)[q]).toNat true by rw [setsB,getD_of hq])
 have hs0:setsB p.names.length (wedN p p.names.length) 0=List.replicate p.names.length false:=rfl
 have hwl:=wedN_len p p.names.length
 have hstm:=fun (nx:List (List D)) (n:Nat) (h1:(n:Int) < 4096)=>mstate_mc G p hck (prodP (partsP p)) ((2 ^ (inputP p).length:Nat):Int) nx n (by omega) (by omega)
 have hinm:=fun (nx:List (List D)) (n:Nat)=>minput_mc G p hck (prodP (partsP p)) ((2 ^ (inputP p).length:Nat):Int) nx n
 have hnum:=fun (nx:List (List D)) (s:StP) (hs:InvS p s)=>mnumber_mc G p hck (prodP (partsP p)) ((2 ^ (inputP p).length:Nat):Int) nx s hs hP
 have hdo:=fun (s:Nat) (i:Nat)=>do_spec G p hck hk (stP p s) (stP_inv hck s) (inBs i (inputP p).length) (inBs_len _ _)
 have hdi:=fun (s:Nat) (i:Nat)=>(do_inv hck (stP_inv hck s) (inBs i (inputP p).length)).1
 have hPs:∀ k (h:k < p.names.length),partsN p (k+1)=partsN p k ++ partOf p.names[k] (edB p p.names[k]) k:=fun k h=>partsN_succ h
 have hPl:=partsN_len p
 have hPe:partsN p p.names.length=partsP p:=rfl
 have hm2:∀ x∈partsP p,2≤x.most:=fun x hx=>(parts_good hg hx).m2
 have hpt:=fun k (h:k < (partsP p).length)=>prodP_take h
 have hpm:=fun k=>prodP_mono hm2 k
 have hpp:0 < prodP (partsP p):=prodP_pos hm2
 have hp1:=fun k=>(prodP_pos (l:=(partsP p).take k) fun x hx=>hm2 x (List.mem_of_mem_take hx))
 have hnt:=fun s (h:s < (nextP p).length)=>nextP_take h
 have hnl:=nextP_len p
 have hrt:=fun s i (h:i < 2 ^ (inputP p).length)=>rowP_take (p:=p) (s:=s) h
 have hrl:=fun s=>rowP_len p (inputP p).length s
 have hsh:=wrap_shl6 hin
 have h26:2 ^ (inputP p).length≤64:=by
  have:=Nat.pow_le_pow_right (n:=2) (by omega) hin
  omega
 have hcnt:=hg.count
 simp only [maR,dNum,dSt,cSt,dBl,dIl,dPas] at hstm hinm hnum hdo;simp only [dPg,cPg,dNms,dRgs,dErr,dMa,cMa,dPas,dIl] at hkd hcs hed hdo hstm hinm hnum hnt ⊢;generalize nextP p=NXT at *;generalize hROW:rowP p (inputP p).length=ROW at *;clear hROW;generalize wedN p p.names.length=E at *;generalize setsB p.names.length E=SB at *
 have hIl:((inputP p).map fun x=>[D.v (.int .i64 x)]).length=(inputP p).length:=by simp
 generalize ((inputP p).map fun x=>[D.v (.int .i64 x)])=IN at *;generalize (inputP p).length=m at *
 have hNl:(p.names.map cNm).length=p.names.length:=by simp
 have hNg:∀ i (h:i < p.names.length),(p.names.map cNm)[i]? = some [.v (.string (bs p.names[i].name)),.v (.int .i64 p.names[i].kind),.v (.int .i64 p.names[i].count)]:=fun i h=>by simp [h,cNm,dS]
 generalize p.names.map cNm=NN at *;generalize p.rungs.map cRg=RR at *
 have hEl:(E.map fun x=>[D.v (.int .i64 x)]).length=E.length:=by simp
 refine PureC.of_body (tyOf_good _) Tryz.func37 rfl rfl (rs:=[.tmp 2,.tmp 3]) Tryz.results37 (by simp [Tryz.ntmps37]) fun X=>?_;simp only [Tryz.ntmps37,List.map]
 have fw:=@dNum.eq_1
 refine rgq fw [1] [1] ?_;refine AW.imp (Imp.freezeB 1 trivial) ?_;refine AW.st (by simp [dNum];rfl) ?_;refine AW_then fun K1 hK1=>?_;refine rgc fw hcs [1,4] [] ?_;refine rgq fw [1,4,19] [] ?_;refine AW_ff rfl ?_;refine AW_skip (hK1 _ ?_);refine rdc fw hkd [1,5] [25] ?_;refine AW_then fun K2 hK2=>?_
 have hin2:¬ (IN.length:Int) > 6:=by omega
 have qf:=(Aq fw @hin2)
 refine rgqv [1,5,31] [25] ?_;refine AW_cond false (by simp<;>omega) (fun h=>by cases h) (fun _=>?_);refine AW_skip (hK2 _ ?_)
 have qf:=(Aq fw (Aq @shI.eq_1 (Aq @shI.eq_2 (Aq @shI.eq_3 (Aq @hIl @hsh)))))
 refine rgqv [1,5] [25] ?_;refine rgq (Aq fw (Aq @makeEls.eq_1 (Aq @zeroD.eq_1 @zeroD.eq_2))) [1,5,6] [25,45] ?_;refine AW_then fun K3 hK3=>?_;refine rgc fw hed [1,5,6,47,48,49] [25,45] ?_;refine AW_for (S:=Nat) (fun j=>j≤E.length) (fun j=>⟨lst [(1,.d (.ip [.sl none NN,.sl none RR])),(5,.ref 25 0 0),(6,.own 45 0 p.names.length),(47,.d (.sl none (E.map fun x=>[.v (.int .i64 x)]))),(48,int E.length),(49,int j)],hlst [(25,.box 59 [.d (.sl none NN),.d (.sl none RR),int 1,int ((2 ^ m:Nat):Int),.d (.sl (some false) []),.d (.sl (some false) []),.d (.sl none IN)]),(45,.sl 4 1 ((SB j).map fun b=>[.v (.bool b)]))]⟩) (fun j=>E.length - j) 0 ?_ (by omega) ?_
 ·rw [hs0];refine Imp.to' (fun _ _=>trivial) (by simp [dNum,List.map_replicate,hNl,hEl]) (by simp [dNum,List.map_replicate,hNl,hEl])
 ·intro j hj
  have hsj:=hsL j
  have hwj:=hwS j
  generalize hSj:SB j=B at hsj hwj ⊢;refine rgq fw [1,5,6,47,48,49,50] [25,45] ?_;refine AW_then fun K4 hK4=>?_;refine AW_cond' (b:=j < E.length) (by simp [D.le,D.le.go,takeMap,dNum]) (fun hc=>?_) (fun hc=>?_)
  ·refine AW_skip (hK4 _ ?_);refine AW_then fun K5 hK5=>?_;refine AW_block ?_
   obtain ⟨i,hi,hEi⟩:=hwA j hc
   have hwj2:=hwj hc
   rw [hEi,Int.toNat_natCast] at hwj2
   have hi2:i < B.length:=by omega
   have qf:=(Aq fw (Aq @hc @hEi))
   refine rgqv [1,5,6,8,47,48,49] [25,45] ?_
   have qf:=(Aq fw (Aq @hi2 @hi))
   refine reKv hK5 [1,5,6,47,48,49] [25,45] ?_;refine AW_re (tyOf_good _) fun K' hK'=>?_;(repeat (refine sxn fun K2 hK2=>?_;simp [dNum];(repeat (refine ⟨by omega,?_⟩));refine hK2 _ ?_;clear hK2 K2));refine sxz (hK' _ ?_);clear hK' K';(try simp only [thn,inb]);refine Again.mk (j+1) (by omega) (by omega) ?_;rw [hwj2];refine Imp.to' (fun _ _=>trivial) (by simp [dNum,List.map_set]) (by simp [dNum,List.map_set])
  ·obtain rfl:j=E.length:=by omega
   rw [hsE] at hSj;subst hSj;refine AW_exit (hK3 _ ?_);refine AW_then fun K6 hK6=>?_;refine rgq fw [1,5,6,58,59,60] [25,45] ?_;refine AW_for (S:=Nat) (fun k=>k≤p.names.length) (fun k=>⟨lst [(1,.d (.ip [.sl none NN,.sl none RR])),(5,.ref 25 0 0),(6,.own 45 0 p.names.length),(58,.d (.sl none NN)),(59,int NN.length),(60,int k)],hlst [(25,.box 59 [.d (.sl none NN),.d (.sl none RR),int 1,int ((2 ^ m:Nat):Int),.d (.sl (some false) []),.own 801 0 (partsN p k).length,.d (.sl none IN)]),(45,.sl 4 1 ((p.names.map (edB p)).map fun b=>[.v (.bool b)])),(801,.sl 187 3 ((partsN p k).map cPa))]⟩) (fun k=>p.names.length - k) 0 ?_ (by omega) ?_
   ·refine (Imp.adoptCell 25 5 801 187 3 rfl rfl rfl).trans ?_;refine Imp.to' (fun _ _=>trivial) (by simp [dNum,partsN]) (by simp [dNum,partsN])
   ·intro k hkk
    have hPs2:=hPs k
    have hPl2:=hPl k
    have hPm:((partsN p k).map cPa).length=(partsN p k).length:=by simp
    generalize hPk:partsN p k=PK at hPs2 hPl2 hPm ⊢;refine rgq fw [1,5,6,58,59,60,61] [25,45,801] ?_;refine AW_then fun K7 hK7=>?_
    by_cases hlt:k < p.names.length
    ·have hlt2:k < NN.length:=by omega
     have hlt3:(k:Int) < (NN.length:Int):=by omega
     refine AW_cond true (by simp<;>omega) (fun _=>?_) (fun h=>by cases h);refine AW_skip (hK7 _ ?_);refine AW_then fun K8 hK8=>?_;refine AW_block ?_
     have hPs3:=hPs2 hlt
     have hcn:=hcnt _ (List.getElem_mem hlt)
     have hNk:NN[k]=[.v (.string (bs p.names[k].name)),.v (.int .i64 p.names[k].kind),.v (.int .i64 p.names[k].count)]:=by
      have:=hNg k hlt
      rw [List.getElem?_eq_getElem hlt2] at this;exact Option.some.inj this
     unfold partOf at hPs3;generalize hnk:p.names[k]=nk at hPs3 hNk hcn
     obtain ⟨nm,kd,ct⟩:=nk
     dsimp only at hPs3 hNk hcn
     have hebv:edB p p.names[k]=edB p ⟨nm,kd,ct⟩:=by rw [hnk]
     generalize hev:edB p ⟨nm,kd,ct⟩=ev at *
     have qf:=(Aq fw (Aq @hlt2 @hNk))
     refine rgqv [1,5,6,9,10,58,59,60] [25,45,801,10] ?_;refine AW.imp (Imp.freezeB 10 trivial) ?_;refine AW.st (by simp [dNum];rfl) ?_;refine AW_block ?_
     by_cases k2:kd=2
     ·subst k2;rw [if_pos (.inl rfl)] at hPs3;refine rgq fw [1,5,6,9,10,58,59,60,65] [25,45,801] ?_;refine AW_tt rfl ?_;refine AW_re (tyOf_good _) fun K' hK'=>?_;(repeat (refine sxn fun K2 hK2=>?_;simp [dNum,List.take_of_length_le];(repeat (refine ⟨by omega,?_⟩));refine hK2 _ ?_;clear hK2 K2));refine sxz (hK' _ ?_);clear hK' K';refine hK8 _ (AW.norm [1,5,6,58,59,60] [25,45,801] (fun _ _=>trivial) (AW.st (by simp [dNum,List.take_of_length_le];rfl) ?_));refine AW_re (tyOf_good _) fun K' hK'=>?_;(repeat (refine sxn fun K2 hK2=>?_;simp [dNum];(repeat (refine ⟨by omega,?_⟩));refine hK2 _ ?_;clear hK2 K2));refine sxz (hK' _ ?_);clear hK' K';(try simp only [thn,inb]);refine Again.mk (k+1) (by omega) (by omega) ?_;rw [hPs3];refine Imp.to' (fun _ _=>trivial) (by simp [dNum,cPa]) (by simp [dNum,cPa])
     ·by_cases k1:kd=1
      ·subst k1
       cases ev with
       | true=>
        rw [if_pos (.inr ⟨rfl,rfl⟩)] at hPs3
        have qf:=(Aq fw (Aq @hlt @hebv))
        refine rgqv [1,5,6,9,10,58,59,60,65] [25,45,801] ?_;refine AW_tt rfl ?_;refine AW_re (tyOf_good _) fun K' hK'=>?_;(repeat (refine sxn fun K2 hK2=>?_;simp [dNum,List.take_of_length_le];(repeat (refine ⟨by omega,?_⟩));refine hK2 _ ?_;clear hK2 K2));refine sxz (hK' _ ?_);clear hK' K';refine hK8 _ (AW.norm [1,5,6,58,59,60] [25,45,801] (fun _ _=>trivial) (AW.st (by simp [dNum,List.take_of_length_le];rfl) ?_));refine AW_re (tyOf_good _) fun K' hK'=>?_;(repeat (refine sxn fun K2 hK2=>?_;simp [dNum];(repeat (refine ⟨by omega,?_⟩));refine hK2 _ ?_;clear hK2 K2));refine sxz (hK' _ ?_);clear hK' K';(try simp only [thn,inb]);refine Again.mk (k+1) (by omega) (by omega) ?_;rw [hPs3];refine Imp.to' (fun _ _=>trivial) (by simp [dNum,cPa]) (by simp [dNum,cPa])
       | false=>
        rw [if_neg (by simp),if_neg (by simp),List.append_nil] at hPs3
        have qf:=(Aq fw (Aq @hlt @hebv))
        refine rgqv [1,5,6,9,10,58,59,60,65] [25,45,801] ?_;refine AW_ff rfl ?_;refine rgq fw [1,5,6,9,10,58,59,60,91] [25,45,801] ?_;refine AW_ff rfl ?_;refine AW_skip ?_;refine hK8 _ (AW.norm [1,5,6,58,59,60] [25,45,801] (fun _ _=>trivial) (AW.st (by simp [dNum];rfl) ?_));refine AW_re (tyOf_good _) fun K' hK'=>?_;(repeat (refine sxn fun K2 hK2=>?_;simp [dNum];(repeat (refine ⟨by omega,?_⟩));refine hK2 _ ?_;clear hK2 K2));refine sxz (hK' _ ?_);clear hK' K';(try simp only [thn,inb]);refine Again.mk (k+1) (by omega) (by omega) ?_;rw [hPs3];refine Imp.to' (fun _ _=>trivial) (by simp [dNum]) (by simp [dNum])
      ·rw [if_neg (by simp [k1,k2]),if_pos k1] at hPs3
       have qf:=(Aq fw (Aq @k1 @k2))
       refine rgqv [1,5,6,9,10,58,59,60,65] [25,45,801] ?_;refine AW_cond false (by simp [k1,k2]) (fun h=>by cases h) (fun _=>?_)
       have qf:=(Aq fw @k1)
       refine rgqv [1,5,6,9,10,58,59,60,91] [25,45,801] ?_;refine AW_cond true (by simp [k1]) (fun _=>?_) (fun h=>by cases h);refine AW_rle (tyOf_good _) (by kernel_rfl) ([(11,(801,105))]) ([(0,[801])]) ([0,1,2,3,4,5,6,7,8,9,10,11,12,13,14]) (by kernel_rfl) fun K' hK'=>?_;(repeat (refine sxl_nextO rfl fun K2 hK2=>?_;simp [dNum,List.take_of_length_le];(repeat (refine ⟨by omega,?_⟩));refine hK2 _ ?_;clear hK2 K2));refine sxl_nilO (hK' _ ?_);clear hK' K';refine hK8 _ (AW.norm [1,5,6,58,59,60] [25,45,801] (fun _ _=>trivial) (AW.st (by simp [dNum,List.take_of_length_le];rfl) ?_));refine AW_re (tyOf_good _) fun K' hK'=>?_;(repeat (refine sxn fun K2 hK2=>?_;simp [dNum];(repeat (refine ⟨by omega,?_⟩));refine hK2 _ ?_;clear hK2 K2));refine sxz (hK' _ ?_);clear hK' K';(try simp only [thn,inb]);refine Again.mk (k+1) (by omega) (by omega) ?_;rw [hPs3];refine Imp.to' (fun _ _=>trivial) (by simp [dNum,cPa]) (by simp [dNum,cPa])
    ·have hlt3:¬ (k:Int) < (NN.length:Int):=by omega
     obtain rfl:k=p.names.length:=by omega
     rw [hPe] at hPk;subst hPk;refine AW_cond false (by simp<;>omega) (fun h=>by cases h) (fun _=>?_);refine AW_exit (hK6 _ ?_);refine AW.imp (Imp.freeze 801 trivial) ?_;refine AW.st (by simp [dNum,hPm,List.take_of_length_le];rfl) ?_;refine AW_then fun K9 hK9=>?_
     have hPTl:((partsP p).map cPa).length=(partsP p).length:=by simp
     have hPTg:∀ i (h:i < (partsP p).length),((partsP p).map cPa)[i]? = some [.v (.int .i64 (partsP p)[i].nm),.v (.int .i64 (partsP p)[i].most),.v (.bool (partsP p)[i].far)]:=fun i h=>by simp [h,cPa]
     generalize hPTS:partsP p=PTS at *;generalize PTS.map cPa=PT at *;refine rgq fw [1,5,113,114,115] [25] ?_;refine AW_for (S:=Nat) (fun k=>k≤PTS.length) (fun k=>⟨lst [(1,.d (.ip [.sl none NN,.sl none RR])),(5,.ref 25 0 0),(113,.d (.sl none PT)),(114,int PT.length),(115,int k)],hlst [(25,.box 59 [.d (.sl none NN),.d (.sl none RR),int (prodP (PTS.take k)),int ((2 ^ m:Nat):Int),.d (.sl (some false) []),.d (.sl none PT),.d (.sl none IN)])]⟩) (fun k=>PTS.length - k) 0 ?_ (by omega) ?_
     ·refine Imp.to' (fun _ _=>trivial) (by simp [dNum,prodP]) (by simp [dNum,prodP])
     ·intro k hkk
      have hq:=hpt k
      have hqm:=hpm (k+1)
      have hqp:=hp1 k
      have hqm0:=hpm k
      generalize hQ:prodP (PTS.take k)=Q at hq hqp hqm0 ⊢;refine rgq fw [1,5,113,114,115,116] [25] ?_;refine AW_then fun K10 hK10=>?_
      by_cases hlt:k < PTS.length
      ·have hlt2:k < PT.length:=by omega
       have hlt3:(k:Int) < (PT.length:Int):=by omega
       refine AW_cond true (by simp<;>omega) (fun _=>?_) (fun h=>by cases h);refine AW_skip (hK10 _ ?_);refine AW_then fun K11 hK11=>?_;refine AW_block ?_
       have hq1:=hq hlt
       have hx2:=hm2 _ (List.getElem_mem hlt)
       have hPk:PT[k]=[.v (.int .i64 PTS[k].nm),.v (.int .i64 PTS[k].most),.v (.bool PTS[k].far)]:=by
        have:=hPTg k hlt
        rw [List.getElem?_eq_getElem hlt2] at this;exact Option.some.inj this
       generalize PTS[k]=x at hPk hq1 hx2
       obtain ⟨xi,M,fa⟩:=x
       dsimp only at hPk hq1 hx2
       rw [hq1] at hqm
       have hQM0:0 < Q * M:=Int.mul_pos hqp (by omega)
       have hQM1:¬ Q * M > 4096:=by omega
       have qf:=(Aq fw (Aq @hlt2 @hPk))
       refine rgqv [1,5,12,113,114,115] [25,12] ?_;refine AW.imp (Imp.freezeB 12 trivial) ?_;refine AW.st (by simp [dNum];rfl) ?_;refine AW_rdg (tyOf_good _) (by kernel_rfl) [(3,25),(5,999),(9,25)] [1,5,113,114,115] [25] (fun _ _=>trivial) (by kernel_rfl) fun K' hK'=>?_;(repeat (refine sxg_next fun K2 hK2=>?_;simp [dNum,hQM0];(repeat (refine ⟨by omega,?_⟩));refine hK2 _ ?_;clear hK2 K2));refine sxg_nil (hK' _ ?_);refine AW.st (by simp [dNum,hQM0];rfl) ?_;clear hK' K'
       have qf:=(Aq fw @hQM1)
       refine rgqv [1,5,113,114,115,132] [25] ?_;refine AW_cond false (by simp<;>omega) (fun h=>by cases h) (fun _=>?_);refine AW_skip (hK11 _ ?_);refine AW_re (tyOf_good _) fun K' hK'=>?_;(repeat (refine sxn fun K2 hK2=>?_;simp [dNum];(repeat (refine ⟨by omega,?_⟩));refine hK2 _ ?_;clear hK2 K2));refine sxz (hK' _ ?_);clear hK' K';(try simp only [thn,inb]);refine Again.mk (k+1) (by omega) (by omega) ?_;rw [hq1];refine Imp.to' (fun _ _=>trivial) (by simp [dNum]) (by simp [dNum])
      ·have hlt3:¬ (k:Int) < (PT.length:Int):=by omega
       refine AW_cond false (by simp<;>omega) (fun h=>by cases h) (fun _=>?_);refine AW_exit (hK9 _ ?_);rw [List.take_of_length_le (by omega)] at hQ;refine AW_then fun K12 hK12=>?_
       obtain ⟨S,hS⟩:∃ S:Nat,prodP PTS=(S:Int):=Int.eq_ofNat_of_zero_le (by omega)
       rw [hS] at hnl hP hstm hinm hnum hQ ⊢;rw [Int.toNat_natCast] at hnl;subst hQ;refine rgq fw [1,5,138,139] [25] ?_;refine AW_for (S:=Nat) (fun s=>s≤S) (fun s=>⟨lst [(1,.d (.ip [.sl none NN,.sl none RR])),(5,.ref 25 0 0),(138,int S),(139,int s)],hlst [(25,.box 59 [.d (.sl none NN),.d (.sl none RR),int S,int ((2 ^ m:Nat):Int),.own 800 0 s,.d (.sl none PT),.d (.sl none IN)]),(800,.sl 51 1 (nxD (NXT.take s)))]⟩) (fun s=>S - s) 0 ?_ (by omega) ?_
       ·refine (Imp.adoptCell 25 4 800 51 1 rfl rfl rfl).trans ?_;refine Imp.to' (fun _ _=>trivial) (by simp [dNum,nxD]) (by simp [dNum,nxD])
       ·intro s hss
        have hns:=hnt s
        have hXl:(nxD (NXT.take s)).length=s:=by rw [nxD_len,List.length_take];omega
        have hNXe:s=S→nxD (NXT.take s)=nxD NXT:=fun e=>by rw [List.take_of_length_le (by omega)]
        generalize nxD (NXT.take s)=NX at hns hXl hNXe ⊢;refine rgq fw [1,5,138,139,140] [25,800] ?_;refine AW_then fun K13 hK13=>?_;refine AW_cond' (b:=s < S) (by simp [D.le,D.le.go,takeMap,dNum]) (fun hc=>?_) (fun hc=>?_)
        ·refine AW_skip (hK13 _ ?_);refine AW_then fun K14 hK14=>?_;refine AW_block ?_
         have hns2:=hns (by omega)
         have hstm2:=hstm NX s (by omega)
         have hinm2:=hinm NX
         have hdo2:=hdo s
         have hnum2:=fun i=>hnum NX _ (hdi s i)
         have hrt2:=fun i h=>hrt s i h
         have hrl2:=hrl s
         generalize hst1:stP p s=st1 at hstm2 hdo2 hnum2 hrt2;generalize hRs:ROW s=RS at hns2 hrt2 hrl2;refine rgq fw [1,5,13,138,139] [25,800] ?_;refine rgq fw [1,5,13,14,138,139] [25,800] ?_;refine AW_then fun K15 hK15=>?_;refine rgq fw [1,5,13,14,138,139,145,146] [25,800] ?_;refine AW_for (S:=Nat) (fun i=>i≤2 ^ m) (fun i=>⟨lst [(1,.d (.ip [.sl none NN,.sl none RR])),(5,.ref 25 0 0),(13,int s),(14,.own 902 0 i),(138,int S),(139,int s),(145,int ((2 ^ m:Nat):Int)),(146,int i)],hlst [(25,.box 59 [.d (.sl none NN),.d (.sl none RR),int S,int ((2 ^ m:Nat):Int),.own 800 0 s,.d (.sl none PT),.d (.sl none IN)]),(800,.sl 51 1 NX),(902,.sl 3 1 ((RS.take i).map fun x=>[.v (.int .i64 x)]))]⟩) (fun i=>2 ^ m - i) 0 ?_ (by omega) ?_
         ·refine (Imp.adopt 14 902 3 1 rfl rfl).trans ?_;refine Imp.to' (fun _ _=>trivial) (by simp [dNum]) (by simp [dNum])
         ·intro i hii
          have hri:=hrt2 i
          have hRl:((RS.take i).map fun x=>[D.v (.int .i64 x)]).length=i:=by simp;omega
          generalize hRi:RS.take i=RI at hri hRl ⊢;refine rgq fw [1,5,13,14,138,139,145,146,147] [25,800,902] ?_;refine AW_then fun K16 hK16=>?_
          by_cases hil:i < 2 ^ m
          ·have hil3:(i:Int) < ((2 ^ m:Nat):Int):=by exact_mod_cast hil
           refine AW_cond true (by simpa using hil3) (fun _=>?_) (fun h=>by cases h);refine AW_skip (hK16 _ ?_);refine AW_then fun K17 hK17=>?_;refine AW_block ?_
           have hri2:=hri hil
           have hinm3:=hinm2 i
           have hdo3:=hdo2 i
           have hnum3:=hnum2 i
           generalize doP p st1 (inBs i m)=d1 at hdo3 hnum3 hri2;generalize inBs i m=ib at hinm3 hdo3;generalize nrP PTS d1=v1 at hnum3 hri2
           obtain ⟨I1,C1⟩:=st1
           obtain ⟨I2,C2⟩:=d1
           dsimp only at hstm2 hdo3 hnum3
           rw [hXl] at hstm2 hinm3 hnum3;refine rgq fw [1,5,13,14,15,138,139,145,146] [25,800,902] ?_;refine AW_rne (tyOf_good _) (by kernel_rfl) ([12]) ([]) ([5,8,10]) ([(2,.d (.ip [.sl none NN,.sl none RR]))]) (List.range 14) (by kernel_rfl) fun K' hK'=>?_;(repeat (refine sxap_nextO rfl fun K2 hK2=>?_;simp [dNum,hRl,List.take_of_length_le];(repeat (refine ⟨by omega,?_⟩));refine hK2 _ ?_;clear hK2 K2));refine sxap_nextO rfl fun K2 hK2=>?_;simp [dNum,hRl,List.take_of_length_le];refine hcK.mc (hstm2) (by simp [dNum,hRl,List.take_of_length_le]) (by simp [dNum,hRl,List.take_of_length_le]) (by simp [dNum,hRl,List.take_of_length_le]) (by simp [dNum,hRl,List.take_of_length_le]) (by simp [dNum,hRl,List.take_of_length_le]) (by simp [dNum,hRl,List.take_of_length_le]) (by simp [LdSame,dNum,hRl,List.take_of_length_le]) ?_;simp [dNum,hRl,List.take_of_length_le];refine hK2 _ ?_;clear hK2 K2;(repeat (refine sxap_nextO rfl fun K2 hK2=>?_;simp [dNum,hRl,List.take_of_length_le];(repeat (refine ⟨by omega,?_⟩));refine hK2 _ ?_;clear hK2 K2));refine sxap_nextO rfl fun K2 hK2=>?_;simp [dNum,hRl,List.take_of_length_le];refine hcK.mc (hinm3) (by simp [dNum,hRl,List.take_of_length_le]) (by simp [dNum,hRl,List.take_of_length_le]) (by simp [dNum,hRl,List.take_of_length_le]) (by simp [dNum,hRl,List.take_of_length_le]) (by simp [dNum,hRl,List.take_of_length_le]) (by simp [dNum,hRl,List.take_of_length_le]) (by simp [LdSame,dNum,hRl,List.take_of_length_le]) ?_;simp [dNum,hRl,List.take_of_length_le];refine hK2 _ ?_;clear hK2 K2;(repeat (refine sxap_nextO rfl fun K2 hK2=>?_;simp [dNum,hRl,List.take_of_length_le];(repeat (refine ⟨by omega,?_⟩));refine hK2 _ ?_;clear hK2 K2));refine sxap_nextO rfl fun K2 hK2=>?_;simp [dNum,hRl,List.take_of_length_le];refine callD.mk (hdo3) (by simp;rfl) (by simp;rfl) (by first | exact D.leGo_refl _ | simp [takeMap,List.map_map,Function.comp_def,D.le,D.le.go,D.le_refl,D.leGo_refl,dNum,hRl,List.take_of_length_le]) (by simp) ?_;refine hK2 _ ?_;clear hK2 K2;simp only [putd,upd_lst];(repeat (refine sxap_nextO rfl fun K2 hK2=>?_;simp [dNum,hRl,List.take_of_length_le];(repeat (refine ⟨by omega,?_⟩));refine hK2 _ ?_;clear hK2 K2));refine sxap_nextO rfl fun K2 hK2=>?_;simp [dNum,hRl,List.take_of_length_le];refine hcK.mc (hnum3) (by simp [dNum,hRl,List.take_of_length_le]) (by simp [dNum,hRl,List.take_of_length_le]) (by simp [dNum,hRl,List.take_of_length_le]) (by simp [dNum,hRl,List.take_of_length_le]) (by simp [dNum,hRl,List.take_of_length_le]) (by simp [dNum,hRl,List.take_of_length_le]) (by simp [LdSame,dNum,hRl,List.take_of_length_le]) ?_;simp [dNum,hRl,List.take_of_length_le];refine hK2 _ ?_;clear hK2 K2;(repeat (refine sxap_nextO rfl fun K2 hK2=>?_;simp [dNum,hRl,List.take_of_length_le];(repeat (refine ⟨by omega,?_⟩));refine hK2 _ ?_;clear hK2 K2));refine sxap_nilO (hK' _ ?_);clear hK' K'
           refine hK17 _ (AW.norm [1,5,13,14,138,139,145,146] [25,800,902] (fun _ _=>trivial) (AW.st (by simp [dNum,hRl,List.take_of_length_le];rfl) ?_));refine AW_re (tyOf_good _) fun K' hK'=>?_;(repeat (refine sxn fun K2 hK2=>?_;simp [dNum];(repeat (refine ⟨by omega,?_⟩));refine hK2 _ ?_;clear hK2 K2));refine sxz (hK' _ ?_);clear hK' K';(try simp only [thn,inb]);refine Again.mk (i+1) (by omega) (by omega) ?_;rw [hri2];refine Imp.to' (fun _ _=>trivial) (by simp [dNum]) (by simp [dNum])
          ·obtain rfl:i=2 ^ m:=by omega
           have hRe:RI=RS:=by rw [← hRi];exact List.take_of_length_le (by omega)
           subst hRe;refine AW_cond false (by simp) (fun h=>by cases h) (fun _=>?_);refine AW_exit (hK15 _ ?_);refine AW.imp (Imp.freeze 902 trivial) ?_;refine AW.st (by simp [dNum,hRl,List.take_of_length_le];rfl) ?_;refine AW_re (tyOf_good _) fun K' hK'=>?_;(repeat (refine sxn fun K2 hK2=>?_;simp [dNum,hXl,List.take_of_length_le];(repeat (refine ⟨by omega,?_⟩));refine hK2 _ ?_;clear hK2 K2));refine sxz (hK' _ ?_);clear hK' K';refine hK14 _ (AW.norm [1,5,138,139] [25,800] (fun _ _=>trivial) (AW.st (by simp [dNum,hXl,List.take_of_length_le];rfl) ?_));refine AW_re (tyOf_good _) fun K' hK'=>?_;(repeat (refine sxn fun K2 hK2=>?_;simp [dNum];(repeat (refine ⟨by omega,?_⟩));refine hK2 _ ?_;clear hK2 K2));refine sxz (hK' _ ?_);clear hK' K';(try simp only [thn,inb]);refine Again.mk (s+1) (by omega) (by omega) ?_;rw [hns2];refine Imp.to' (fun _ _=>trivial) (by simp [dNum]) (by simp [dNum])
        ·obtain rfl:s=S:=by omega
         obtain rfl:=hNXe rfl
         refine AW_exit (hK12 _ ?_);refine AW.imp (Imp.freeze 800 trivial) ?_;refine AW.st (by simp [dNum,hXl,List.take_of_length_le];rfl) ?_;refine rgq fw [2,3] [25] ?_;refine AW_ret ?_;simp [D.le,D.le.go,takeMap,dNum,D.le_refl,D.leGo_refl,hS]
end Go.Proofs.YtpboiimemmfkiaaGreatDoor
