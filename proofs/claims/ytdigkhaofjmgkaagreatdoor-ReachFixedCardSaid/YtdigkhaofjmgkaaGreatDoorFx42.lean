/- Parts. -/
import Derived.Test.YtdigkhaofjmgkaaGreatDoorFx26
import Derived.Test.YtdigkhaofjmgkaaGreatDoorFx33
import Derived.Test.YtdigkhaofjmgkaaGreatDoorFx41
import Derived.Ground.Names8Prog
import Derived.Shelf.Spec.SlicesGrow
set_option linter.unusedSectionVars false
set_option linter.unusedSimpArgs false
set_option linter.unusedVariables false
set_option maxHeartbeats 64000000
set_option maxRecDepth 100000
open Go.Proofs.Tryz
namespace Go.Proofs
open Go.Shelf
def Tryz.Qc:Go.Shelf.Ren:=⟨fun | 4=>178 | n=>n,fun | 22=>46 | 25=>3 | 3=>3 | 4=>4 | 9=>9 | 20=>20 | 0=>0 | n=>n,fun | n=>n⟩
theorem Tryz.Qb:Go.Proofs.Lays8.n4 prog Tryz.Qc:={
 mixed:=by kernel_rfl
 f4:=⟨Tryz.f178.name,by decide,func178.trans (congrArg some (by kernel_rfl))⟩
 t0:=underlying0
 a0:=isAgg0
 z0:=sizeOf0
 v0:=zeroValue0
 t3:=underlying3
 a3:=isAgg3
 z3:=sizeOf3
 v3:=zeroValue3
 t4:=underlying4
 a4:=isAgg4
 z4:=sizeOf4
 v4:=zeroValue4
 t9:=underlying9
 a9:=isAgg9
 z9:=sizeOf9
 v9:=zeroValue9
 t20:=underlying20
 a20:=isAgg20
 z20:=sizeOf20
 v20:=zeroValue20
 t22:=underlying46
 a22:=isAgg46
 z22:=sizeOf46
 v22:=zeroValue46 }
end Go.Proofs
namespace Go.Proofs.YtdigkhaofjmgkaaGreatDoor
open Go.Av Go.Shelf Go.RowKit
theorem YN (n G:Nat) (h:n<=G):(([]:List Value).toArray ++ Builtin.zeroCells (Value.int .i64 0).cells (0+n - 0) ++ Builtin.zeroCells (Value.int .i64 0).cells (G - (0+n))).size=G:=by
 simp[size_zeroCells,Value.cells];omega
theorem Qd (G:aq) (n:Nat) (hn:n<=2^40):MC prog G [] 178 [.d (.sl (some false) []),.d (ab n)] (ak []) (.own 900 0 0) (ak [(900,.sl 3 1 [])]):=by
 refine⟨fe.of func178 rfl rfl,fun X w μ vs hs hgl aK hv=>?_⟩
 obtain⟨a,b,rfl⟩:∃ a b,vs = #[a,b]:=by
  match vs,aK with
  | ⟨[a,b]⟩,_=>exact⟨a,b,rfl⟩
 obtain rfl:a = .slice none 0 0:=by
  rcases (hv 0 a _ rfl rfl).data.na with⟨rfl,_⟩ | ⟨_,_,_,hk,_⟩
  .rfl
  .exact absurd rfl hk
 obtain rfl:b = .int .i64 n:=(hv 1 b _ rfl rfl).scalar;have hL:=Tryz.Qb;have aF:In w X G μ ⟨0,[],none⟩ { tmps:=#[],defers:=[] } ⟨fun _=>none,ak []⟩:=⟨hs,⟨rfl,rfl,fun i x h=>by cases h⟩,hgl⟩
 have hH:∀ row,aM (ak []) 900 row=ak [(900,row)]:=fun row=>by
  funext q;by_cases h:q=900
  .subst h;rfl
  .have hq:(q == 900)=false:=by simpa using h
   simp only[aM,if_neg h,ak,List.lookup,hq]
 by_cases h0:n=0
 .subst h0;refine (Any8.slices_Grow_room hL none 0 0 0 w (by omega) (by omega) (by omega) (by omega)).mono fun e w' ⟨he,hw⟩=>?_;subst hw;obtain⟨h1,ev⟩:=aF.alloc (Mv:=gg []) (w':=w') (m:=⟨none,1,0⟩) (d:=900) rfl (bZ.refl _) (by simp) (row:=.sl 3 1 []) fun _=>.nil rfl rfl;have h2:=h1.aX;dsimp only at h2;rw[hH]at h2;exact⟨_,_,_,_,he,⟨rfl,rfl⟩,.own (m:=⟨none,1,0⟩) (by simp[mup]) (.inl ⟨rfl,rfl,rfl,rfl⟩),h2,ev⟩
 .obtain⟨i0,hi,hz0,uO,Ef⟩:=info_parts (P:=prog) (e:=3) (z:=.int .i64 0) (size:=1) (bytes:=8) (by kernel_rfl);refine (Any8.slices_Grow_grow hL i0 (.int .i64 0) hi hz0 (by omega) none 0 0 n [] w (by omega) (by omega) (by rw[Ef];omega) (by omega) (by simp) (fun _=>rfl) (fun a e=>by cases e)).mono fun e w' ⟨he,hw⟩=>?_
  have qI:n<=grownCap w (0+n) 0 3:=by have:=grownCap_ge w (0+n) 0 3;omega
  have hle:grownCap w (0+n) 0 3<=maxLen:=grownCap_le_maxLen w (0+n) 0 3 (by unfold maxLen;omega);have he:e = .returned (.slice (some ⟨w.heap.size,0,none⟩) 0 (grownCap w (0+n) 0 3)):=he;have hw:w'=w.drew.alloc (.cells (([]:List Value).toArray ++ Builtin.zeroCells (Value.int .i64 0).cells (0+n - 0) ++ Builtin.zeroCells (Value.int .i64 0).cells (grownCap w (0+n) 0 3 - (0+n))) 3):=hw;have aK:=YN n (grownCap w (0+n) 0 3) qI;generalize grownCap w (0+n) 0 3=C at he hw qI hle aK;generalize (([]:List Value).toArray ++ Builtin.zeroCells (Value.int .i64 0).cells (0+n - 0) ++ Builtin.zeroCells (Value.int .i64 0).cells (C - (0+n)))=Z at hw aK;subst hw;have g1:=bZ.drew w;have g2:=bZ.alloc w.drew (.cells Z 3);have hg:bZ w (w.drew.alloc (.cells Z 3)):=⟨aew g1.size g2.size,g2.os.trans g1.os,g2.tape.trans g1.tape,g2.output.trans g1.output,fun b hb=>(g2.same b (acP hb g1.size)).trans (g1.same b hb)⟩;have jw:(w.drew.alloc (.cells Z 3)).heap[w.heap.size]? = some (.cells Z 3 (0,0)):=heap_alloc_new w.drew _
  obtain⟨h1,ev⟩:=aF.alloc (Mv:=gg []) (w':=w.drew.alloc (.cells Z 3)) (m:=⟨some w.heap.size,1,C⟩) (d:=900) rfl hg (by rintro b h;injection h with h;omega) (row:=.sl 3 1 []) fun _=>
   .sl (b:=w.heap.size) rfl rfl jw (by simpa using aK) (by simp) hle (by simp) (by omega) (by simp)
  have h2:=h1.aX;dsimp only at h2;rw[hH]at h2;exact⟨_,_,_,_,he,⟨rfl,rfl⟩,.own (m:=⟨some w.heap.size,1,C⟩) (by simp[mup]) (.inr ⟨_,rfl,by simp,by simp⟩),h2,ev⟩
def cA (l:List Nat):List (List D):=l.map fun (n:Nat)=>[ab (n:Int)]
theorem tP (a b:List Nat):cA (a ++ b)=cA a ++ cA b:=by unfold cA;rw[ac5]
def ct3 {α:Type} (a b c:α):Nat->α
 | 0=>a
 | 1=>b
 | _=>c
theorem OQ (G:aq) (a b:List Nat) (ha:a.length<=2^30) (hb:b.length<=2^30):ar prog G 123 [.sl none [[.sl none (cA a)],[.sl none (cA b)]]] (.sl none (cA (a ++ b))):=by
 rw[tP];have Qn:(∀ el∈cA a,el.length=1)=True:=eq_true (by simp[cA]);have HY:(∀ el∈cA b,el.length=1)=True:=eq_true (by simp[cA]);have zm:(∀ el∈cA a,∀ c∈el,c.one=true)=True:=eq_true (by simp[cA,ab,D.one]);have HZ:(∀ el∈cA b,∀ c∈el,c.one=true)=True:=eq_true (by simp[cA,ab,D.one])
 have HW:(cA a).length<=2^30:=by simpa[cA]using ha
 have lg:(cA b).length<=2^30:=by simpa[cA]using hb
 generalize cA a=A at *;generalize cA b=B at *;have hgr:=Qd G (A.length+B.length) (by omega);simp only[ab]at hgr;refine ar.abS (al _) func123 rfl rfl (rs:=[.tmp 2]) results123 (by simp[ntmps123]) fun X=>?_;simp only[ntmps123,List.map];have fw:=@afg;refine rgq fw [0] [] ?_;refine rgq fw [0,3] [] ?_;refine af fun K1 ax=>?_;refine rgq fw [0,3,9,10,11] [] ?_;refine bQ (S:=Nat) (fun n=>n<=2) (fun n=>⟨aV [(0,.d (.sl none [[.sl none A],[.sl none B]])),(3,int (ct3 0 (A.length:Int) ((A.length:Int)+B.length) n)),(9,.d (.sl none [[.sl none A],[.sl none B]])),(10,int 2),(11,int n)],ak []⟩) (fun n=>2 - n) 0 ?_ (by omega) ?_
 .refine aB.to' (fun _ _=>trivial) (by simp[ab,ct3]) (by simp[ab,ct3])
 .intro n hn
  rcases (by omega:n=0\/n=1\/n=2)with rfl | rfl | rfl
  .simp only[ct3];refine rgq fw [0,3,9,10,11,12] [] ?_;refine af fun K2 aa=>?_;refine abP rfl ?_;refine abO (aa _ ?_);refine af fun K3 aQ=>?_;refine aR ?_;refine rgq fw [0,3,5,9,10,11] [] ?_;refine rgq fw [0,3,9,10,11] [] ?_;refine rgq fw [0,3,9,10,11,20] [] ?_;refine abN rfl ?_;refine abO (aQ _ ?_);refine reQ fw ?_;(try simp only[aJ,aL]);refine aS.mk 1 (by omega) (by omega) ?_;refine aB.to' (fun _ _=>trivial) (by simp[ab,ct3]) (by simp[ab,ct3])
  .simp only[ct3];refine rgq fw [0,3,9,10,11,12] [] ?_;refine af fun K2 aa=>?_;refine abP rfl ?_;refine abO (aa _ ?_);refine af fun K3 aQ=>?_;refine aR ?_;refine rgq fw [0,3,5,9,10,11] [] ?_;refine rgq fw [0,3,9,10,11] [] ?_;refine rgq fw [0,3,9,10,11,20] [] ?_;refine abN rfl ?_;refine abO (aQ _ ?_);refine reQ fw ?_;(try simp only[aJ,aL]);refine aS.mk 2 (by omega) (by omega) ?_;refine aB.to' (fun _ _=>trivial) (by simp[ab,ct3]) (by simp[ab,ct3])
  .simp only[ct3];refine rgq fw [0,3,9,10,11,12] [] ?_;refine af fun K2 aa=>?_;refine abN rfl ?_;refine bx (ax _ ?_);refine bf fw hgr [0,6] [900] ?_;refine af fun K4 bK=>?_;refine rgq fw [6,25,26,27] [900] ?_;refine bQ (S:=Nat) (fun n=>n<=2) (fun n=>⟨aV [(6,.own 900 0 (ct3 0 A.length (A.length+B.length) n)),(25,.d (.sl none [[.sl none A],[.sl none B]])),(26,int 2),(27,int n)],ak [(900,.sl 3 1 (ct3 [] A (A ++ B) n))]⟩) (fun n=>2 - n) 0 ?_ (by omega) ?_
   .refine aB.to' (fun _ _=>trivial) (by simp[ab,ct3]) (by simp[ab,ct3])
   .intro n hn
    rcases (by omega:n=0\/n=1\/n=2)with rfl | rfl | rfl
    .simp only[ct3];refine rgq fw [6,25,26,27,28] [900] ?_;refine af fun K5 bB=>?_;refine abP rfl ?_;refine abO (bB _ ?_);refine af fun K6 cq=>?_;refine aR ?_;refine rgq fw [6,8,25,26,27] [900] ?_;have qf:=(Aq fw (Aq @Qn @zm));refine dN cq [6,25,26,27] [900] ?_;refine reQ fw ?_;(try simp only[aJ,aL]);refine aS.mk 1 (by omega) (by omega) ?_;refine aB.to' (fun _ _=>trivial) (by simp[ab,ct3]) (by simp[ab,ct3])
    .simp only[ct3];refine rgq fw [6,25,26,27,28] [900] ?_;refine af fun K5 bB=>?_;refine abP rfl ?_;refine abO (bB _ ?_);refine af fun K6 cq=>?_;refine aR ?_;refine rgq fw [6,8,25,26,27] [900] ?_;refine cR (al _) fun K' ae=>?_;(repeat (refine sxn fun K2 aa=>?_;simp[ab,HY,HZ,sh];(repeat (refine⟨by omega,?_⟩));refine aa _ ?_;clear aa K2));refine sxz (ae _ ?_);clear ae K';refine cq _ (AW.norm [6,25,26,27] [900] (fun _ _=>trivial) (AW.st (by simp[ab,HY,HZ,sh];rfl) ?_));refine reQ fw ?_;(try simp only[aJ,aL]);refine aS.mk 2 (by omega) (by omega) ?_;refine aB.to' (fun _ _=>trivial) (by simp[ab,ct3]) (by simp[ab,ct3])
    .simp only[ct3];refine rgq fw [6,25,26,27,28] [900] ?_;refine af fun K5 bB=>?_;refine abN rfl ?_;refine bx (bK _ ?_);refine AW.imp (aB.freeze 900 trivial) ?_;refine AW.st (by simp[ab];rfl) ?_;refine rgq fw [2] [] ?_;exact aN fw
end Go.Proofs.YtdigkhaofjmgkaaGreatDoor
namespace Go.Proofs.YtdigkhaofjmgkaaGreatDoor
open Go.Av
theorem M0 {P:Program} {Mv X:Nat->Prop} {G:aq} {n s:Nat} {x y:Code} {Q:Exit->St->Prop} {σ:St} (h:∀ K:St->Prop,(∀ aw,dO P Mv X G n s y Q aw->K aw)->∀ X' ds,AW P Mv X' G ⟨n,ds,none⟩ x (aJ K Q) σ):dO P Mv X G n s (.seq x y) Q σ:=
 yx (yw (h _ fun _ h=>h))
theorem M1 {P:Program} {Mv X:Nat->Prop} {G:aq} {n s:Nat} {x y:Code} {Q:Exit->St->Prop} {σ:St} (h:∀ K:St->Prop,(∀ aw,dO P Mv X G n s y Q aw->K aw)->dO P Mv X G n s x (aJ K Q) σ):dO P Mv X G n s (.seq x y) Q σ:=
 yx (h _ fun _ h=>h)
theorem Yg {P:Program} {Mv X:Nat->Prop} {G:aq} {N:Fr} {x y:Code} {Q:Exit->St->Prop} {σ:St} (h:∀ K:St->Prop,(∀ aw,AW P Mv X G N y Q aw->K aw)->AW P Mv X G N x (aJ K (fun _ _=>False)) σ):AW P Mv X G N x (aJ (AW P Mv X G N y Q) (fun _ _=>False)) σ:=
 h _ fun _ h=>h
section
variable {P:Program} {X:Nat->Prop} {G:aq} {n s:Nat} {σ τ fA:St} {p:Prop}
theorem dO.norm (l ns:List Nat) {c:Code} {Q:Exit->St->Prop} (h:dO P (fun _=>True) X G n s c Q (σ.norm l ns)):dO P (fun _=>True) X G n s c Q σ:=dO.imp (fun X' ds=>aB.norm l ns fun _ _=>trivial) h
theorem dO.st {c:Code} {Q:Exit->St->Prop} (h:σ=τ) (h':dO P (fun _=>True) X G n s c Q τ):dO P (fun _=>True) X G n s c Q σ:=h ▸ h'
theorem Bg (q:p) (l ns:List Nat) {id:Nat} {ops:Array Oper} {y:Code} {Q:Exit->St->Prop} (k:dO P (fun _=>True) X G n s y Q fA)
  (h:p->∀ (X':Nat->Prop) (ds:List Deferred) (K':St->Prop),K' τ->sxf P (bW P) (fun _=>True) X' G ⟨n,ds,none⟩ ops K' ops.toList σ:=by
   intro q X' ds K' ae;repeat (refine sxn fun K2 aa=>?_;simp[q];(repeat (refine⟨by omega,?_⟩));refine aa _ ?_;clear aa K2)
   exact sxz ae)
  (hn:p->τ.norm l ns=fA:=by intro q;simp[q];rfl):dO P (fun _=>True) X G n s (.seq (.region id ops false) y) Q σ:=
 yx (yw fun X' ds=>cR (al _) fun K hK=>h q X' ds K (hK _ (dO.norm l ns (hn q ▸ k))))
theorem YC (q:p) {fx:List Nat} {g:FuncId} {xs:List AV} {bN eg:List (Nat×Row)} {yv:AV} (hc:MC P G fx g xs (ak bN) yv (ak eg)) (l ns:List Nat) {id:Nat} {ops:Array Oper} {y:Code} {Q:Exit->St->Prop} (k:dO P (fun _=>True) X G n s y Q fA)
  (h:p->MC P G fx g xs (ak bN) yv (ak eg)->∀ (X':Nat->Prop) (ds:List Deferred) (K':St->Prop),K' τ->sxf P (bW P) (fun _=>True) X' G ⟨n,ds,none⟩ ops K' ops.toList σ:=by
   intro q hc X' ds K' ae;(repeat (refine sxn fun K2 aa=>?_;simp[q];(repeat (refine⟨by omega,?_⟩));refine aa _ ?_;clear aa K2));refine sxn fun K2 aa=>?_;simp[q];refine ab8.mc hc (by simp[q]) (by simp[q]) (by simp[q]) (by simp[q]) ?_;simp[q];refine aa _ ?_;clear aa K2;repeat (refine sxn fun K2 aa=>?_;simp[q];(repeat (refine⟨by omega,?_⟩));refine aa _ ?_;clear aa K2)
   exact sxz ae)
  (hn:p->τ.norm l ns=fA:=by intro q;simp[q];rfl):dO P (fun _=>True) X G n s (.seq (.region id ops false) y) Q σ:=
 yx (yw fun X' ds=>cR (al _) fun K hK=>h q hc X' ds K (hK _ (dO.norm l ns (hn q ▸ k))))
end
def oM:D:=.sl (some false) []
def rm (NN RR NA RA:List (List D)) (pl:Int):Heap:=ak [(2,.box 25 [.d oM,.d oM]),(3,.box 36 [.d (.v .nilIface)]),(4,.box 25 [.own 801 0 NN.length,.own 802 0 RR.length]),(5,.box 46 [.own 803 0 NA.length]),(6,.box 46 [.own 804 0 RA.length]),(7,.box 3 [int pl]),(801,.sl 132 3 NN),(802,.sl 217 3 RR),(803,.sl 3 1 NA),(804,.sl 3 1 RA)]
theorem O5 (c:Option Ex):(dC c).one=true:=by
 cases c with
 | none=>rfl
 | some e=>obtain⟨a,b,h⟩:=adE e;rw[dC,h];rfl
theorem HM (l:List Nat) (i:Nat) (h:i < l.length):(cA l)[i]? = some [ab ((l.getD i 0:Nat):Int)]:=by
 rw[abJ];unfold cA;simp[h]
theorem G6 {p:PgP} {c:Int} {i:Nat} (h:acg p=some (c,some i)):i < p.names.length+p.ao.length:=by
 unfold acg at h;split at h
 .cases h
 .split at h
  .rename_i e k hf;have:=wg hf;simp only[AS,BY]at h;omega
  .split at h
   .rename_i e k hf;have:=wg hf;simp only[AS,BY]at h;omega
   .cases h
theorem LX {k:Int} {nm hd rest:Tx} {c:Int} {off:Nat} (h:jE k nm hd rest = .bad c off):off<=hd.length+1+rest.length:=by
 unfold jE at h;split at h
 .rename_i c' o hp;simp only[nh.bad.injEq]at h
  cases o with
  | none=>simp at h;omega
  | some o=>
   have:=xX hp;simp at h;omega
 .cases h
theorem Un {s:Tx} {c:Int} {off:Nat} (h:e7 s = .bad c off):off<=2 * s.length+1:=by
 have hle:=yU 61 s
 have nb:∀ l,ad4 l≠.bad c off:=fun l=>by
  match l with
  | []=>simp[ad4]
  | [a]=>simp[ad4,eT]
  | [a,b]=>simp only[ad4,eT];split<;>simp
  | [a,b,c]=>simp only[ad4,eT];split<;>(try split)<;>simp
  | a :: b :: c :: d :: l=>simp[ad4,eT]
 unfold e7 at h;split at h
 .have h2:off<=(cutAt 61 s).1.length+1+(cutAt 61 s).2.length:=by
   match hw:fz (cutAt 61 s).1,h with
   | [a],h=>exact LX h
   | [a,b],h=>
    simp only[mh]at h;split at h
    .cases h
    .exact LX h
  omega
 .exact absurd h (nb _)
theorem oH:(⟨#[]⟩:ByteArray)=bs []:=rfl
theorem oI:(⟨#[32]⟩:ByteArray)=bs [32]:=rfl
theorem Us (G:aq) (hM:adP G) (hP:ae1 G) (hG:mo G) {es er:Value} (hE:o0 G es er) (t:Tx):ar prog G 60 [dS t] (.aW [dPg (gG t).2,bd (gG t).1]):=by
 refine ar.Vp (al _) func60 rfl rfl (rs:=[.cell 2 25,.cell 3 36]) results60 (by simp[ntmps60]) fun X s0=>?_;simp only[ntmps60,List.map];have fw:=(Aq @afg @afi);refine Bg fw [0,2,3] [2,3] ?_;refine M0 fun K1 ax X' ds=>?_;by_cases ht:20000 < t.length
 .have nO:(t.length:Int) > 20000:=by omega
  have hp:gG t=(some (4,none),⟨[],[]⟩):=by unfold gG;rw[if_pos ht]
  have qf:=(Aq fw (Aq @bl @nO));refine abQ [0,2,3,19] [2,3] ?_;refine abP (by simp[nO]) ?_;refine rgq fw [2,3] [2,3] ?_;exact aN (Aq fw (Aq @hp (Aq @dPg.eq_1 (Aq @cPg.eq_1 (Aq @afZ (Aq @dP.eq_1 (Aq @afG (Aq @afH @afI))))))))
 have nO:¬ (t.length:Int) > 20000:=by omega
 have Jl:=YZ G t;have qf:=(Aq fw (Aq @bl @nO));refine abQ [0,2,3,19] [2,3] ?_;refine abN (by simp[nO]) ?_;refine abO (ax _ ?_);refine Bg fw [0,2,3,4] [2,3,4] ?_;refine Bg fw [0,2,3,4,5,6] [2,3,4,5,6] ?_;refine Bg fw [0,2,3,4,5,6,7] [2,3,4,5,6,7] ?_;refine M1 fun K5 bB=>?_;refine dO.imp (fun X' ds=>aB.nj 4 0 801 132 3 rfl rfl rfl) ?_;refine dO.st (by simp;rfl) ?_;refine dO.imp (fun X' ds=>aB.nj 4 1 802 217 3 rfl rfl rfl) ?_;refine dO.st (by simp;rfl) ?_;refine dO.imp (fun X' ds=>aB.nj 5 0 803 3 1 rfl rfl rfl) ?_;refine dO.st (by simp;rfl) ?_;refine dO.imp (fun X' ds=>aB.nj 6 0 804 3 1 rfl rfl rfl) ?_;refine dO.st (by simp;rfl) ?_;simp only[afP,x8,dS,ab]at Jl;refine YC (Aq @Ki fw) Jl [2,3,4,5,6,7,23] [2,3,4,5,6,7,511,512,513,801,802,803,804] ?_;refine MY ?_;obtain⟨l,hl⟩:∃ l,l=acx 10 t:=⟨_,rfl⟩;have DG:=yV 10 t;rw[<- hl]at DG
 obtain⟨inv,RZ⟩:∃ f:Nat->Heap,f=fun k=>match eB l k with
  | .inl _=>fD
  | .inr s=>rm (s.names.map cNm) (s.ao.map cf) (cA s.gE) (cA s.gI) (gH l k):=⟨_,rfl⟩
 have hinv:∀ k s,eB l k = .inr s->inv k=rm (s.names.map cNm) (s.ao.map cf) (cA s.gE) (cA s.gI) (gH l k):=fun k s h=>by rw[RZ];dsimp only;rw[h]
 refine MZ (l.map fun s=>.string (bs s)) [511,512,513] [2,3,4,5,6,7] (aV [(2,.ref 2 0 0),(3,.ref 3 0 0),(4,.ref 4 0 0),(5,.ref 5 0 0),(6,.ref 6 0 0),(7,.ref 7 0 0)]) inv (fun k=>∃ s,eB l k = .inr s) ⟨lH,rfl⟩ (gf:=210) (caps:=[.ref 512 0 0,.ref 511 0 0,.ref 513 0 0]) (by simp) (fe.of func210 rfl rfl) (by decide) ?hIt ?he1 ?hH (fun _ _=>trivial) ?hfx ?round ?done
 case hIt=>
  intro w X μ lb hs hgl aK qQ;rw[hl];refine YI G hM t (by omega) w X μ lb ?_ hgl aK ?_
  .simpa[afP,dS,ab]using hs
  .intro i u x hu hx;have h:=qQ i u x hu hx
   match i,hx with
   | 0,hx=>obtain rfl:=AI hx;exact h
   | 1,hx=>obtain rfl:=AI hx;exact h
   | 2,hx=>obtain rfl:=AI hx;exact h
 case he1=>
  intro i x hx;have h:=agJ hx;simp only[abV,List.not_mem_nil,or_false,BY]at h
  rcases h with⟨rfl,rfl⟩ | ⟨rfl,rfl⟩ | ⟨rfl,rfl⟩ | ⟨rfl,rfl⟩ | ⟨rfl,rfl⟩ | ⟨rfl,rfl⟩<;>exact⟨rfl,_,rfl,rfl⟩
 case hH=>
  rw[hinv 0 lH rfl];simp[rm,lH,cA,VM,oM]
  try rfl
 case hfx=>
  intro q h;simp at h ⊢;omega
 case done=>
  rintro⟨s,hs⟩;rw[ac1]at hs ⊢;have dL:=Fh (s:=s) (by omega) (hl ▸ hs);have hok:=agv (t:=t) (by omega) (abL _) (hl ▸ hs);have uI:=La hok (by rw[<- hl];omega);have gX:=JZ G ⟨s.names,s.ao⟩ uI;rw[hinv _ _ hs];refine bB _ (yw fun X' ds=>?_);obtain⟨hnl,hrl,fj,_,_⟩:=hok;rw[<- hl]at fj
  have DV:∀ c i,acg ⟨s.names,s.ao⟩=some (c,some i)->i < (s.gE ++ s.gI).length:=fun c i h=>by have:=G6 h;simp at this ⊢;omega
  unfold rm;refine AW.imp (aB.freeze 801 trivial) ?_;refine AW.st (by simp[ab,dS];rfl) ?_;refine AW.imp (aB.freeze 802 trivial) ?_;refine AW.st (by simp[ab,dS];rfl) ?_;refine AW.imp (aB.freeze 803 trivial) ?_;refine AW.st (by simp[ab,dS];rfl) ?_;refine AW.imp (aB.freeze 804 trivial) ?_;refine AW.st (by simp[ab,dS];rfl) ?_;have bT:=OQ G s.gE s.gI (by omega) (by omega);have jq:=fun i h=>HM (s.gE ++ s.gI) i h;simp only[dPg,cPg,bO,dP]at gX;generalize qD:s.names.map cNm=NN at gX ⊢;generalize pr:s.ao.map cf=RR at gX ⊢;generalize cA s.gE=NA at bT ⊢;generalize cA s.gI=RA at bT ⊢;generalize cA (s.gE ++ s.gI)=CC at bT jq
  cases aP:acg ⟨s.names,s.ao⟩ with
  | none=>
   rw[aP]at gX dL;simp only[bd]at gX;refine aT fw gX [2,3,4,5,6,14] [2,3,4,5,6,7] ?_;refine af fun K7 de=>?_;refine rgq (Aq fw (Aq @afM (Aq @afT @afW))) [2,3,4,5,6,14,15,16] [2,3,4,5,6,7] ?_;refine rgq fw [2,3,4,5,6,14,15,108] [2,3,4,5,6,7] ?_;refine abN rfl ?_;refine abO (de _ ?_);refine af fun K8 dz=>?_;refine rgq fw [2,3,4,14,127] [2,3,4,5,6,7] ?_;refine abN rfl ?_;refine abO (dz _ ?_);refine rgq fw [2,3] [2,3,4,5,6,7] ?_;exact aN (Aq fw (Aq @dL (Aq @dPg.eq_1 (Aq @cPg.eq_1 (Aq @afZ (Aq @dP.eq_1 (Aq @afG (Aq @afH (Aq @afI (Aq @qD @pr))))))))))
  | some ci=>
   obtain⟨c,i⟩:=ci;rw[aP]at gX dL
   cases i with
   | none=>
    simp only[bd]at gX;refine aT fw gX [2,3,4,5,6,14] [2,3,4,5,6,7] ?_;refine af fun K7 de=>?_;refine rgq (Aq fw (Aq @afM (Aq @afT @afW))) [2,3,4,5,6,14,15,16] [2,3,4,5,6,7] ?_;refine rgq fw [2,3,4,5,6,14,15,108] [2,3,4,5,6,7] ?_;refine abN rfl ?_;refine abO (de _ ?_);refine af fun K8 dz=>?_;refine rgq fw [2,3,4,14,127] [2,3,4,5,6,7] ?_;refine abP rfl ?_;refine rgq fw [2,3] [2,3,4,5,6,7] ?_;exact aN (Aq fw (Aq @dL (Aq @dPg.eq_1 (Aq @cPg.eq_1 (Aq @afZ (Aq @dP.eq_1 (Aq @afG (Aq @afH @afI))))))))
   | some i=>
    have hi:=DV c i aP;have II:=jq i hi;dsimp only at dL;obtain⟨c6,ke⟩:=OF.1 II;simp only[bd]at gX;simp only[ab]at ke;clear II;generalize (s.gE ++ s.gI).getD i 0=pl at ke dL;refine aT fw gX [2,3,4,5,6,14] [2,3,4,5,6,7] ?_;refine af fun K7 de=>?_;refine rgq (Aq fw (Aq @afM (Aq @afT @afW))) [2,3,4,5,6,14,15,16] [2,3,4,5,6,7] ?_;refine rgq fw [2,3,4,5,6,14,15,108] [2,3,4,5,6,7] ?_;refine abP rfl ?_;refine M5 (al _) (by kernel_rfl) ([6,15]) (List.range 18) (by kernel_rfl) fun K' ae=>?_;(repeat (refine qa rfl fun K2 aa=>?_;simp[ab,dS,c6,ke];(repeat (refine⟨by omega,?_⟩));refine aa _ ?_;clear aa K2));refine qa rfl fun K2 aa=>?_;simp[ab,dS,c6,ke];refine aeT.mk (bT) (by simp;rfl) (by simp;rfl) (by first | exact D.abY _ | simp[aC,abU,abK,D.le,D.le.go,D.le_refl,D.abY,ab,dS,c6,ke]) (by simp) ?_;refine aa _ ?_;clear aa K2;simp only[aD,cz];(repeat (refine qa rfl fun K2 aa=>?_;simp[ab,dS,c6,ke];(repeat (refine⟨by omega,?_⟩));refine aa _ ?_;clear aa K2));refine tp (ae _ ?_);clear ae K';refine de _ (AW.norm [2,3,4,14] [2,3,4,5,6,7] (fun _ _=>trivial) (AW.st (by simp[ab,dS,c6,ke];rfl) ?_));refine af fun K8 dz=>?_;refine rgq fw [2,3,4,14,127] [2,3,4,5,6,7] ?_;refine abP rfl ?_;refine rgq fw [2,3] [2,3,4,5,6,7] ?_;exact aN (Aq fw (Aq @dL (Aq @dPg.eq_1 (Aq @cPg.eq_1 (Aq @afZ (Aq @dP.eq_1 (Aq @afG (Aq @afH @afI))))))))
 case round=>
  rintro X' L k hk ⟨s,hs⟩
  have eQ:k < l.length:=by simpa using hk
  obtain⟨ln,lr⟩:∃ ln,ln=l[k]:=⟨_,rfl⟩;rw[hinv k s hs,show (l.map fun s=>Value.string (bs s))[k] = .string (bs ln) by simp[lr]]
  have SA:gH l k+ln.length<=t.length:=by rw[lr];subst hl;exact ag0 eQ
  have dt:(gH l (k+1):Int)=(gH l k:Int)+((ln.length:Int)+1):=by rw[Fo eQ,<- lr];omega
  have hok:=agv (t:=t) (by omega) (Nat.le_of_lt (hl ▸ eQ)) (hl ▸ hs);have eH:∀ s',iq s (gH l k) ln = .inr s'->eB l (k+1) = .inr s':=fun s' h=>ahf eQ hs (lr ▸ h);have adT:∀ c i,iq s (gH l k) ln = .inl (c,i)->gG t=(some (c,some i),⟨[],[]⟩):=fun c i h=>Fg (by omega) (hl ▸ ahe eQ hs (lr ▸ h));obtain⟨hnl,hrl,fj,_,_⟩:=hok;have nP:=ZI G ln (by omega);have Jq:=ZL ln;have Si:=fun h=>Uo G hM hP hG hE ln (by omega) h;generalize uE:gH l k=pk at *
  have QL:(s.names.map cNm).length=s.names.length:=by simp
  have QT:(s.ao.map cf).length=s.ao.length:=by simp
  have QM:(cA s.gE).length=s.names.length:=by simp[cA,hnl]
  have r6:(cA s.gI).length=s.ao.length:=by simp[cA,hrl]
  generalize qD:s.names.map cNm=NN at *;generalize pr:s.ao.map cf=RR at *;generalize ue:cA s.gE=NA at *;generalize ug:cA s.gI=RA at *;unfold rm;refine AW.st (by simp;rfl) ?_;refine Yg fun K7 de=>?_;refine reK fw de [2,3,4,5,6,7,8] [2,3,4,5,6,7,801,802,803,804] ?_;refine aR ?_;refine af fun K8 dz=>?_;simp only[dS]at nP;by_cases h0:fz ln=[]
  .have hz:=Jq.2 h0;rw[hz]at nP
   have cU:iq s pk ln = .inr s:=by unfold iq;rw[if_pos h0]
   have hn:=eH _ cU;refine rg [2,3,4,5,6,7,8,27] [2,3,4,5,6,7,801,802,803,804] (cJ rfl) fun K' ae=>?_;(repeat (refine sxn fun K2 aa=>?_;simp[ab,dS,oH,oI,aO,aY];(repeat (refine⟨by omega,?_⟩));refine aa _ ?_;clear aa K2));refine sxn fun K2 aa=>?_;simp[ab,dS,oH,oI,aO,aY];refine ab8.data (nP) (by simp;rfl) (by first | exact D.abY _ | simp[aC,abU,abK,D.le,D.le.go,D.le_refl,D.abY,ab,dS,oH,oI,aO,aY]) ?_;refine aa _ ?_;clear aa K2;simp only[aD,cz];(repeat (refine sxn fun K2 aa=>?_;simp[ab,dS,oH,oI,aO,aY];(repeat (refine⟨by omega,?_⟩));refine aa _ ?_;clear aa K2));refine sxz (ae _ (AW.st (by simp[ab,dS,oH,oI,aO,aY];rfl) ?_));clear ae K';refine abN rfl ?_;refine abO (dz _ ?_);have qf:=(Aq fw @bl);refine x6 ?_;(try simp only[aJ,aL]);refine And.intro ⟨s,hn⟩ ?_;rw[hinv _ _ hn,dt,qD,pr,ue,ug];unfold rm;refine (show aB _ _ _ _ _ ⟨aV [],ak _⟩ from ?_);refine abW (Aq fw @dt)
  have hz:Lib.trimB ln 32≠[]:=fun h=>h0 (Jq.1 h)
  have ez:iq s pk ln=match e7 ln with
   | .form=>.inl (3,pk)
   | .bad c off=>.inl (c,pk+off)
   | .name n=>if s.ao=[] then .inr ⟨s.names ++ [n],s.gE ++ [pk],s.ao,s.gI⟩ else .inl (3,pk)
   | .lK r=>.inr ⟨s.names,s.gE,s.ao ++ [r],s.gI ++ [pk]⟩:=by unfold iq;rw[if_neg h0];cases e7 ln<;>rfl
  have iX:=Si h0;simp only[dS]at iX;generalize Lib.trimB ln 32=tz at nP hz;refine rg [2,3,4,5,6,7,8,27] [2,3,4,5,6,7,801,802,803,804] (cJ rfl) fun K' ae=>?_;(repeat (refine sxn fun K2 aa=>?_;simp[ab,dS,oH,oI,aO,aY,hz];(repeat (refine⟨by omega,?_⟩));refine aa _ ?_;clear aa K2));refine sxn fun K2 aa=>?_;simp[ab,dS,oH,oI,aO,aY,hz];refine ab8.data (nP) (by simp;rfl) (by first | exact D.abY _ | simp[aC,abU,abK,D.le,D.le.go,D.le_refl,D.abY,ab,dS,oH,oI,aO,aY,hz]) ?_;refine aa _ ?_;clear aa K2;simp only[aD,cz];(repeat (refine sxn fun K2 aa=>?_;simp[ab,dS,oH,oI,aO,aY,hz];(repeat (refine⟨by omega,?_⟩));refine aa _ ?_;clear aa K2));refine sxz (ae _ (AW.st (by simp[ab,dS,oH,oI,aO,aY,hz];rfl) ?_));clear ae K';refine abP (by simp[hz]) ?_;have uz:=fun c off=>Un (s:=ln) (c:=c) (off:=off)
  cases hlk:e7 ln with
  | form=>
   rw[hlk]at iX ez;dsimp only at ez;simp only[ach]at iX;have hp:=adT _ _ ez;refine aT fw iX [2,3,4,5,6,7,8,9,10,11] [2,3,4,5,6,7,801,802,803,804] ?_;refine af fun K9 hK9=>?_;refine rgq (Aq fw (Aq @afM (Aq @afT @afW))) [2,3,4,5,6,7,8,9,10,11,12,13] [2,3,4,5,6,7,801,802,803,804] ?_;refine rgq fw [2,3,4,5,6,7,8,9,10,11,12,39] [2,3,4,5,6,7,801,802,803,804] ?_;refine abN rfl ?_;refine abO (hK9 _ ?_);refine aR ?_;refine af fun K10 dy=>?_;refine rgq fw [2,3,4,5,6,7,8,9,10,66] [2,3,4,5,6,7,801,802,803,804] ?_;refine abP rfl ?_;refine abO (dy _ ?_);refine abP rfl ?_;refine BF (al _) (by kernel_rfl) ([3]) ([(1,7),(5,2),(6,3)]) (List.range 7) [2,3] [2,3,4,5,6,7,801,802,803,804] (cJ rfl) (by kernel_rfl) fun K' ae=>?_;(repeat (refine FZ rfl fun K2 aa=>?_;simp[ab,dS];(repeat (refine⟨by omega,?_⟩));refine aa _ ?_;clear aa K2));refine F0 (ae _ ?_);refine AW.st (by simp[ab,dS];rfl) ?_;clear ae K';refine ab1 (Exists.intro _ (And.intro (aB.env (by intro i x h;cases h)) ?_));simp[D.le,D.le.go,aC,hp,dPg,cPg,bO,dP,bd,oM,ab]
  | bad c off=>
   rw[hlk]at iX ez;dsimp only at ez;simp only[ach]at iX;have hp:=adT _ _ ez;have ho:=uz c off hlk
   have b8:((pk+off:Nat):Int)=(pk:Int)+(off:Int):=by omega
   refine aT fw iX [2,3,4,5,6,7,8,9,10,11] [2,3,4,5,6,7,801,802,803,804] ?_;refine af fun K9 hK9=>?_;refine rgq (Aq fw (Aq @afM (Aq @afT @afW))) [2,3,4,5,6,7,8,9,10,11,12,13] [2,3,4,5,6,7,801,802,803,804] ?_;refine rgq fw [2,3,4,5,6,7,8,9,10,11,12,39] [2,3,4,5,6,7,801,802,803,804] ?_;refine abP rfl ?_;refine BF (al _) (by kernel_rfl) ([12]) ([(4,999),(5,7),(9,999),(14,2),(15,3)]) (List.range 16) [2,3] [2,3,4,5,6,7,801,802,803,804] (cJ rfl) (by kernel_rfl) fun K' ae=>?_;(repeat (refine FZ rfl fun K2 aa=>?_;simp[ab,dS];(repeat (refine⟨by omega,?_⟩));refine aa _ ?_;clear aa K2));refine F0 (ae _ ?_);refine AW.st (by simp[ab,dS];rfl) ?_;clear ae K';refine ab1 (Exists.intro _ (And.intro (aB.env (by intro i x h;cases h)) ?_));simp[D.le,D.le.go,aC,hp,dPg,cPg,bO,dP,bd,oM,ab,b8]
  | name n=>
   rw[hlk]at iX ez;dsimp only at ez;simp only[ach]at iX;have cm:cNm n=[.v (.string (bs n.name)),.v (.int .i64 n.kind),.v (.int .i64 n.count)]:=rfl
   have nu:(s.names ++ [n]).map cNm=NN ++ [cNm n]:=by rw[ac5,qD];rfl
   have ub:cA (s.gE ++ [pk])=NA ++ [[.v (.int .i64 pk)]]:=by rw[<- ue];unfold cA;rw[ac5];rfl
   generalize bs n.name=nm at cm;generalize n.kind=kd at cm;generalize n.count=ct at cm;rw[cm]at iX nu;refine aT fw iX [2,3,4,5,6,7,8,9,10,11] [2,3,4,5,6,7,801,802,803,804] ?_;refine af fun K9 hK9=>?_;refine rgq (Aq fw (Aq @afM (Aq @afT @afW))) [2,3,4,5,6,7,8,9,10,11,12,13] [2,3,4,5,6,7,801,802,803,804] ?_;refine rgq fw [2,3,4,5,6,7,8,9,10,11,12,39] [2,3,4,5,6,7,801,802,803,804] ?_;refine abN rfl ?_;refine abO (hK9 _ ?_);refine aR ?_;refine af fun K10 dy=>?_;refine rgq fw [2,3,4,5,6,7,8,9,10,66] [2,3,4,5,6,7,801,802,803,804] ?_;refine abN rfl ?_;by_cases jR:s.ao=[]
   .rw[if_pos jR]at ez;have hn:=eH _ ez;have ly:RA=[]:=aeu.1 (by rw[r6,jR];rfl);subst ly;refine reK fw dy [2,3,4,5,6,7,8,9,10,66] [2,3,4,5,6,7,801,802,803,804] ?_;refine abN rfl ?_;refine rgq fw [2,3,4,5,6,7,8,9,10,81] [2,3,4,5,6,7,801,802,803,804] ?_;refine abN rfl ?_;refine yy (al _) (by kernel_rfl) ([(6,(801,59)),(10,(803,63))]) ([(7,[801]),(8,[801]),(9,[801]),(11,[803])]) ([0,1,2,3,4,7,8,5,9,6,11,10,12,13]) (by kernel_rfl) fun K' ae=>?_;(repeat (refine yn rfl fun K2 aa=>?_;simp[ab,dS,sh];(repeat (refine⟨by omega,?_⟩));refine aa _ ?_;clear aa K2));refine yo (ae _ ?_);clear ae K';refine dz _ (AW.norm [2,3,4,5,6,7,8] [2,3,4,5,6,7,801,802,803,804] (cJ rfl) (AW.st (by simp[ab,dS,sh];rfl) ?_));have qf:=(Aq fw @bl);refine x6 ?_;(try simp only[aJ,aL]);refine And.intro ⟨_,hn⟩ ?_;rw[hinv _ _ hn,dt];dsimp only;rw[nu,ub,pr,ug];unfold rm;refine (show aB _ _ _ _ _ ⟨aV [],ak _⟩ from ?_);refine abW (Aq fw @dt)
   .rw[if_neg jR]at ez;have hp:=adT _ _ ez
    have ly:0 < RA.length:=by rw[r6];exact adM.2 jR
    have qf:=(Aq fw @ly);refine dN dy [2,3,4,5,6,7,8,9,10,66] [2,3,4,5,6,7,801,802,803,804] ?_;refine abP (by simp[ly]) ?_;refine BF (al _) (by kernel_rfl) ([3]) ([(1,7),(5,2),(6,3)]) (List.range 7) [2,3] [2,3,4,5,6,7,801,802,803,804] (cJ rfl) (by kernel_rfl) fun K' ae=>?_;(repeat (refine FZ rfl fun K2 aa=>?_;simp[ab,dS];(repeat (refine⟨by omega,?_⟩));refine aa _ ?_;clear aa K2));refine F0 (ae _ ?_);refine AW.st (by simp[ab,dS];rfl) ?_;clear ae K';refine ab1 (Exists.intro _ (And.intro (aB.env (by intro i x h;cases h)) ?_));simp[D.le,D.le.go,aC,hp,dPg,cPg,bO,dP,bd,oM,ab]
  | lK r=>
   rw[hlk]at iX ez;dsimp only at ez;simp only[ach]at iX;have hn:=eH _ ez;have DR:=O5 r.cond;have fW:cf r=[.v (.int .i64 r.kind),.v (.string (bs r.name)),dC r.cond]:=rfl
   have zw:(s.ao ++ [r]).map cf=RR ++ [cf r]:=by rw[ac5,pr];rfl
   have ub:cA (s.gI ++ [pk])=RA ++ [[.v (.int .i64 pk)]]:=by rw[<- ug];unfold cA;rw[ac5];rfl
   generalize bs r.name=nm at fW;generalize r.kind=kd at fW;generalize dC r.cond=dc at fW DR;rw[fW]at iX zw;refine aT fw iX [2,3,4,5,6,7,8,9,10,11] [2,3,4,5,6,7,801,802,803,804] ?_;refine af fun K9 hK9=>?_;refine rgq (Aq fw (Aq @afM (Aq @afT @afW))) [2,3,4,5,6,7,8,9,10,11,12,13] [2,3,4,5,6,7,801,802,803,804] ?_;refine rgq fw [2,3,4,5,6,7,8,9,10,11,12,39] [2,3,4,5,6,7,801,802,803,804] ?_;refine abN rfl ?_;refine abO (hK9 _ ?_);refine aR ?_;refine af fun K10 dy=>?_;refine rgq fw [2,3,4,5,6,7,8,9,10,66] [2,3,4,5,6,7,801,802,803,804] ?_;refine abN rfl ?_;refine reK fw dy [2,3,4,5,6,7,8,9,10,66] [2,3,4,5,6,7,801,802,803,804] ?_;refine abN rfl ?_;refine rgq fw [2,3,4,5,6,7,8,9,10,81] [2,3,4,5,6,7,801,802,803,804] ?_;refine abP rfl ?_;refine yy (al _) (by kernel_rfl) ([(6,(802,89)),(10,(804,93))]) ([(7,[802]),(8,[802]),(9,[802]),(11,[804])]) ([0,1,2,3,4,7,8,5,9,6,11,10,12,13]) (by kernel_rfl) fun K' ae=>?_;(repeat (refine yn rfl fun K2 aa=>?_;simp[ab,dS,sh,DR];(repeat (refine⟨by omega,?_⟩));refine aa _ ?_;clear aa K2));refine yo (ae _ ?_);clear ae K';refine dz _ (AW.norm [2,3,4,5,6,7,8] [2,3,4,5,6,7,801,802,803,804] (cJ rfl) (AW.st (by simp[ab,dS,sh,DR];rfl) ?_));have qf:=(Aq fw @bl);refine x6 ?_;(try simp only[aJ,aL]);refine And.intro ⟨_,hn⟩ ?_;rw[hinv _ _ hn,dt];dsimp only;rw[zw,ub,qD,ue];unfold rm;refine (show aB _ _ _ _ _ ⟨aV [],ak _⟩ from ?_);refine abW (Aq fw @dt)
end Go.Proofs.YtdigkhaofjmgkaaGreatDoor
namespace Go.Proofs.YtdigkhaofjmgkaaGreatDoor
open Go.Av
def Ui (S P:Int) (n:Nat):Prop:=S < 1\/3 < S\/P < 0\/2 < P\/n < 1\/3 < n
instance (S P:Int) (n:Nat):Decidable (Ui S P n):=inferInstanceAs (Decidable (_\/_))
theorem EC (G:aq) (k0:Option Bool) (t:List (List UInt8)) (s:List UInt8) (hs:s≠[]) (ht:t.length < 2^60):ar prog G 117 [.sl k0 (t.map fun x=>[dS x]),dS s] (ab (idx (fun x=>x == s) t)):=by
 have hs0:s.isEmpty=false:=by rw[ad3];exact hs
 refine ar.abS (al _) func117 rfl rfl (rs:=[.tmp 4]) results117 (by simp[ntmps117]) fun X=>?_;simp only[ntmps117,List.map];have fw:=@afg;refine rgq fw [0,1] [] ?_;refine af fun K1 ax=>?_;refine rgq fw [1,7,8,9] [] ?_;refine bQ (S:=Nat) (fun n=>n<=t.length/\∀ i (hi:i < t.length),i < n->(t[i] == s)=false) (fun n=>⟨aV [(1,.d (dS s)),(7,.d (.sl k0 (t.map fun x=>[dS x]))),(8,int t.length),(9,int n)],ak []⟩) (fun n=>t.length - n) 0 ?_ (by simp) ?_
 .refine abW fw
 .rintro n ⟨hn,hp⟩;refine rgq fw [1,7,8,9,10] [] ?_;refine af fun K2 aa=>?_;refine eh (b:=n < t.length) (by simp[D.le,D.le.go,aC,ab]) (fun hc=>?_) (fun hc=>?_)
  .have qV:n < t.length:=hc;refine abO (aa _ ?_);refine af fun K3 aQ=>?_;refine aR ?_;have qf:=(Aq fw @qV);refine abQ [1,5,6,7,8,9] [] ?_
   cases he:(t[n] == s) with
   | true=>
    have he2:t[n]=s:=by simpa using he
    refine rg [1,5,7,8,9,20] [] (fun _ _=>trivial) fun K' ae=>?_;(repeat (refine sxn fun K2 aa=>?_;simp[ab,dS,he2,aO,br,aY,hs,hs0];(repeat (refine⟨by omega,?_⟩));refine aa _ ?_;clear aa K2));refine sxz (ae _ (AW.st (by simp[ab,dS,he2,aO,br,aY,hs,hs0];rfl) ?_));clear ae K';refine abP rfl ?_;refine rgq fw [4] [] ?_;refine ab1 ?_;simp[D.le,D.le.go,aC,ab];exact (afp qV he fun i hi=>hp i (by omega) hi).symm
   | false=>
    have he2:¬ t[n]=s:=by simpa using he
    refine rg [1,5,7,8,9,20] [] (fun _ _=>trivial) fun K' ae=>?_;(repeat (refine sxn fun K2 aa=>?_;simp[ab,dS,he,he2,aO,br,aY];(repeat (refine⟨by omega,?_⟩));refine aa _ ?_;clear aa K2));refine sxz (ae _ (AW.st (by simp[ab,dS,he,he2,aO,br,aY];rfl) ?_));clear ae K';refine abN rfl ?_;refine abO ?_;refine aQ _ (AW.norm [1,7,8,9] [] (fun _ _=>trivial) (AW.st (by simp[ab];rfl) ?_));refine reQ fw ?_;(try simp only[aJ,aL]);refine aS.mk (n+1) ⟨by omega,fun i hi aF=>?_⟩ (by omega) ?_
    .by_cases h:i=n
     .subst h;exact he
     .exact hp i hi (by omega)
    refine abW (Aq fw @afi)
  .refine bx (ax _ ?_);refine rgq fw [4] [] ?_;refine ab1 ?_;simp[D.le,D.le.go,aC,ab];exact (afq fun i hi=>hp i hi (by omega)).symm
theorem Hs {p:PgP} (h:∀ r∈p.ao,∃ e,r.cond=some e/\bE e<=2^28):∀ {n:Nat},n<=p.ao.length->(ia p n).length<=2^28 * n
 | 0,_=>by simp[ia]
 | n+1,hn=>by
  have ih:=Hs h (n:=n) (by omega);obtain⟨e,he,hb⟩:=h p.ao[n] (abH _);rw[Cu (by omega),acC]
  have:(qv p p.ao[n]).length<=2^28:=by
   unfold qv;rw[he,ac1];have h1:=Lib.compact_length_le (jY (ck false e));have h2:=oQ (ck false e);have h3:=s6 false e;show (dv false e).length<=_;unfold dv;omega
  omega
theorem Ug (G:aq) (p:PgP) (hnl:p.names.length < 2^62) (hrl:p.ao.length<=100) (hg:∀ r∈p.ao,∃ e,r.cond=some e/\bE e<=2^28):ar prog G 65 [dPg p] (.sl none ((Lib.compact (aeq (ia p p.ao.length))).map fun x=>[.v (.int .i64 x)])):=by
 have ab3:=fun s=>sY G p hnl s;have hlen:=fun n hn=>Hs (n:=n) hg hn;have hL:=hlen _ (abL _);have sD:=YT G 300 3 (ia p p.ao.length) (by omega);have iT:=ON G 300 3 (aeq (ia p p.ao.length)) (by rw[agw];omega);rw[agw]at iT;have hcl:=Lib.compact_length_le (aeq (ia p p.ao.length));rw[agw]at hcl;generalize QF:ia p p.ao.length=l at sD iT hcl hL ⊢;generalize aeq l=z at sD iT hcl ⊢
 have cw:List.take (Lib.compact z).length ((Lib.compact z ++ List.replicate (l.length - (Lib.compact z).length) 0).map fun s=>[D.v (.int .i64 s)])=(Lib.compact z).map fun s=>[D.v (.int .i64 s)]:=by
  rw[ac5,aep (by simp),sh (by simp)]
 have Ee:(Lib.compact z ++ List.replicate (l.length - (Lib.compact z).length) 0).length=l.length:=by simp;omega
 generalize Lib.compact z ++ List.replicate (l.length - (Lib.compact z).length) 0=y at iT cw Ee;generalize Lib.compact z=c at iT hcl cw ⊢;simp only[dPg,cPg,bO,dP,dS]at ab3 ⊢;refine ar.abS (al _) func65 rfl rfl (rs:=[.tmp 2]) results65 (by simp[ntmps65]) fun X=>?_;simp only[ntmps65,List.map];have fw:=@afg;refine rgq fw [1] [1] ?_;refine acp fw 1 ?_;refine rgq fw [1,3] [] ?_;refine af fun K1 ax=>?_;refine rgq fw [1,3,9,10,11] [] ?_;refine bQ (S:=Nat) (fun i=>i<=p.ao.length) (fun i=>⟨aV [(1,.d (.ip [.sl none (p.names.map cNm),.sl none (p.ao.map cf)])),(3,.own 300 0 (ia p i).length),(9,.d (.sl none (p.ao.map cf))),(10,int p.ao.length),(11,int i)],ak [(300,.sl 3 1 ((ia p i).map fun x=>[.v (.int .i64 x)]))]⟩) (fun i=>p.ao.length - i) 0 ?_ (by simp) ?_
 .refine (aB.ky 3 300 3 1 rfl rfl).trans ?_;refine abW (Aq fw (Aq @ia.eq_1 @ia.eq_2))
 .intro i hi;have zo:=hlen i hi
  have hE2:(ia p i).length < 2^40:=by omega
  have nM:=fun h=>Cu (p:=p) (i:=i) h
  have ae8:i=p.ao.length->ia p i=l:=fun h=>by rw[h];exact QF
  generalize H4:ia p i=E at hE2 nM ae8 ⊢;refine rgq fw [1,3,9,10,11,12] [300] ?_;refine af fun K2 aa=>?_;refine eh (b:=i < p.ao.length) (by simp[D.le,D.le.go,aC,ab]) (fun hc=>?_) (fun hc=>?_)
  .have au:=hc;obtain⟨e,he,hb⟩:=hg _ (abH au);have du:=nM au;have fW:cf p.ao[i]=[.v (.int .i64 p.ao[i].kind),.v (.string (bs p.ao[i].name)),dC p.ao[i].cond]:=rfl;have kc:=Ph G e hb
   have Ja:(dv false e).length<=2^28:=by
    have h1:=Lib.compact_length_le (jY (ck false e));have h2:=oQ (ck false e);have h3:=s6 false e;unfold dv;omega
   unfold qv at du;rw[he]at du fW;simp only[dC,dS]at du fW kc;obtain⟨ta,ca,mQ⟩:=adE e;rw[mQ]at fW kc;generalize dv false e=ns at du kc Ja;generalize p.ao[i].kind=kd at fW;generalize p.ao[i].name=nm at fW;refine abO (aa _ ?_);refine af fun K3 aQ=>?_;refine aR ?_;have qf:=(Aq fw (Aq @au @fW));refine abQ [1,3,5,9,10,11] [300,5] ?_;refine acp fw 5 ?_;refine aT fw kc [1,3,9,10,11,17,18,19] [300] ?_;obtain⟨AA,hAA⟩:∃ f:Nat->List Int,f=fun j=>E ++ (ns.take j).map (bF p):=⟨_,rfl⟩
   have CN:AA 0=E:=by rw[hAA];simp
   have Qo:AA ns.length=E ++ ns.map (bF p):=by rw[hAA];simp
   have Qq:∀ j (h:j < ns.length),AA (j+1)=AA j ++ [bF p ns[j]]:=fun j h=>by rw[hAA];dsimp only;rw[abR h,ac5,adU];rfl
   have Qp:∀ j,(AA j).length < 2^41:=fun j=>by rw[hAA];dsimp only;rw[acC,ac1,acz];omega
   clear hAA;refine bQ (S:=Nat) (fun j=>j<=ns.length) (fun j=>⟨aV [(1,.d (.ip [.sl none (p.names.map cNm),.sl none (p.ao.map cf)])),(3,.own 300 0 (AA j).length),(9,.d (.sl none (p.ao.map cf))),(10,int p.ao.length),(11,int i),(17,.d (.sl none (ns.map fun s=>[.v (.string (bs s))]))),(18,int ns.length),(19,int j)],ak [(300,.sl 3 1 ((AA j).map fun x=>[.v (.int .i64 x)]))]⟩) (fun j=>ns.length - j) 0 ?_ (by simp) ?_
   .refine abW (Aq fw @CN)
   .intro j hj;have ub:=Qq j;have HW:=Qp j
    have HV:j=ns.length->E ++ ns.map (bF p)=AA j:=fun h=>by rw[h,Qo]
    generalize hAA:AA j=A at ub HW HV ⊢;refine rgq fw [1,3,9,10,11,17,18,19,20] [300] ?_;refine af fun K4 bK=>?_;refine eh (b:=j < ns.length) (by simp[D.le,D.le.go,aC,ab]) (fun hc=>?_) (fun hc=>?_)
    .have fg:=hc;have zm:=ub fg;have I8:=ab3 ns[j];generalize bF p ns[j]=z2 at zm I8;refine abO (bK _ ?_);refine af fun K5 bB=>?_;refine aR ?_;have qf:=(Aq fw @fg);refine abQ [1,3,7,9,10,11,17,18,19] [300] ?_;refine cR (al _) fun K' ae=>?_;(repeat (refine sxn fun K2 aa=>?_;simp[ab,sh];(repeat (refine⟨by omega,?_⟩));refine aa _ ?_;clear aa K2));refine sxn fun K2 aa=>?_;simp[ab,sh];refine ab8.data (I8) (by simp;rfl) (by first | exact D.abY _ | simp[aC,abU,abK,D.le,D.le.go,D.le_refl,D.abY,ab,sh]) ?_;refine aa _ ?_;clear aa K2;simp only[aD,cz];(repeat (refine sxn fun K2 aa=>?_;simp[ab,sh];(repeat (refine⟨by omega,?_⟩));refine aa _ ?_;clear aa K2));refine sxz (ae _ ?_);clear ae K';refine bB _ (AW.norm [1,3,9,10,11,17,18,19] [300] (fun _ _=>trivial) (AW.st (by simp[ab,sh];rfl) ?_));refine reQ fw ?_;(try simp only[aJ,aL]);refine aS.mk (j+1) (by omega) (by omega) ?_;refine abW (Aq fw @zm)
    .obtain rfl:j=ns.length:=by omega
     rw[HV rfl]at du;refine bx (aQ _ ?_);refine reQ fw ?_;(try simp only[aJ,aL]);refine aS.mk (i+1) (by omega) (by omega) ?_;refine abW (Aq fw @du)
  .obtain rfl:=ae8 (by omega);refine bx (ax _ ?_);refine bf fw sD [3] [300] ?_;refine bf fw iT [2] [300] ?_
   have hle:c.length<=y.length:=by omega
   by_cases pB:c.length=y.length
   .have l5:(y.map fun s=>[D.v (.int .i64 s)])=c.map fun s=>[D.v (.int .i64 s)]:=by rw[<- cw,pB,sh (by simp)]
    refine AW.imp (aB.freeze 300 trivial) ?_;refine AW.st (by simp[ab,pB,hle,l5];rfl) ?_;exact aN (Aq fw (Aq @pB @l5))
   .refine AW.imp (aB.freeze 300 trivial) ?_;refine AW.st (by simp[ab,pB,hle,cw];rfl) ?_;exact aN (Aq fw @cw)
theorem aad (G:aq) (hM:adP G) (p:PgP) (hnl:p.names.length < 2^40) (ov:∀ n∈p.names,n.name≠[]) (hrl:p.ao.length<=100) (hg:∀ r∈p.ao,∃ e,r.cond=some e/\bE e<=2^28):ar prog G 124 [cX p] (.sl none ((acU p p.names.length).map fun x=>[.v (.int .i64 x)])):=by
 simp only[cX,eu,bO];refine ar.abS (al _) func124 rfl rfl (rs:=[.tmp 2]) results124 (by simp[ntmps124]) fun X=>?_;simp only[ntmps124,List.map];have fw:=@afg;refine rgq fw [1] [1] ?_;refine acp fw 1 ?_;refine rgq fw [1,3] [] ?_;refine af fun K1 ax=>?_;refine rgq fw [1,3,9,10,11] [] ?_;refine bQ (S:=Nat) (fun i=>i<=p.names.length) (fun i=>⟨aV [(1,.d (.ip [.sl none (p.names.map cNm),.sl none (p.ao.map cL)])),(3,.own 300 0 (acU p i).length),(9,.d (.sl none (p.names.map cNm))),(10,int p.names.length),(11,int i)],ak [(300,.sl 3 1 ((acU p i).map fun x=>[.v (.int .i64 x)]))]⟩) (fun i=>p.names.length - i) 0 ?_ (by simp) ?_
 .refine (aB.ky 3 300 3 1 rfl rfl).trans ?_;refine abW (Aq fw (Aq @acU.eq_1 @acU.eq_2))
 .intro i hi;have hE2:=Bu p i;have nM:=fun h=>MN (p:=p) (i:=i) h;generalize H4:acU p i=E at hE2 nM ⊢;refine rgq fw [1,3,9,10,11,12] [300] ?_;refine af fun K2 aa=>?_;refine eh (b:=i < p.names.length) (by simp[D.le,D.le.go,aC,ab]) (fun hc=>?_) (fun hc=>?_)
  .have au:=hc;have du:=nM au;have aI:=ov _ (abH au);have cm:cNm p.names[i]=[.v (.string (bs p.names[i].name)),.v (.int .i64 p.names[i].kind),.v (.int .i64 p.names[i].count)]:=rfl;generalize p.names[i].name=nm at cm du aI;generalize p.names[i].kind=kd at cm;generalize p.names[i].count=ct at cm;refine abO (aa _ ?_);refine af fun K3 aQ=>?_;refine aR ?_;have qf:=(Aq fw (Aq @au @cm));refine abQ [1,3,4,5,9,10,11] [300,5] ?_;refine acp fw 5 ?_;refine rgq fw [1,3,4,5,9,10,11,17,18,19] [300] ?_;refine bQ (S:=Nat) (fun j=>j<=p.ao.length/\∀ k (hk:k < p.ao.length),k < j->kG nm p.ao[k]=false) (fun j=>⟨aV [(1,.d (.ip [.sl none (p.names.map cNm),.sl none (p.ao.map cL)])),(3,.own 300 0 E.length),(4,int i),(5,.d (.ip [.v (.string (bs nm)),.v (.int .i64 kd),.v (.int .i64 ct)])),(9,.d (.sl none (p.names.map cNm))),(10,int p.names.length),(11,int i),(17,.d (.sl none (p.ao.map cL))),(18,int p.ao.length),(19,int j)],ak [(300,.sl 3 1 (E.map fun x=>[.v (.int .i64 x)]))]⟩) (fun j=>p.ao.length - j) 0 ?_ (by simp) ?_
   .refine abW fw
   .rintro j ⟨hj,fD⟩;refine rgq fw [1,3,4,5,9,10,11,17,18,19,20] [300] ?_;refine af fun K4 bK=>?_;refine eh (b:=j < p.ao.length) (by simp[D.le,D.le.go,aC,ab]) (fun hc=>?_) (fun hc=>?_)
    .have fg:=hc;obtain⟨e,he,hb⟩:=hg _ (abH fg);have fW:cL p.ao[j]=[.v (.int .i64 p.ao[j].kind),.v (.string (bs p.ao[j].name)),iP p.ao[j].cond]:=rfl
     have ou:kG nm p.ao[j]=false->∀ k (hk:k < p.ao.length),k < j+1->kG nm p.ao[k]=false:=fun h0 k hk qN=>by
      by_cases h:k=j
      .subst h;exact h0
      .exact fD k hk (by omega)
     have IL:kG nm p.ao[j]=true->p.ao.any (kG nm)=true:=fun h=>ad1.2 ⟨_,abH fg,h⟩
     have kQ:kG nm p.ao[j]=decide (0<=idx (fun x=>x == nm) (dv false e)):=by unfold kG;rw[he]
     have kc:=Wo G hM e hb
     have Ja:(dv false e).length<=2^28:=by
      have h1:=Lib.compact_length_le (jY (ck false e));have h2:=oQ (ck false e);have h3:=s6 false e;unfold dv;omega
     have hix:=EC G none (dv false e) nm aI (by omega);rw[he]at fW;simp only[iP]at fW;obtain⟨ec,Dk⟩:∃ c,dR e = .ip c:=⟨_,od e⟩;rw[Dk]at fW kc;generalize dv false e=ns at kc hix kQ;generalize idx (fun x=>x == nm) ns=ix at hix kQ;generalize kG nm p.ao[j]=hv at ou IL kQ;simp only[dS,ab]at kc hix;generalize p.ao[j].kind=kd2 at fW;generalize p.ao[j].name=nm2 at fW;refine abO (bK _ ?_);refine af fun K5 bB=>?_;refine aR ?_;have qf:=(Aq fw (Aq @fg @fW));refine abQ [1,3,4,5,7,9,10,11,17,18,19] [300,7] ?_;refine acp fw 7 ?_;refine oW (al _) (by kernel_rfl) [1,3,4,5,9,10,11,17,18,19,29] [300] (fun _ _=>trivial) (by kernel_rfl) fun K' ae=>?_;(repeat (refine eC fun K2 aa=>?_;simp[ab];(repeat (refine⟨by omega,?_⟩));refine aa _ ?_;clear aa K2));refine eC fun K2 aa=>?_;simp[ab];refine jm.data (kc) (by simp;rfl) (by simp;rfl) (by first | exact D.abY _ | simp[aC,abU,abK,D.le,D.le.go,D.le_refl,D.abY,ab]) ?_;refine aa _ ?_;clear aa K2;simp only[aD,cz];(repeat (refine eC fun K2 aa=>?_;simp[ab];(repeat (refine⟨by omega,?_⟩));refine aa _ ?_;clear aa K2));refine eC fun K2 aa=>?_;simp[ab];refine jm.data (hix) (by simp;rfl) (by simp;rfl) (by first | exact D.abY _ | simp[aC,abU,abK,D.le,D.le.go,D.le_refl,D.abY,ab]) ?_;refine aa _ ?_;clear aa K2;simp only[aD,cz];(repeat (refine eC fun K2 aa=>?_;simp[ab];(repeat (refine⟨by omega,?_⟩));refine aa _ ?_;clear aa K2));refine iL (ae _ ?_);refine AW.st (by simp[ab];rfl) ?_;clear ae K';by_cases h0:0<=ix
     .have gC:hv=true:=by rw[kQ];simpa using h0
      rw[if_pos (IL gC)]at du;refine abP (by simp[h0]) ?_;refine rg [1,3,9,10,11] [300] (fun _ _=>trivial) fun K' ae=>?_;(repeat (refine sxn fun K2 aa=>?_;simp[ab,sh];(repeat (refine⟨by omega,?_⟩));refine aa _ ?_;clear aa K2));refine sxz (ae _ (AW.st (by simp[ab,sh];rfl) ?_));clear ae K';refine bx (aQ _ ?_);refine reQ fw ?_;(try simp only[aJ,aL]);refine aS.mk (i+1) (by omega) (by omega) ?_;refine abW (Aq fw @du)
     .have gC:hv=false:=by rw[kQ];simpa using h0
      refine abN (by simp[h0]) ?_;refine abO (bB _ ?_);refine reQ fw ?_;(try simp only[aJ,aL]);refine aS.mk (j+1) ⟨by omega,ou gC⟩ (by omega) ?_;refine abW fw
    .have qF:p.ao.any (kG nm)=false:=by
      rw[List.any_eq_false];intro r hr;obtain⟨k,hk,rfl⟩:=aco.1 hr;simpa using fD k hk (by omega)
     rw[qF,if_neg (by decide),adp]at du;refine bx (aQ _ ?_);refine reQ fw ?_;(try simp only[aJ,aL]);refine aS.mk (i+1) (by omega) (by omega) ?_;refine abW (Aq fw @du)
  .obtain rfl:i=p.names.length:=by omega
   refine bx (ax _ ?_);refine AW.imp (aB.freeze 300 trivial) ?_;refine AW.st (by simp[ab,sh];rfl) ?_;refine rgq fw [2] [] ?_;exact aN (Aq fw @H4)
def vH (G:aq):Prop:=G 1=some (.ip [.sl none [[.v (.string (bs []))],[.v (.string (bs [105,110,112,117,116]))],[.v (.string (bs [99,111,105,108]))],[.v (.string (bs [116,105,109,101,114]))],[.v (.string (bs [99,111,117,110,116,101,114]))]]])
def vI (G:aq):Prop:=G 0=some (.ip [.sl none [[.v (.string (bs []))],[.v (.string (bs []))],[.v (.string (bs [115,101,116]))],[.v (.string (bs [114,101,115,101,116]))],[.v (.string (bs [114,117,110]))],[.v (.string (bs [99,111,117,110,116]))],[.v (.string (bs [122,101,114,111]))]]])
theorem Ca {p:PgP} {c:Int} {o:Option Nat} (h:acg p=some (c,o)):c≠0:=by
 unfold acg at h;split at h
 .simp only[AS,BY]at h;omega
 split at h
 .rename_i hf;simp only[AS,BY]at h;have:=(wg hf).2.2;rw[<- h.1];exact this
 split at h
 .rename_i hf;simp only[AS,BY]at h;have:=(wg hf).2.2;rw[<- h.1];exact this
 .cases h
theorem U4 {s:Tx} (h:gd s=true):s≠[]/\s.length<=8:=by
 unfold gd at h;simp only[abI,decide_eq_true_eq]at h;exact⟨h.1,h.2.1⟩
theorem Uj {s:Tx} {r:fI} (h:e7 s = .lK r):∃ e,r.cond=some e/\fo e/\qs e<=20/\bE e<=10000:=by
 unfold e7 at h;split at h
 .obtain⟨k,nm,hm,hr⟩:=LW h;obtain⟨e,he,hp,_,hn,_⟩:=L0 hr;exact⟨e,he,(Fj hp).1,(Fj hp).2,KW hp⟩
 .exact absurd h Ks
def lQ (r:fI):Prop:=∃ e,r.cond=some e/\fo e/\qs e<=20/\bE e<=10000
theorem ahd {l:List Tx}:∀ {k:Nat} {s:k7},eB l k = .inr s->∀ r∈s.ao,lQ r
 | 0,s,h=>by
  simp only[eB,ae3]at h;subst h;simp[lH]
 | k+1,s,h=>by
  rw[eB]at h
  cases hk:eB l k with
  | inl e=>rw[hk]at h;cases h
  | inr s0=>
   rw[hk]at h;dsimp only at h;have ih:=ahd hk;unfold iq at h;split at h
   .simp only[ae3]at h;subst h;exact ih
   .split at h
    .cases h
    .cases h
    .split at h
     .simp only[ae3]at h;subst h;exact ih
     .cases h
    .rename_i r hr;simp only[ae3]at h;subst h;intro r' hr'
     rcases ab4.1 hr' with h1 | h1
     .exact ih r' h1
     .obtain rfl:=acV.1 h1;exact Uj hr
theorem KX {t:Tx} {p:PgP} (h:gG t=(none,p)):acg p=none/\∀ r∈p.ao,lQ r:=by
 unfold gG at h;split at h
 .cases h
 .split at h
  .cases h
  .rename_i s hs;split at h
   .rename_i hc;simp only[BY,true_and]at h;subst h;exact⟨hc,ahd hs⟩
   .cases h
   .cases h
theorem VG {t:Tx} {e:Int×Option Nat} (h:(gG t).1=some e):(gG t).2=⟨[],[]⟩:=by
 by_cases h1:20000 < t.length
 .unfold gG;rw[if_pos h1]
 .cases hs:eB (acx 10 t) (acx 10 t).length with
  | inl ci=>obtain⟨c,i⟩:=ci;rw[Fg (by omega) hs]
  | inr s=>
   rw[Fh (by omega) hs]at h ⊢
   cases hc:acg ⟨s.names,s.ao⟩ with
   | none=>rw[hc]at h;cases h
   | some co=>
    obtain⟨c,o⟩:=co;cases o<;>rfl
theorem aai:(⟨#[32]⟩:ByteArray)=bs [32]:=rfl
theorem Bw:(⟨#[]⟩:ByteArray)=bs []:=rfl
def mB (l:List Tx):List (List D):=(l.filter fun w=>decide (w≠[])).map fun s=>[dS s]
theorem HL:mB []=[]:=rfl
theorem P6 (l:List Tx) (n:Nat) (h:n < l.length):mB (l.take (n+1))=if l[n]=[] then mB (l.take n) else mB (l.take n) ++ [[dS l[n]]]:=by
 unfold mB;rw[abR h,List.filter_append,ac5];by_cases h0:l[n]=[]
 .simp[h0]
 .simp[h0]
theorem MS (G:aq) (hM:adP G) (t:Tx) (ht:t.length < 2^30):ar prog G 115 [dS t] (.sl none ((fz t).map fun s=>[dS s])):=by
 have hsp:=Md G hM t 32 ht
 have hwt:(fz t).map (fun s=>[dS s])=mB (acx 32 t):=by
  unfold mB fz acx;rw[<- Bz]
 rw[hwt];have sr:=yV 32 t;simp only[dS]at hsp;generalize acx 32 t=l at *;refine ar.abS (al _) func115 rfl rfl (rs:=[.tmp 2]) results115 (by simp[ntmps115]) fun X=>?_;simp only[ntmps115,List.map];have fw:=@afg;refine rgq fw [0] [] ?_;refine rgq fw [0,3] [] ?_;refine af fun K1 ax=>?_;have qf:=(Aq fw @aai);refine dr hsp [3,7,8,9] [] ?_;refine AW.imp (aB.ky 3 300 9 1 rfl rfl) ?_;refine bQ (S:=Nat) (fun n=>n<=l.length) (fun n=>⟨aV [(3,.own 300 0 (mB (l.take n)).length),(7,.d (.sl (some true) (l.map fun s=>[dS s]))),(8,int l.length),(9,int n)],ak [(300,.sl 9 1 (mB (l.take n)))]⟩) (fun n=>l.length - n) 0 ?_ (by omega) ?_
 .refine aB.to' (fun _ _=>trivial) (by simp[ab,HL,dS]) (by simp[ab,HL,dS])
 .intro n hn;refine rgq fw [3,7,8,9,10] [300] ?_;refine af fun K2 aa=>?_;by_cases au:n < l.length
  .refine abP (by simp;omega) ?_;have hs:=P6 l n au;generalize Iw:mB (l.take (n+1))=W2 at hs;generalize hW:mB (l.take n)=W at *
   have hWl:W.length<=2^40:=by
    rw[<- hW];unfold mB;rw[ac1];have h1:=List.length_filter_le (fun w=>decide (w≠[])) (l.take n);have h2:=List.length_take_le n l;omega
   refine abO (aa _ ?_);refine af fun K3 aQ=>?_;refine aR ?_;simp only[dS]at hs;have qf:=(Aq fw (Aq @au @afi));refine abQ [3,5,7,8,9] [300] ?_;by_cases hx:l[n]=[]
   .rw[if_pos hx]at hs;refine rg [3,5,7,8,9,14] [300] (fun _ _=>trivial) fun K' ae=>?_;(repeat (refine sxn fun K2 aa=>?_;simp[ab,Bw,aO,aY,hx];(repeat (refine⟨by omega,?_⟩));refine aa _ ?_;clear aa K2));refine sxz (ae _ (AW.st (by simp[ab,Bw,aO,aY,hx];rfl) ?_));clear ae K';refine abN (by simp[hx]) ?_;refine abO (aQ _ ?_);refine reQ fw ?_;(try simp only[aJ,aL]);refine aS.mk (n+1) (by omega) (by omega) ?_;refine abW (Aq fw (Aq @Iw (Aq @hs @afi)))
   .rw[if_neg hx]at hs
    have jU:l[n].isEmpty=false:=by rw[ad3];exact hx
    refine rg [3,5,7,8,9,14] [300] (fun _ _=>trivial) fun K' ae=>?_;(repeat (refine sxn fun K2 aa=>?_;simp[ab,Bw,aO,aY,hx];(repeat (refine⟨by omega,?_⟩));refine aa _ ?_;clear aa K2));refine sxz (ae _ (AW.st (by simp[ab,Bw,aO,aY,hx];rfl) ?_));clear ae K';refine abP (by simp[hx]) ?_;refine cR (al _) fun K' ae=>?_;(repeat (refine sxn fun K2 aa=>?_;simp[ab,sh];(repeat (refine⟨by omega,?_⟩));refine aa _ ?_;clear aa K2));refine sxz (ae _ ?_);clear ae K';refine aQ _ (AW.norm [3,7,8,9] [300] (fun _ _=>trivial) (AW.st (by simp[ab,sh];rfl) ?_));refine reQ fw ?_;(try simp only[aJ,aL]);refine aS.mk (n+1) (by omega) (by omega) ?_;refine abW (Aq fw (Aq @Iw (Aq @hs @afi)))
  .obtain rfl:n=l.length:=by omega
   refine abN (by simp) ?_;rw[ac0];refine bx (ax _ ?_);refine AW.imp (aB.freeze 300 trivial) ?_;refine AW.st (by simp[ab];rfl) ?_;refine rgq fw [2] [] ?_;exact aN fw
def rR:Option Int->D
 | some v=>.aW [.v (.int .i64 v),.v (.bool true)]
 | none=>.aW [.v (.int .i64 0),.v (.bool false)]
theorem Ye (G:aq) (hP:ae1 G) {es er:Value} (hE:o0 G es er) (s:Tx) (hs:s.length < 2^40):ar prog G 118 [dS s] (rR (ri s)):=by
 have hpi:=VE G hE s hs
 have ab3:ri s=match Lib.atoiAll s with
  | .ok v=>if Lib.itoa v=s then some v else none
  | _=>none:=rfl
 unfold afB at hpi;refine ar.abS (al _) func118 rfl rfl (rs:=[.tmp 2,.tmp 3]) results118 (by simp[ntmps118]) fun X=>?_;simp only[ntmps118,List.map];have fw:=@afi;refine rgq fw [0] [] ?_
 cases hn:Lib.atoiAll s with
 | ok v=>
  rw[hn]at hpi ab3;dsimp only at hpi ab3;obtain⟨v0,v1⟩:=Lib.atoiAll_bounds hn;have hit:=P3 G hP v v0 v1;simp only[dS]at hit;generalize Lib.itoa v=iv at hit ab3;refine aT fw hpi [0,4,5] [] ?_;refine af fun K1 ax=>?_;by_cases hc:iv=s
  .rw[if_pos hc]at ab3;subst hc;refine rg [4,18] [] (fun _ _=>trivial) fun K' ae=>?_;(repeat (refine sxn fun K2 aa=>?_;simp[dS,aO,aY];(repeat (refine⟨by omega,?_⟩));refine aa _ ?_;clear aa K2));refine sxn fun K2 aa=>?_;simp[dS,aO,aY];refine ab8.data (hit) (by simp;rfl) (by first | exact D.abY _ | simp[aC,abU,abK,D.le,D.le.go,D.le_refl,D.abY,dS,aO,aY]) ?_;refine aa _ ?_;clear aa K2;simp only[aD,cz];(repeat (refine sxn fun K2 aa=>?_;simp[dS,aO,aY];(repeat (refine⟨by omega,?_⟩));refine aa _ ?_;clear aa K2));refine sxz (ae _ (AW.st (by simp[dS,aO,aY];rfl) ?_));clear ae K';refine abN rfl ?_;refine abO (ax _ ?_);refine rgq fw [2,3] [] ?_;refine ab1 ?_;simp[D.le,D.le.go,aC,dS,ab3,rR]
  .rw[if_neg hc]at ab3;refine rg [4,18] [] (fun _ _=>trivial) fun K' ae=>?_;(repeat (refine sxn fun K2 aa=>?_;simp[dS,aO,aY,hc];(repeat (refine⟨by omega,?_⟩));refine aa _ ?_;clear aa K2));refine sxn fun K2 aa=>?_;simp[dS,aO,aY,hc];refine ab8.data (hit) (by simp;rfl) (by first | exact D.abY _ | simp[aC,abU,abK,D.le,D.le.go,D.le_refl,D.abY,dS,aO,aY,hc]) ?_;refine aa _ ?_;clear aa K2;simp only[aD,cz];(repeat (refine sxn fun K2 aa=>?_;simp[dS,aO,aY,hc];(repeat (refine⟨by omega,?_⟩));refine aa _ ?_;clear aa K2));refine sxz (ae _ (AW.st (by simp[dS,aO,aY,hc];rfl) ?_));clear ae K';refine abP (by simp[hc]) ?_;refine rgq fw [2,3] [] ?_;refine ab1 ?_;simp[D.le,D.le.go,aC,dS,ab3,rR]
 | range=>
  rw[hn]at hpi ab3;dsimp only[pd]at hpi ab3;refine aT fw hpi [0,4,5] [] ?_;refine af fun K1 ax=>?_;refine rgq fw [4,18] [] ?_;refine abP rfl ?_;refine rgq fw [2,3] [] ?_;refine ab1 ?_;simp[D.le,D.le.go,aC,dS,ab3,rR]
 | _=>
  rw[hn]at hpi ab3;dsimp only[pd]at hpi ab3;refine aT fw hpi [0,4,5] [] ?_;refine af fun K1 ax=>?_;refine rgq fw [4,18] [] ?_;refine abP rfl ?_;refine rgq fw [2,3] [] ?_;refine ab1 ?_;simp[D.le,D.le.go,aC,dS,ab3,rR]
def tZ (l:List Tx) (n:Nat):k7:=match eB l n with
 | .inr s=>s
 | .inl _=>lH
theorem zb {l:List Tx} {n:Nat} {s:k7} (h:eB l n = .inr s):tZ l n=s:=by unfold tZ;rw[h]
theorem aan {t:Tx}:∀ w∈fz t,w≠[]:=by
 intro w h;unfold fz at h;rw[<- Bz]at h;have:=(List.mem_filter.1 h).2;simpa using this
theorem JV {l:List Tx} {s:Tx} {k:Nat} (hk:k < l.length) (h0:l[k]≠s):ixW l s≠k:=by
 intro e
 have h1:¬ ixW l s < 0:=by omega
 unfold ixW at e h1;obtain⟨j,hj,he,hs⟩:=pY h1;rw[he]at e
 have:j=k:=by omega
 subst this;exact h0 (by simpa using hs)
theorem O4 {t:Tx} (h:(61:UInt8)∈t):(cutAt 61 t).1.length+1+(cutAt 61 t).2.length=t.length/\(bs t).extract 0 (cutAt 61 t).1.length=bs (cutAt 61 t).1/\(bs t).extract ((cutAt 61 t).1.length+1) t.length=bs (cutAt 61 t).2:=by
 obtain⟨a,b,rfl,ha⟩:=adm h;rw[tM ha];refine⟨by simp;omega,?_,?_⟩
 .rw[Lib.extract_eq];simp[bs]
 .rw[Lib.extract_eq]
  have:(a ++ 61 :: b).drop (a.length+1)=b:=by
   rw[show a.length+1=(a ++ [(61:UInt8)]).length by simp,show a ++ (61:UInt8) :: b=(a ++ [61]) ++ b by simp,List.drop_left]
  simp only[bs];rw[this,sh (by simp;omega)]
theorem Uu:(61:UInt8).toNat=61:=rfl
theorem Yl (G:aq) (hF:qe G) (hM:adP G) (hP:ae1 G) {es er:Value} (hE:o0 G es er) (hNW:vH G) (mH:vI G) (t:Tx):ar prog G 59 [dS t] (.aW [cX (gG t).2,aci (gG t).1]):=by
 have IA:=yI G 4;simp only[ab]at IA;have H7:G 2=some (.ip [.v (.int .i64 0),.v (.int .i64 (-1))]):=hF;unfold vH at hNW;unfold vI at mH;refine ar.abS (al _) func59 rfl rfl (rs:=[.cell 2 29,.cell 3 124]) results59 (by simp[ntmps59]) fun X=>?_;simp only[ntmps59,List.map];have fw:=(Aq @afg @afi);refine rgq fw [0,2,3] [2,3] ?_;refine af fun K1 ax=>?_;by_cases ht:20000 < t.length
 .have nO:(t.length:Int) > 20000:=by omega
  have hp:gG t=(some (4,none),⟨[],[]⟩):=by unfold gG;rw[if_pos ht]
  have qf:=(Aq fw (Aq @bl @nO));refine abQ [0,2,3,23] [2,3] ?_;refine abP (by simp[nO]) ?_;refine aT fw IA [2,3] [2,3] ?_;exact aN (Aq fw (Aq @hp (Aq @af1 (Aq @af2 (Aq @afZ (Aq @afj (Aq @afm (Aq @afn (Aq @afo @afs)))))))))
 have nO:¬ (t.length:Int) > 20000:=by omega
 have qf:=(Aq fw (Aq @bl @nO));refine abQ [0,2,3,23] [2,3] ?_;refine abN (by simp[nO]) ?_;refine abO (ax _ ?_);refine rgq fw [0,2,3,4] [2,3,4] ?_;refine rgq fw [0,2,3,4,5,6] [2,3,4] ?_;refine rgq fw [0,2,3,4,5,6,7] [2,3,4] ?_;refine af fun K2 aa=>?_;have hsp:=Md G hM t 10 (by omega);obtain⟨l,hl⟩:∃ l,l=acx 10 t:=⟨_,rfl⟩;have DG:=yV 10 t;rw[<- hl]at hsp DG;simp only[dS]at hsp;have qf:=(Aq fw @Ki);refine dr hsp [2,3,4,5,6,7,27,28,29] [2,3,4] ?_;refine AW.imp (aB.ky 5 803 3 1 rfl rfl) ?_;refine AW.st (by simp;rfl) ?_;refine AW.imp (aB.ky 6 804 3 1 rfl rfl) ?_;refine AW.st (by simp;rfl) ?_;refine AW.imp (aB.nj 4 0 801 140 3 rfl rfl rfl) ?_;refine AW.st (by simp;rfl) ?_;refine AW.imp (aB.nj 4 1 802 142 3 rfl rfl rfl) ?_;refine AW.st (by simp;rfl) ?_;obtain⟨NN,qD⟩:∃ f:Nat->List (List D),f=fun n=>(tZ l n).names.map cNm:=⟨_,rfl⟩;obtain⟨RR,pr⟩:∃ f:Nat->List (List D),f=fun n=>(tZ l n).ao.map cL:=⟨_,rfl⟩;obtain⟨NA,ue⟩:∃ f:Nat->List (List D),f=fun n=>cA (tZ l n).gE:=⟨_,rfl⟩;obtain⟨RA,ug⟩:∃ f:Nat->List (List D),f=fun n=>cA (tZ l n).gI:=⟨_,rfl⟩;obtain⟨PL,Ih⟩:∃ f:Nat->Int,f=fun n=>(gH l n:Int):=⟨_,rfl⟩
 have wA:∀ n s,eB l n = .inr s->NN n=s.names.map cNm:=fun n s h=>by rw[qD];dsimp only;rw[zb h]
 have wG:∀ n s,eB l n = .inr s->RR n=s.ao.map cL:=fun n s h=>by rw[pr];dsimp only;rw[zb h]
 have wy:∀ n s,eB l n = .inr s->NA n=cA s.gE:=fun n s h=>by rw[ue];dsimp only;rw[zb h]
 have wE:∀ n s,eB l n = .inr s->RA n=cA s.gI:=fun n s h=>by rw[ug];dsimp only;rw[zb h]
 have CV:∀ n,PL n=(gH l n:Int):=fun n=>by rw[Ih]
 have z1:NN 0=[]:=wA 0 lH rfl;have z2:RR 0=[]:=wG 0 lH rfl;have z3:NA 0=[]:=wy 0 lH rfl;have z4:RA 0=[]:=wE 0 lH rfl;have z5:PL 0=0:=CV 0;clear qD pr ue ug Ih;refine bQ (S:=Nat) (fun n=>n<=l.length/\∃ s,eB l n = .inr s) (fun n=>⟨aV [(2,.ref 2 0 0),(3,.ref 3 0 0),(4,.ref 4 0 0),(5,.own 803 0 (NA n).length),(6,.own 804 0 (RA n).length),(7,int (PL n)),(27,.d (.sl (some true) (l.map fun s=>[.v (.string (bs s))]))),(28,int l.length),(29,int n)],ak [(2,.box 29 [.d oM,.d oM]),(3,.box 124 [.d (.v (.int .i64 0)),.d (.v (.int .i64 0))]),(4,.box 29 [.own 801 0 (NN n).length,.own 802 0 (RR n).length]),(801,.sl 140 3 (NN n)),(802,.sl 142 3 (RR n)),(803,.sl 3 1 (NA n)),(804,.sl 3 1 (RA n))]⟩) (fun n=>l.length - n) 0 ?_ ⟨by omega,lH,rfl⟩ ?_
 .refine aB.to' (fun _ _=>trivial) (by simp[ab,dS,z1,z2,z3,z4,z5,oM]) (by simp[ab,dS,z1,z2,z3,z4,z5,oM])
 .rintro n ⟨hn0,s,hs⟩;refine rgq fw [2,3,4,5,6,7,27,28,29,30] [2,3,4,801,802,803,804] ?_;refine af fun K3 aQ=>?_;by_cases au:n < l.length
  .refine abP (by simp[au]) ?_;refine abO (aQ _ ?_);refine af fun K4 bK=>?_;refine aR ?_
   have SA:gH l n+l[n].length<=t.length:=by subst hl;exact ag0 au
   have dt:PL (n+1)=(gH l n:Int)+((l[n].length:Int)+1):=by rw[CV,Fo au];omega
   have hok:=agv (t:=t) (by omega) (Nat.le_of_lt (hl ▸ au)) (hl ▸ hs);have eH:∀ s',iq s (gH l n) l[n] = .inr s'->eB l (n+1) = .inr s':=fun s' h=>ahf au hs h;have adT:∀ c i,iq s (gH l n) l[n] = .inl (c,i)->gG t=(some (c,some i),⟨[],[]⟩):=fun c i h=>Fg (by omega) (hl ▸ ahe au hs h);obtain⟨hnl,hrl,fj,_,_⟩:=hok
   have QL:(NN n).length=s.names.length:=by rw[wA n s hs];simp
   have QT:(RR n).length=s.ao.length:=by rw[wG n s hs];simp
   have QM:(NA n).length=s.names.length:=by rw[wy n s hs];simp[cA,hnl]
   have r6:(RA n).length=s.ao.length:=by rw[wE n s hs];simp[cA,hrl]
   have wz:=fun s' h=>wA (n+1) s' h;have wF:=fun s' h=>wG (n+1) s' h;have wx:=fun s' h=>wy (n+1) s' h;have wD:=fun s' h=>wE (n+1) s' h;have b1:=(wA n s hs).symm;have b2:=(wG n s hs).symm;have b3:=(wy n s hs).symm;have b4:=(wE n s hs).symm;rw[CV n];have uL:=MS G hM l[n] (by omega);have Rw:=fun c=>YM G l[n] c
   have lr:∀ x,x=l[n]->x.length<=20000:=fun x h=>by rw[h];omega
   have qf:=(Aq fw @au);refine abQ [2,3,4,5,6,7,9,27,28,29] [2,3,4,801,802,803,804] ?_;generalize hlx:l[n]=ln at *;generalize uE:gH l n=pk at *;generalize NN n=N1 at *;generalize RR n=R1 at *;generalize NA n=A1 at *;generalize RA n=A2 at *;refine rgq fw [2,3,4,5,6,7,9,10,27,28,29] [2,3,4,801,802,803,804] ?_;have qf:=(Aq fw @bl);refine abQ [2,3,4,5,6,7,9,10,27,28,29] [2,3,4,801,802,803,804] ?_;refine af fun K5 bB=>?_;have xq:=fun w h=>BC (t:=ln) (w:=w) h;have jT:=agP ln;by_cases h0:fz ln=[]
   .have cU:iq s pk ln = .inr s:=by unfold iq;rw[if_pos h0]
    have hn:=eH _ cU;rw[h0]at uL;simp only[dS]at uL;refine aT fw uL [2,3,4,5,6,7,9,10,27,28,29,42] [2,3,4,801,802,803,804] ?_;refine abP rfl ?_;refine bx (bK _ ?_);refine reQ fw ?_;(try simp only[aJ,aL]);refine aS.mk (n+1) ⟨by omega,s,hn⟩ (by omega) ?_;have e1:=wz _ hn;have e2:=wF _ hn;have e3:=wx _ hn;have e4:=wD _ hn;rw[b1]at e1;rw[b2]at e2;rw[b3]at e3;rw[b4]at e4;refine aB.to' (fun _ _=>trivial) (by simp[ab,dS,e1,e2,e3,e4,dt]) (by simp[ab,dS,e1,e2,e3,e4,dt])
   have ez:iq s pk ln=match e7 ln with
    | .form=>.inl (3,pk)
    | .bad c off=>.inl (c,pk+off)
    | .name n=>if s.ao=[] then .inr ⟨s.names ++ [n],s.gE ++ [pk],s.ao,s.gI⟩ else .inl (3,pk)
    | .lK r=>.inr ⟨s.names,s.gE,s.ao ++ [r],s.gI ++ [pk]⟩:=by unfold iq;rw[if_neg h0];cases e7 ln<;>rfl
   have ew:e7 ln=if (61:UInt8)∈ln then mh (cutAt 61 ln).1 (cutAt 61 ln).2 (fz (cutAt 61 ln).1) else ad4 (fz ln):=rfl;have hwp:0 < (fz ln).length:=adM.2 h0;have fL:=Rw 61;simp only[Uu,dS,ab]at fL;generalize lA:fz ln=ws at *
   have aaN:(ws.map fun s=>[dS s]).length=ws.length:=by simp
   have l6:¬ (ws.length:Int)=0:=by omega
   simp only[dS]at uL;have qf:=(Aq fw (Aq @l6 @h0));refine dr uL [2,3,4,5,6,7,9,10,27,28,29,42] [2,3,4,801,802,803,804] ?_;refine abN (by simp[l6,h0]) ?_;refine abO (bB _ ?_);by_cases qA:(61:UInt8)∈ln
   .rw[if_pos qA]at ew fL;have hle:=yU 61 ln;have hcp:=O4 qA;have sS:=MS G hM (cutAt 61 ln).1 (by omega);have fM:=Yj G hF (cutAt 61 ln).2 (by omega);have S8:=aan (t:=(cutAt 61 ln).1);generalize (cutAt 61 ln).1=hd at *;generalize (cutAt 61 ln).2=rest at *;obtain⟨hcl,zW,jU⟩:=hcp
    have zM:¬ (-1:Int) > 0:=by omega
    simp only[dS]at sS fM;refine aT fw fL [2,3,4,5,6,7,9,10,11,27,28,29] [2,3,4,801,802,803,804] ?_;refine af fun K6 cq=>?_;refine rgq fw [2,3,4,5,6,7,9,10,11,27,28,29,46] [2,3,4,801,802,803,804] ?_;refine abP (by simp) ?_;have qf:=(Aq fw (Aq @bl @zW));refine dr sS [2,3,4,5,6,7,9,10,11,12,27,28,29] [2,3,4,801,802,803,804] ?_;refine rgq fw [2,3,4,5,6,7,9,10,11,12,13,27,28,29] [2,3,4,13,801,802,803,804] ?_
    match hwx:fz hd,S8 with
    | [],_=>
     rw[hwx]at ew;simp only[hwx,aeX];refine af fun K7 de=>?_;refine rgq fw [2,3,4,5,6,7,9,10,11,12,13,27,28,29,53] [2,3,4,13,801,802,803,804] ?_;refine aR ?_;refine rgq fw [2,3,4,5,6,7,9,10,11,12,13,27,28,29,53,54] [2,3,4,13,801,802,803,804] ?_;refine abN rfl ?_;refine rgq fw [2,3,4,5,6,7,9,10,11,12,13,27,28,29,60] [2,3,4,13,801,802,803,804] ?_;refine abN rfl ?_;refine abO (de _ ?_);have hp:=adT 3 pk (by rw[ez,ew];try rfl);refine af fun K8 dz=>?_;have qf:=(Aq fw @hcl);refine abQ [2,3,4,5,6,7,9,10,11,13,27,28,29,84] [2,3,4,13,801,802,803,804] ?_;refine abP (by simp[hcl]) ?_;refine rgq fw [2,3] [2,3] ?_;exact aN (Aq fw (Aq @hp (Aq @af1 (Aq @af2 (Aq @afZ (Aq @afj (Aq @afm (Aq @afn (Aq @afo @afs)))))))))
    | [a],_=>
     rw[hwx]at ew;have bq:True:=trivial;simp only[hwx,aeX,acJ];refine af fun K7 de=>?_;refine rgq fw [2,3,4,5,6,7,9,10,11,12,13,27,28,29,53] [2,3,4,13,801,802,803,804] ?_;refine aR ?_;refine rgq fw [2,3,4,5,6,7,9,10,11,12,13,27,28,29,53,54] [2,3,4,13,801,802,803,804] ?_;refine abP rfl ?_;refine reK fw de [2,3,4,5,6,7,9,10,11,12,13,27,28,29] [2,3,4,13,801,802,803,804] ?_;refine af fun K8 dz=>?_;have qf:=(Aq fw @bq);refine abQ [2,3,4,5,6,7,9,10,11,13,27,28,29,84] [2,3,4,13,801,802,803,804] ?_;refine abN (by simp[bq]) ?_;refine abO (dz _ ?_);have hrl:e7 ln=jE 1 a hd rest:=ew;unfold jE at hrl
     cases dL:(fF rest).2 with
     | some ci=>
      obtain⟨c,o⟩:=ci;have ic:=Fi dL
      have dA:¬ c=0:=by omega
      rw[dL]at fM hrl;dsimp only at hrl;have hp:=adT c (pk+(hd.length+1+o.getD 0)) (by rw[ez,hrl])
      cases o with
      | none=>
       simp only[aci,codeF,bw,ab]at fM
       have b8:((pk+(hd.length+1+(none:Option Nat).getD 0):Nat):Int)=(pk:Int)+(hd.length:Int)+1:=by simp;omega
       rw[show (some (pk+(hd.length+1+(none:Option Nat).getD 0)))=some (pk+(hd.length+1+(none:Option Nat).getD 0)) from rfl]at hp;have qf:=(Aq fw (Aq @bl @jU));refine dr fM [2,3,4,5,6,7,10,11,13,14,15,27,28,29] [2,3,4,13,15,801,802,803,804] ?_;refine af fun K9 hK9=>?_;have qf:=(Aq fw @dA);refine abQ [2,3,4,5,6,7,10,11,13,14,15,27,28,29,98] [2,3,4,13,15,801,802,803,804] ?_;refine abP (by simp[dA]) ?_;refine aet (al _) (by kernel_rfl) [(2,15),(8,15),(12,2),(13,3)] [2,3] [2,3,13,15] (fun _ _=>trivial) (by kernel_rfl) fun K' ae=>?_;(repeat (refine gl fun K2 aa=>?_;simp[ab,dS,zM];(repeat (refine⟨by omega,?_⟩));refine aa _ ?_;clear aa K2));refine adw (ae _ ?_);refine AW.st (by simp[ab,dS,zM];rfl) ?_;clear ae K';refine ab1 ?_;simp[D.le,D.le.go,aC,ab,dS,hp,cX,eu,bO,aci,codeF,bw,b8];omega
      | some o=>
       have nF:=xX dL;simp only[aci,codeF,bw,ab]at fM
       have b8:((pk+(hd.length+1+(some o).getD 0):Nat):Int)=(pk:Int)+(hd.length:Int)+1+(o:Int):=by simp;omega
       have w8:¬ (o:Int) < 0:=by omega
       have qf:=(Aq fw (Aq @bl @jU));refine dr fM [2,3,4,5,6,7,10,11,13,14,15,27,28,29] [2,3,4,13,15,801,802,803,804] ?_;refine af fun K9 hK9=>?_;have qf:=(Aq fw @dA);refine abQ [2,3,4,5,6,7,10,11,13,14,15,27,28,29,98] [2,3,4,13,15,801,802,803,804] ?_;refine abP (by simp[dA]) ?_;refine aet (al _) (by kernel_rfl) [(2,15),(8,15),(12,2),(13,3)] [2,3] [2,3,13,15] (fun _ _=>trivial) (by kernel_rfl) fun K' ae=>?_;(repeat (refine gl fun K2 aa=>?_;simp[ab,dS,w8];(repeat (refine⟨by omega,?_⟩));refine aa _ ?_;clear aa K2));refine adw (ae _ ?_);refine AW.st (by simp[ab,dS,w8];rfl) ?_;clear ae K';refine ab1 ?_;simp[D.le,D.le.go,aC,ab,dS,hp,cX,eu,bO,aci,codeF,bw,b8];split<;>omega
     | none=>
      rw[dL]at fM hrl;dsimp only at hrl;obtain⟨e,DU⟩:=xY dL;rw[DU]at fM hrl;have hn:=eH _ (by rw[ez,hrl])
      have gB:(s.ao ++ [(⟨1,a,some e⟩:fI)]).map cL=R1 ++ [[.v (.int .i64 1),.v (.string (bs a)),dR e]]:=by rw[ac5,b2];rfl
      have dB:cA (s.gI ++ [pk])=A2 ++ [[.v (.int .i64 pk)]]:=by rw[tP,b4];rfl
      obtain⟨cs,Dh⟩:=tQ e;simp only[aci,codeF,bw,ab,iP]at fM;rw[Dh]at fM gB;have qf:=(Aq fw (Aq @bl @jU));refine dr fM [2,3,4,5,6,7,10,11,13,14,15,27,28,29] [2,3,4,13,15,801,802,803,804] ?_;refine af fun K9 hK9=>?_;refine rgq fw [2,3,4,5,6,7,10,11,13,14,15,27,28,29,98] [2,3,4,13,15,801,802,803,804] ?_;refine abN rfl ?_;refine abO (hK9 _ ?_);refine rgq fw [2,3,4,5,6,7,10,13,27,28,29] [2,3,4,13,801,802,803,804] ?_;refine rg [2,3,4,5,6,7,27,28,29] [2,3,4,801,802,803,804] (fun _ _=>trivial) fun K' ae=>?_;(repeat (refine sxn fun K2 aa=>?_;simp[ab,dS,sh];(repeat (refine⟨by omega,?_⟩));refine aa _ ?_;clear aa K2));refine sxz (ae _ (AW.st (by simp[ab,dS,sh];rfl) ?_));clear ae K';refine bx (bK _ ?_);refine reQ fw ?_;(try simp only[aJ,aL]);refine aS.mk (n+1) ⟨by omega,_,hn⟩ (by omega) ?_;have e1:=wz _ hn;have e2:=wF _ hn;have e3:=wx _ hn;have e4:=wD _ hn
      try dsimp only at e1 e2 e3 e4
      rw[b1]at e1;rw[gB]at e2;rw[b3]at e3;rw[dB]at e4;refine aB.to' (fun _ _=>trivial) (by simp[ab,dS,e1,e2,e3,e4,dt]) (by simp[ab,dS,e1,e2,e3,e4,dt])
    | [a,b],C5=>
     rw[hwx]at ew;simp only[hwx,aeX,acJ];have ha:=C5 a (by simp);have hix:ar prog G 117 [.sl none [[.v (.string (bs []))],[.v (.string (bs []))],[.v (.string (bs [115,101,116]))],[.v (.string (bs [114,101,115,101,116]))],[.v (.string (bs [114,117,110]))],[.v (.string (bs [99,111,117,110,116]))],[.v (.string (bs [122,101,114,111]))]],.v (.string (bs a))] (.v (.int .i64 (ixW kS a))):=EC G none kS a ha (by decide);have aaK:ixW kS a≠0:=JV (l:=kS) (k:=0) (by decide) (fun h=>ha h.symm);have aaL:ixW kS a≠1:=JV (l:=kS) (k:=1) (by decide) (fun h=>ha h.symm);have hbd:=Ac kS a;refine af fun K7 de=>?_;refine rgq fw [2,3,4,5,6,7,9,10,11,12,13,27,28,29,53] [2,3,4,13,801,802,803,804] ?_;refine aR ?_;refine rgq fw [2,3,4,5,6,7,9,10,11,12,13,27,28,29,53,54] [2,3,4,13,801,802,803,804] ?_;refine abN rfl ?_;refine rgq fw [2,3,4,5,6,7,9,10,11,12,13,27,28,29,60] [2,3,4,13,801,802,803,804] ?_;refine abP rfl ?_;refine ae0 (al _) (by kernel_rfl) [(2,999),(3,999),(6,999),(7,999),(9,13),(11,13)] (by kernel_rfl) fun K' ae=>?_;(repeat (refine gl fun K2 aa=>?_;simp[ab,dS,mH];(repeat (refine⟨by omega,?_⟩));refine aa _ ?_;clear aa K2));refine gl fun K2 aa=>?_;simp[ab,dS,mH];refine jm.data (hix) (by simp;rfl) (by simp;rfl) (by first | exact D.abY _ | simp[aC,abU,abK,D.le,D.le.go,D.le_refl,D.abY,ab,dS,mH]) ?_;refine aa _ ?_;clear aa K2;simp only[aD,cz];(repeat (refine gl fun K2 aa=>?_;simp[ab,dS,mH];(repeat (refine⟨by omega,?_⟩));refine aa _ ?_;clear aa K2));refine adw (ae _ ?_);clear ae K';refine de _ (AW.norm [2,3,4,5,6,7,9,10,11,12,13,27,28,29] [2,3,4,13,801,802,803,804] (fun _ _=>trivial) (AW.st (by simp[ab,dS,mH];rfl) ?_));simp only[mh]at ew;generalize ixW kS a=kk at *;by_cases hk2:kk < 2
     .rw[if_pos hk2]at ew
      have bq:kk < 1:=by omega
      have hp:=adT 3 pk (by rw[ez,ew];try rfl);refine af fun K8 dz=>?_;have qf:=(Aq fw @bq);refine abQ [2,3,4,5,6,7,9,10,11,13,27,28,29,84] [2,3,4,13,801,802,803,804] ?_;refine abP (by simp[bq]) ?_;refine rgq fw [2,3] [2,3] ?_;exact aN (Aq fw (Aq @hp (Aq @af1 (Aq @af2 (Aq @afZ (Aq @afj (Aq @afm (Aq @afn (Aq @afo @afs)))))))))
     .rw[if_neg hk2]at ew
      have bq:¬ kk < 1:=by omega
      refine af fun K8 dz=>?_;have qf:=(Aq fw @bq);refine abQ [2,3,4,5,6,7,9,10,11,13,27,28,29,84] [2,3,4,13,801,802,803,804] ?_;refine abN (by simp[bq]) ?_;refine abO (dz _ ?_);have hrl:e7 ln=jE kk b hd rest:=ew;unfold jE at hrl
      cases dL:(fF rest).2 with
      | some ci=>
       obtain⟨c,o⟩:=ci;have ic:=Fi dL
       have dA:¬ c=0:=by omega
       rw[dL]at fM hrl;dsimp only at hrl;have hp:=adT c (pk+(hd.length+1+o.getD 0)) (by rw[ez,hrl])
       cases o with
       | none=>
        simp only[aci,codeF,bw,ab]at fM
        have b8:((pk+(hd.length+1+(none:Option Nat).getD 0):Nat):Int)=(pk:Int)+(hd.length:Int)+1:=by simp;omega
        rw[show (some (pk+(hd.length+1+(none:Option Nat).getD 0)))=some (pk+(hd.length+1+(none:Option Nat).getD 0)) from rfl]at hp;have qf:=(Aq fw (Aq @bl @jU));refine dr fM [2,3,4,5,6,7,10,11,13,14,15,27,28,29] [2,3,4,13,15,801,802,803,804] ?_;refine af fun K9 hK9=>?_;have qf:=(Aq fw @dA);refine abQ [2,3,4,5,6,7,10,11,13,14,15,27,28,29,98] [2,3,4,13,15,801,802,803,804] ?_;refine abP (by simp[dA]) ?_;refine aet (al _) (by kernel_rfl) [(2,15),(8,15),(12,2),(13,3)] [2,3] [2,3,13,15] (fun _ _=>trivial) (by kernel_rfl) fun K' ae=>?_;(repeat (refine gl fun K2 aa=>?_;simp[ab,dS,zM];(repeat (refine⟨by omega,?_⟩));refine aa _ ?_;clear aa K2));refine adw (ae _ ?_);refine AW.st (by simp[ab,dS,zM];rfl) ?_;clear ae K';refine ab1 ?_;simp[D.le,D.le.go,aC,ab,dS,hp,cX,eu,bO,aci,codeF,bw,b8];omega
       | some o=>
        have nF:=xX dL;simp only[aci,codeF,bw,ab]at fM
        have b8:((pk+(hd.length+1+(some o).getD 0):Nat):Int)=(pk:Int)+(hd.length:Int)+1+(o:Int):=by simp;omega
        have w8:¬ (o:Int) < 0:=by omega
        have qf:=(Aq fw (Aq @bl @jU));refine dr fM [2,3,4,5,6,7,10,11,13,14,15,27,28,29] [2,3,4,13,15,801,802,803,804] ?_;refine af fun K9 hK9=>?_;have qf:=(Aq fw @dA);refine abQ [2,3,4,5,6,7,10,11,13,14,15,27,28,29,98] [2,3,4,13,15,801,802,803,804] ?_;refine abP (by simp[dA]) ?_;refine aet (al _) (by kernel_rfl) [(2,15),(8,15),(12,2),(13,3)] [2,3] [2,3,13,15] (fun _ _=>trivial) (by kernel_rfl) fun K' ae=>?_;(repeat (refine gl fun K2 aa=>?_;simp[ab,dS,w8];(repeat (refine⟨by omega,?_⟩));refine aa _ ?_;clear aa K2));refine adw (ae _ ?_);refine AW.st (by simp[ab,dS,w8];rfl) ?_;clear ae K';refine ab1 ?_;simp[D.le,D.le.go,aC,ab,dS,hp,cX,eu,bO,aci,codeF,bw,b8];split<;>omega
      | none=>
       rw[dL]at fM hrl;dsimp only at hrl;obtain⟨e,DU⟩:=xY dL;rw[DU]at fM hrl;have hn:=eH _ (by rw[ez,hrl])
       have gB:(s.ao ++ [(⟨kk,b,some e⟩:fI)]).map cL=R1 ++ [[.v (.int .i64 kk),.v (.string (bs b)),dR e]]:=by rw[ac5,b2];rfl
       have dB:cA (s.gI ++ [pk])=A2 ++ [[.v (.int .i64 pk)]]:=by rw[tP,b4];rfl
       obtain⟨cs,Dh⟩:=tQ e;simp only[aci,codeF,bw,ab,iP]at fM;rw[Dh]at fM gB;have qf:=(Aq fw (Aq @bl @jU));refine dr fM [2,3,4,5,6,7,10,11,13,14,15,27,28,29] [2,3,4,13,15,801,802,803,804] ?_;refine af fun K9 hK9=>?_;refine rgq fw [2,3,4,5,6,7,10,11,13,14,15,27,28,29,98] [2,3,4,13,15,801,802,803,804] ?_;refine abN rfl ?_;refine abO (hK9 _ ?_);refine rgq fw [2,3,4,5,6,7,10,13,27,28,29] [2,3,4,13,801,802,803,804] ?_;refine rg [2,3,4,5,6,7,27,28,29] [2,3,4,801,802,803,804] (fun _ _=>trivial) fun K' ae=>?_;(repeat (refine sxn fun K2 aa=>?_;simp[ab,dS,sh];(repeat (refine⟨by omega,?_⟩));refine aa _ ?_;clear aa K2));refine sxz (ae _ (AW.st (by simp[ab,dS,sh];rfl) ?_));clear ae K';refine bx (bK _ ?_);refine reQ fw ?_;(try simp only[aJ,aL]);refine aS.mk (n+1) ⟨by omega,_,hn⟩ (by omega) ?_;have e1:=wz _ hn;have e2:=wF _ hn;have e3:=wx _ hn;have e4:=wD _ hn
       try dsimp only at e1 e2 e3 e4
       rw[b1]at e1;rw[gB]at e2;rw[b3]at e3;rw[dB]at e4;refine aB.to' (fun _ _=>trivial) (by simp[ab,dS,e1,e2,e3,e4,dt]) (by simp[ab,dS,e1,e2,e3,e4,dt])
    | a :: b :: c :: r,_=>
     rw[hwx]at ew;simp only[hwx,acJ]
     have gO:¬ ((r.length:Int)+1+1+1=1):=by omega
     have eS:¬ ((r.length:Int)+1+1+1=2):=by omega
     have xf:¬ ((r.length:Int)+1+1+1 < 1):=by omega
     have Jg:(r.length:Int)+1+1+1 > 2:=by omega
     refine af fun K7 de=>?_;refine rgq fw [2,3,4,5,6,7,9,10,11,12,13,27,28,29,53] [2,3,4,13,801,802,803,804] ?_;refine aR ?_;have qf:=(Aq fw @gO);refine abQ [2,3,4,5,6,7,9,10,11,12,13,27,28,29,53,54] [2,3,4,13,801,802,803,804] ?_;refine abN (by simp[gO]) ?_;have qf:=(Aq fw @eS);refine abQ [2,3,4,5,6,7,9,10,11,12,13,27,28,29,60] [2,3,4,13,801,802,803,804] ?_;refine abN (by simp[eS]) ?_;refine abO (de _ ?_);have hp:=adT 3 pk (by rw[ez,ew];try rfl);refine af fun K8 dz=>?_;have qf:=(Aq fw (Aq @xf @Jg));refine abQ [2,3,4,5,6,7,9,10,11,13,27,28,29,84] [2,3,4,13,801,802,803,804] ?_;refine abP (by simp[xf,Jg]) ?_;refine rgq fw [2,3] [2,3] ?_;exact aN (Aq fw (Aq @hp (Aq @af1 (Aq @af2 (Aq @afZ (Aq @afj (Aq @afm (Aq @afn (Aq @afo @afs)))))))))
   .rw[if_neg qA]at ew fL;refine aT fw fL [2,3,4,5,6,7,9,10,11,27,28,29] [2,3,4,801,802,803,804] ?_;refine af fun K6 cq=>?_;refine rgq fw [2,3,4,5,6,7,9,10,11,27,28,29,46] [2,3,4,801,802,803,804] ?_;refine abN rfl ?_;refine abO (cq _ ?_);refine aT fw uL [2,3,4,5,6,7,10,16,27,28,29] [2,3,4,801,802,803,804] ?_
    obtain⟨a,r,rfl⟩:∃ a r,ws=a :: r:=by
     cases ws with
     | nil=>exact absurd rfl h0
     | cons a r=>exact⟨a,r,rfl⟩
    have ha:=(xq a (by simp)).1;have hix:ar prog G 117 [.sl none [[.v (.string (bs []))],[.v (.string (bs [105,110,112,117,116]))],[.v (.string (bs [99,111,105,108]))],[.v (.string (bs [116,105,109,101,114]))],[.v (.string (bs [99,111,117,110,116,101,114]))]],.v (.string (bs a))] (.v (.int .i64 (ixW kwN a))):=EC G none kwN a ha (by decide);have hbd:=Ac kwN a;simp only[ad4]at ew;generalize ixW kwN a=kk at *;simp only[acJ];refine aet (al _) (by kernel_rfl) [(2,999),(3,999),(7,17)] [2,3,4,5,6,7,10,16,17,27,28,29] [2,3,4,17,801,802,803,804] (fun _ _=>trivial) (by kernel_rfl) fun K' ae=>?_;(repeat (refine gl fun K2 aa=>?_;simp[ab,dS,hNW];(repeat (refine⟨by omega,?_⟩));refine aa _ ?_;clear aa K2));refine gl fun K2 aa=>?_;simp[ab,dS,hNW];refine jm.data (hix) (by simp;rfl) (by simp;rfl) (by first | exact D.abY _ | simp[aC,abU,abK,D.le,D.le.go,D.le_refl,D.abY,ab,dS,hNW]) ?_;refine aa _ ?_;clear aa K2;simp only[aD,cz];(repeat (refine gl fun K2 aa=>?_;simp[ab,dS,hNW];(repeat (refine⟨by omega,?_⟩));refine aa _ ?_;clear aa K2));refine adw (ae _ ?_);refine AW.st (by simp[ab,dS,hNW];rfl) ?_;clear ae K'
    have hrl:((r.map fun s=>[D.v (.string (bs s))]).length:Int)=(r.length:Int):=by simp
    by_cases k1:kk < 1
    .have iY:e7 ln = .form:=by
      rw[ew]
      match r with
      | []=>rfl
      | [b]=>rw[eT,if_neg (by omega)]
      | [b,c]=>rw[eT,if_neg (by omega)]
      | b :: c :: d :: r=>rfl
     have hp:=adT 3 pk (by rw[ez,iY]);refine af fun K10 dy=>?_;have qf:=(Aq fw @k1);refine abQ [2,3,4,5,6,7,10,16,17,27,28,29,153] [2,3,4,17,801,802,803,804] ?_;refine abP (by simp[k1]) ?_;refine rgq fw [2,3] [2,3] ?_;exact aN (Aq fw (Aq @hp (Aq @af1 (Aq @af2 (Aq @afZ (Aq @afj (Aq @afm (Aq @afn (Aq @afo @afs)))))))))
    by_cases k3:kk < 3
    .have gb:¬ kk >= 3:=by omega
     match r,ew with
     | [b],ew=>
      have iY:e7 ln = .name ⟨b,kk,0⟩:=by rw[ew,eT,if_pos (by omega)]
      simp only[acJ,aeX];refine af fun K10 dy=>?_;have qf:=(Aq fw (Aq @k1 (Aq @k3 @gb)));refine abQ [2,3,4,5,6,7,10,16,17,27,28,29,153] [2,3,4,17,801,802,803,804] ?_;refine abN (by simp[k1,k3,gb]) ?_;refine abO (dy _ ?_);refine rgq fw [2,3,4,5,6,7,10,16,17,27,28,29] [2,3,4,17,801,802,803,804] ?_;refine af fun K11 j9=>?_;have qf:=(Aq fw (Aq @k1 (Aq @k3 @gb)));refine abQ [2,3,4,5,6,7,10,16,17,27,28,29,163] [2,3,4,17,801,802,803,804] ?_;refine abN (by simp[gb]) ?_;refine abO (j9 _ ?_);refine af fun j2 eZ=>?_;by_cases jR:s.ao=[]
      .have hn:=eH _ (by rw[ez,iY];exact if_pos jR);have ly:A2=[]:=aeu.1 (by rw[r6,jR];rfl)
       have gB:(s.names ++ [(⟨b,kk,0⟩:eM)]).map cNm=N1 ++ [[.v (.string (bs b)),.v (.int .i64 kk),.v (.int .i64 0)]]:=by rw[ac5,b1];rfl
       have dB:cA (s.gE ++ [pk])=A1 ++ [[.v (.int .i64 pk)]]:=by rw[tP,b3];rfl
       subst ly;refine rgq fw [2,3,4,5,6,7,10,17,27,28,29,180] [2,3,4,17,801,802,803,804] ?_;refine abN rfl ?_;refine abO (eZ _ ?_);refine cR (al _) fun K' ae=>?_;(repeat (refine sxn fun K2 aa=>?_;simp[ab,dS,sh];(repeat (refine⟨by omega,?_⟩));refine aa _ ?_;clear aa K2));refine sxz (ae _ ?_);clear ae K';refine bK _ (AW.norm [2,3,4,5,6,7,27,28,29] [2,3,4,801,802,803,804] (fun _ _=>trivial) (AW.st (by simp[ab,dS,sh];rfl) ?_));refine reQ fw ?_;(try simp only[aJ,aL]);refine aS.mk (n+1) ⟨by omega,_,hn⟩ (by omega) ?_;have e1:=wz _ hn;have e2:=wF _ hn;have e3:=wx _ hn;have e4:=wD _ hn
       try dsimp only at e1 e2 e3 e4
       rw[gB]at e1;rw[b2]at e2;rw[dB]at e3;rw[b4]at e4;refine aB.to' (fun _ _=>trivial) (by simp[ab,dS,e1,e2,e3,e4,dt]) (by simp[ab,dS,e1,e2,e3,e4,dt])
      .have hp:=adT 3 pk (by rw[ez,iY];exact if_neg jR)
       have ly:0 < A2.length:=by rw[r6];exact adM.2 jR
       have qf:=(Aq fw @ly);refine abQ [2,3,4,5,6,7,10,17,27,28,29,180] [2,3,4,17,801,802,803,804] ?_;refine abP (by simp[ly]) ?_;refine rgq fw [2,3] [2,3] ?_;exact aN (Aq fw (Aq @hp (Aq @af1 (Aq @af2 (Aq @afZ (Aq @afj (Aq @afm (Aq @afn (Aq @afo @afs)))))))))
     | [],ew=>
      have iY:e7 ln = .form:=ew;simp only[aeX];have hp:=adT 3 pk (by rw[ez,iY]);refine af fun K10 dy=>?_;have qf:=(Aq fw (Aq @k1 @k3));refine abQ [2,3,4,5,6,7,10,16,17,27,28,29,153] [2,3,4,17,801,802,803,804] ?_;refine abP (by simp[k1,k3]) ?_;refine rgq fw [2,3] [2,3] ?_;exact aN (Aq fw (Aq @hp (Aq @af1 (Aq @af2 (Aq @afZ (Aq @afj (Aq @afm (Aq @afn (Aq @afo @afs)))))))))
     | b :: c :: r,ew=>
      have iY:e7 ln = .form:=by
       rw[ew]
       match r with
       | []=>rw[eT,if_neg (by omega)]
       | d :: r=>rfl
      have hq:¬ ((r.length:Int)+1+1+1=2):=by omega
      simp only[acJ];have hp:=adT 3 pk (by rw[ez,iY]);refine af fun K10 dy=>?_;have qf:=(Aq fw (Aq @k1 (Aq @k3 @hq)));refine abQ [2,3,4,5,6,7,10,16,17,27,28,29,153] [2,3,4,17,801,802,803,804] ?_;refine abP (by simp[k1,k3,hq]) ?_;refine rgq fw [2,3] [2,3] ?_;exact aN (Aq fw (Aq @hp (Aq @af1 (Aq @af2 (Aq @afZ (Aq @afj (Aq @afm (Aq @afn (Aq @afo @afs)))))))))
    have gb:kk >= 3:=by omega
    match r,ew with
    | [b,c],ew=>
     have hcl:c.length<=20000:=by have:=(xq c (by simp)).2;omega
     have kL:=Ye G hP hE c (by omega);simp only[dS]at kL;simp only[eT,if_pos gb]at ew;simp only[acJ,aeX];refine af fun K10 dy=>?_;have qf:=(Aq fw (Aq @k1 (Aq @k3 @gb)));refine abQ [2,3,4,5,6,7,10,16,17,27,28,29,153] [2,3,4,17,801,802,803,804] ?_;refine abN (by simp[k1,k3,gb]) ?_;refine abO (dy _ ?_);refine rgq fw [2,3,4,5,6,7,10,16,17,27,28,29] [2,3,4,17,801,802,803,804] ?_;refine af fun K11 j9=>?_;have qf:=(Aq fw (Aq @k1 (Aq @k3 @gb)));refine abQ [2,3,4,5,6,7,10,16,17,27,28,29,163] [2,3,4,17,801,802,803,804] ?_;refine abP (by simp[gb]) ?_
     cases uC:ri c with
     | none=>
      rw[uC]at kL ew;simp only[rR]at kL;have iY:e7 ln = .form:=ew;have hp:=adT 3 pk (by rw[ez,iY]);refine aT fw kL [2,3,4,5,6,7,10,17,18,19,27,28,29] [2,3,4,17,801,802,803,804] ?_;refine af fun K12 adR=>?_;refine rgq fw [2,3,4,5,6,7,10,17,18,27,28,29,172] [2,3,4,17,801,802,803,804] ?_;refine abP rfl ?_;refine rgq fw [2,3] [2,3] ?_;exact aN (Aq fw (Aq @hp (Aq @af1 (Aq @af2 (Aq @afZ (Aq @afj (Aq @afm (Aq @afn (Aq @afo @afs)))))))))
     | some v=>
      rw[uC]at kL ew;simp only[rR]at kL;have iY:e7 ln = .name ⟨b,kk,v⟩:=ew;refine aT fw kL [2,3,4,5,6,7,10,17,18,19,27,28,29] [2,3,4,17,801,802,803,804] ?_;refine af fun K12 adR=>?_;refine rgq fw [2,3,4,5,6,7,10,17,18,27,28,29,172] [2,3,4,17,801,802,803,804] ?_;refine abN rfl ?_;refine abO (adR _ ?_);refine reK fw j9 [2,3,4,5,6,7,10,17,27,28,29] [2,3,4,17,801,802,803,804] ?_;refine af fun j2 eZ=>?_;by_cases jR:s.ao=[]
      .have hn:=eH _ (by rw[ez,iY];exact if_pos jR);have ly:A2=[]:=aeu.1 (by rw[r6,jR];rfl)
       have gB:(s.names ++ [(⟨b,kk,v⟩:eM)]).map cNm=N1 ++ [[.v (.string (bs b)),.v (.int .i64 kk),.v (.int .i64 v)]]:=by rw[ac5,b1];rfl
       have dB:cA (s.gE ++ [pk])=A1 ++ [[.v (.int .i64 pk)]]:=by rw[tP,b3];rfl
       subst ly;refine rgq fw [2,3,4,5,6,7,10,17,27,28,29,180] [2,3,4,17,801,802,803,804] ?_;refine abN rfl ?_;refine abO (eZ _ ?_);refine cR (al _) fun K' ae=>?_;(repeat (refine sxn fun K2 aa=>?_;simp[ab,dS,sh];(repeat (refine⟨by omega,?_⟩));refine aa _ ?_;clear aa K2));refine sxz (ae _ ?_);clear ae K';refine bK _ (AW.norm [2,3,4,5,6,7,27,28,29] [2,3,4,801,802,803,804] (fun _ _=>trivial) (AW.st (by simp[ab,dS,sh];rfl) ?_));refine reQ fw ?_;(try simp only[aJ,aL]);refine aS.mk (n+1) ⟨by omega,_,hn⟩ (by omega) ?_;have e1:=wz _ hn;have e2:=wF _ hn;have e3:=wx _ hn;have e4:=wD _ hn
       try dsimp only at e1 e2 e3 e4
       rw[gB]at e1;rw[b2]at e2;rw[dB]at e3;rw[b4]at e4;refine aB.to' (fun _ _=>trivial) (by simp[ab,dS,e1,e2,e3,e4,dt]) (by simp[ab,dS,e1,e2,e3,e4,dt])
      .have hp:=adT 3 pk (by rw[ez,iY];exact if_neg jR)
       have ly:0 < A2.length:=by rw[r6];exact adM.2 jR
       have qf:=(Aq fw @ly);refine abQ [2,3,4,5,6,7,10,17,27,28,29,180] [2,3,4,17,801,802,803,804] ?_;refine abP (by simp[ly]) ?_;refine rgq fw [2,3] [2,3] ?_;exact aN (Aq fw (Aq @hp (Aq @af1 (Aq @af2 (Aq @afZ (Aq @afj (Aq @afm (Aq @afn (Aq @afo @afs)))))))))
    | [],ew=>
     have iY:e7 ln = .form:=ew;simp only[aeX];have hp:=adT 3 pk (by rw[ez,iY]);refine af fun K10 dy=>?_;have qf:=(Aq fw (Aq @k1 (Aq @k3 @gb)));refine abQ [2,3,4,5,6,7,10,16,17,27,28,29,153] [2,3,4,17,801,802,803,804] ?_;refine abP (by simp[k1,k3,gb]) ?_;refine rgq fw [2,3] [2,3] ?_;exact aN (Aq fw (Aq @hp (Aq @af1 (Aq @af2 (Aq @afZ (Aq @afj (Aq @afm (Aq @afn (Aq @afo @afs)))))))))
    | [b],ew=>
     have iY:e7 ln = .form:=by rw[ew,eT,if_neg (by omega)]
     simp only[acJ,aeX];have hp:=adT 3 pk (by rw[ez,iY]);refine af fun K10 dy=>?_;have qf:=(Aq fw (Aq @k1 (Aq @k3 @gb)));refine abQ [2,3,4,5,6,7,10,16,17,27,28,29,153] [2,3,4,17,801,802,803,804] ?_;refine abP (by simp[k1,k3,gb]) ?_;refine rgq fw [2,3] [2,3] ?_;exact aN (Aq fw (Aq @hp (Aq @af1 (Aq @af2 (Aq @afZ (Aq @afj (Aq @afm (Aq @afn (Aq @afo @afs)))))))))
    | b :: c :: d :: r,ew=>
     have iY:e7 ln = .form:=ew
     have hq:¬ ((r.length:Int)+1+1+1+1=3):=by omega
     simp only[acJ];have hp:=adT 3 pk (by rw[ez,iY]);refine af fun K10 dy=>?_;have qf:=(Aq fw (Aq @k1 (Aq @k3 (Aq @gb @hq))));refine abQ [2,3,4,5,6,7,10,16,17,27,28,29,153] [2,3,4,17,801,802,803,804] ?_;refine abP (by simp[k1,k3,gb,hq]) ?_;refine rgq fw [2,3] [2,3] ?_;exact aN (Aq fw (Aq @hp (Aq @af1 (Aq @af2 (Aq @afZ (Aq @afj (Aq @afm (Aq @afn (Aq @afo @afs)))))))))
  .obtain rfl:n=l.length:=by omega
   refine abN (by simp) ?_;have dL:=Fh (s:=s) (by omega) (hl ▸ hs);have hok:=agv (t:=t) (by omega) (abL _) (hl ▸ hs);have uI:=La hok (by rw[<- hl];omega);have gX:=Ue G hF hM ⟨s.names,s.ao⟩ uI;obtain⟨hnl,hrl,fj,_,_⟩:=hok;rw[<- hl]at fj;have b1:=wA _ s hs;have b2:=wG _ s hs;have b3:=wy _ s hs;have b4:=wE _ s hs;simp only[cX,eu,bO]at gX;rw[<- b1,<- b2]at gX
   have aax:(NA l.length).length=s.names.length:=by rw[b3];simp[cA,hnl]
   have aay:(RA l.length).length=s.ao.length:=by rw[b4];simp[cA,hrl]
   have jq:=fun i h=>HM (s.gE ++ s.gI) i h;rw[tP,<- b3,<- b4]at jq;have q1:(∀ el∈RA l.length,el.length=1)=True:=eq_true (by rw[b4];simp[cA]);have q2:(∀ el∈RA l.length,∀ c∈el,c.one=true)=True:=eq_true (by rw[b4];simp[cA,ab,D.one])
   have hpp:cX ⟨s.names,s.ao⟩ = .agg [.sl none (NN l.length),.sl none (RR l.length)]:=by rw[b1,b2];rfl
   have Ro:=fun c o=>Ca (p:=⟨s.names,s.ao⟩) (c:=c) (o:=o)
   have DV:∀ c i,acg ⟨s.names,s.ao⟩=some (c,some i)->i < (s.gE ++ s.gI).length:=fun c i h=>by have:=G6 h;simp at this ⊢;omega
   refine bx (aa _ ?_);generalize NN l.length=N1 at *;generalize RR l.length=R1 at *;generalize NA l.length=A1 at *;generalize RA l.length=A2 at *;refine AW.imp (aB.freeze 801 trivial) ?_;refine AW.st (by simp[ab,dS];rfl) ?_;refine AW.imp (aB.freeze 802 trivial) ?_;refine AW.st (by simp[ab,dS];rfl) ?_;refine AW.imp (aB.freeze 804 trivial) ?_;refine AW.st (by simp[ab,dS];rfl) ?_
   cases aP:acg ⟨s.names,s.ao⟩ with
   | none=>
    rw[aP]at gX dL;dsimp only at dL;simp only[aci,codeF,bw,ab]at gX;refine aT fw gX [2,3,4,5,6,20] [2,3,4,20,803] ?_;refine af fun vJ po=>?_;refine rgq fw [2,3,4,5,6,20,199] [2,3,4,20,803] ?_;refine abN rfl ?_;refine abO (po _ ?_);refine aet (al _) (by kernel_rfl) [(0,4),(2,2),(3,3)] [2,3] [2,3] (fun _ _=>trivial) (by kernel_rfl) fun K' ae=>?_;(repeat (refine gl fun K2 aa=>?_;simp[ab,dS,H7];(repeat (refine⟨by omega,?_⟩));refine aa _ ?_;clear aa K2));refine adw (ae _ ?_);refine AW.st (by simp[ab,dS,H7];rfl) ?_;clear ae K';exact aN (Aq fw (Aq @dL (Aq @hpp (Aq @afj (Aq @afm (Aq @afn (Aq @afo @afs)))))))
   | some ci=>
    obtain⟨c,o⟩:=ci;have ic:=Ro c o aP;rw[aP]at gX dL
    cases o with
    | none=>
     dsimp only at dL;simp only[aci,codeF,bw,ab]at gX;refine aT fw gX [2,3,4,5,6,20] [2,3,4,20,803] ?_;refine af fun vJ po=>?_;have qf:=(Aq fw @ic);refine abQ [2,3,4,5,6,20,199] [2,3,4,20,803] ?_;refine abP (by simp[ic]) ?_;refine af fun BH r3=>?_;refine rgq fw [2,3,5,6,20,202] [2,3,4,20,803] ?_;refine abN rfl ?_;refine abO (r3 _ ?_);refine aet (al _) (by kernel_rfl) [(1,20),(2,2),(3,3)] [2,3] [2,3] (fun _ _=>trivial) (by kernel_rfl) fun K' ae=>?_;(repeat (refine gl fun K2 aa=>?_;simp[ab,dS];(repeat (refine⟨by omega,?_⟩));refine aa _ ?_;clear aa K2));refine adw (ae _ ?_);refine AW.st (by simp[ab,dS];rfl) ?_;clear ae K';exact aN (Aq fw (Aq @dL (Aq @af1 (Aq @af2 (Aq @afZ (Aq @afj (Aq @afm (Aq @afn (Aq @afo @afs)))))))))
    | some i=>
     dsimp only at dL;have hi:=DV c i aP;obtain⟨c6,ke⟩:=OF.1 (jq i hi);clear jq
     have IP:i < A1.length+A2.length:=by simpa using c6
     have uw:(i:Int) < (A1.length:Int)+(A2.length:Int):=by omega
     simp only[aci,codeF,bw,ab]at gX ke;generalize (s.gE ++ s.gI).getD i 0=pl at ke dL;refine aT fw gX [2,3,4,5,6,20] [2,3,4,20,803] ?_;refine af fun vJ po=>?_;have qf:=(Aq fw @ic);refine abQ [2,3,4,5,6,20,199] [2,3,4,20,803] ?_;refine abP (by simp[ic]) ?_;refine af fun BH r3=>?_;refine rgq fw [2,3,5,6,20,202] [2,3,4,20,803] ?_;refine abP (by simp) ?_;refine yy (al _) (by kernel_rfl) ([(2,(803,803))]) ([(3,[803]),(4,[803]),(7,[803])]) ([0,1,3,4,2,5,6,7,8]) (by kernel_rfl) fun K' ae=>?_;(repeat (refine yn rfl fun K2 aa=>?_;simp[ab,dS,wc,q1,q2,c6,IP,uw,ke,sh];(repeat (refine⟨by omega,?_⟩));refine aa _ ?_;clear aa K2));refine yo (ae _ ?_);clear ae K';refine r3 _ (AW.norm [2,3,20] [2,3,4,20] (fun _ _=>trivial) (AW.st (by simp[ab,dS,wc,q1,q2,c6,IP,uw,ke,sh];rfl) ?_));refine aet (al _) (by kernel_rfl) [(1,20),(2,2),(3,3)] [2,3] [2,3] (fun _ _=>trivial) (by kernel_rfl) fun K' ae=>?_;(repeat (refine gl fun K2 aa=>?_;simp[ab,dS];(repeat (refine⟨by omega,?_⟩));refine aa _ ?_;clear aa K2));refine adw (ae _ ?_);refine AW.st (by simp[ab,dS];rfl) ?_;clear ae K';exact aN (Aq fw (Aq @dL (Aq @af1 (Aq @af2 (Aq @afZ (Aq @afj (Aq @afm (Aq @afn (Aq @afo @afs)))))))))
theorem LZ {k:Int} {nm hd rest:Tx} {c:Int} {o:Nat} (h:jE k nm hd rest = .bad c o):c≠0:=by
 unfold jE at h;split at h
 .rename_i c' o' he;simp only[nh.bad.injEq]at h;have:=Fi he;omega
 .cases h
theorem Yz {hd rest:Tx} {l:List Tx} {c:Int} {o:Nat} (h:mh hd rest l = .bad c o):c≠0:=by
 unfold mh at h;split at h
 .exact LZ h
 .split at h
  .cases h
  .exact LZ h
 .cases h
theorem U5 {l:List Tx} {c:Int} {o:Nat} (h:ad4 l = .bad c o):c≠0:=by
 unfold ad4 at h;split at h
 .unfold eT at h;split at h
  .split at h<;>cases h
  .split at h
   .split at h<;>cases h
   .cases h
  .cases h
 .cases h
theorem Ul {s:Tx} {c:Int} {o:Nat} (h:e7 s = .bad c o):c≠0:=by
 unfold e7 at h;split at h
 .exact Yz h
 .exact U5 h
theorem ahc {l:List Tx}:∀ {k:Nat} {c:Int} {i:Nat},eB l k = .inl (c,i)->c≠0
 | 0,c,i,h=>by cases h
 | k+1,c,i,h=>by
  rw[eB]at h
  cases hk:eB l k with
  | inl e=>
   rw[hk]at h;obtain⟨c',i'⟩:=e;simp only[Sum.inl.injEq,BY]at h;have:=ahc hk;omega
  | inr s0=>
   rw[hk]at h;dsimp only at h;unfold iq at h;split at h
   .cases h
   .split at h
    .simp only[Sum.inl.injEq,BY]at h;omega
    .rename_i hb;simp only[Sum.inl.injEq,BY]at h;have:=Ul hb;omega
    .split at h
     .cases h
     .simp only[Sum.inl.injEq,BY]at h;omega
    .cases h
theorem VF {t:Tx} {c:Int} {o:Option Nat} (h:(gG t).1=some (c,o)):c≠0:=by
 unfold gG at h;split at h
 .simp only[AS,BY]at h;omega
 .split at h
  .rename_i c' i' hp;simp only[AS,BY]at h;have:=ahc hp;omega
  .split at h
   .cases h
   .rename_i c' hc;simp only[AS,BY]at h;have:=Ca hc;omega
   .rename_i c' i' hc;simp only[AS,BY]at h;have:=Ca hc;omega
end Go.Proofs.YtdigkhaofjmgkaaGreatDoor
namespace Go.Av
section
variable {P:Program} {T:Ty} {Mv X:Nat->Prop} {G:aq} {N:Fr} {w:World} {μ:Mu} {a:Act} {σ:St} {ops:Array Oper}
def patch (R:List Nat) (H0 H2:Heap):Heap:=fun q=>if R.contains q then H0 q else H2 q
def oZ (R:List Nat) (H:Heap):Prop:=∀ q,R.contains q=true->H q=none\/∃ (t:TypeId) (cs:List D),H q=some (.box t (cs.map AV.d))
def rJ (R:List Nat) (H0 H:Heap):Prop:=∀ q,R.contains q=false->H0 q=H q
def va (R:List Nat):AV->Bool
 | .ref r _ _=>!R.contains r
 | _=>true
def rG (P:Program) (G:aq) (mvd R:List Nat) (g:FuncId) (xs:List AV) (H:Heap) (y:AV) (H2:Heap):Prop:=
 oZ R H/\(∀ q,R.contains q=true->H2 q=H q)/\∀ H0,oZ R H0->rJ R H0 H->HC P G mvd g xs H0 y (patch R H0 H2)
theorem Fl {R:List Nat} {H H2:Heap} (h:∀ q,R.contains q=true->H2 q=H q):patch R H H2=H2:=by
 funext q;unfold patch;split
 .rename_i hq;exact (h q hq).symm
 .rfl
theorem rG.hc {mvd R:List Nat} {g:FuncId} {xs:List AV} {H H2:Heap} {y:AV} (h:rG P G mvd R g xs H y H2):HC P G mvd g xs H y H2:=by
 have:=h.2.2 H h.1 fun _ _=>rfl
 rwa [Fl h.2.1]at this
theorem rG.swap {mvd R:List Nat} {g:FuncId} {xs:List AV} {H H2 H':Heap} {y:AV} (h:rG P G mvd R g xs H y H2) (hc:oZ R H') (ho:rJ R H' H):rG P G mvd R g xs H' y (patch R H' H2):=by
 refine⟨hc,fun q hq=>by unfold patch;rw[if_pos hq],fun H0 h0 xe=>?_⟩
 have e:patch R H0 (patch R H' H2)=patch R H0 H2:=by
  funext q;unfold patch;split
  .rfl
  .rfl
 rw[e];exact h.2.2 H0 h0 fun q hq=>(xe q hq).trans (ho q hq)
theorem gL.swap {R:List Nat} {H H2 H':Heap} {p:Nat×AV} (h:gL T ops H H2 p) (hp:va R p.2=true) (ho:rJ R H' H):gL T ops H' (patch R H' H2) p:=by
 obtain⟨k,v⟩:=p;unfold gL at h ⊢;dsimp only at h hp ⊢
 cases he:ops[k]? with
 | none=>rw[he]at h;exact h.elim
 | some o=>
  rw[he]at h;dsimp only at h ⊢
  split at h<;>try exact h.elim
  cases v with
  | ref r e j=>
   simp only[va,aez]at hp;have e1:=ho r hp
   have e2:patch R H' H2 r=H2 r:=by unfold patch;rw[if_neg (by rw[hp];decide)]
   unfold aef at h ⊢;dsimp only at h ⊢;rw[e1,e2];exact h
  | d x=>cases x<;>rfl
  | _=>rfl
theorem OB {R:List Nat} {H:Heap} {d:Nat} {t:TypeId} {cs:List D} (h:oZ R H):oZ R (aM H d (.box t (cs.map AV.d))):=fun q hq=>by
 unfold aM;split
 .exact .inr ⟨t,cs,rfl⟩
 .exact h q hq
theorem OC {R:List Nat} {H:Heap} {d:Nat} {b:Row} (h:oZ R (aM H d b)) (hd:H d=none):oZ R H:=fun q hq=>by
 by_cases e:q=d
 .subst e;exact .inl hd
 .have:=h q hq;unfold aM at this
  rwa [if_neg e]at this
theorem Fe {R:List Nat} {H:Heap} {d:Nat} {b:Row} (hd:R.contains d=true):rJ R (aM H d b) H:=fun q hq=>by
 unfold aM;rw[if_neg (fun e=>by subst e;rw[hd]at hq;cases hq)]
theorem rJ.symm {R:List Nat} {H H':Heap} (h:rJ R H H'):rJ R H' H:=fun q hq=>(h q hq).symm
theorem aha {R:List Nat} {H H2:Heap} {d:Nat} {b:Row} (hd:R.contains d=true):aM (patch R H H2) d b=patch R (aM H d b) H2:=by
 funext q;unfold aM patch;by_cases e:q=d
 .subst e;simp only[if_true,hd]
 .simp only[if_neg e]
theorem VJ {R:List Nat} {H H2:Heap} {d:Nat} {b:Row} (hd:R.contains d=true) (h:∀ q,R.contains q=true->H2 q=H q):patch R (aM H d b) H2=aM H2 d b:=by
 rw[<- aha hd,Fl h]
def sT (R:List Nat) (o:Oper):Bool:=match o.op,o.dst with
 | .alloc _,some d=>R.contains d
 | _,_=>false
theorem Np {R:List Nat} {o:Oper} (h:sT R o=true):∃ t d,o.op = .alloc t/\o.dst=some d/\R.contains d=true:=by
 unfold sT at h;split at h
 .rename_i t d h1 h2;exact⟨t,d,h1,h2,h⟩
 .cases h
theorem GJ {R:List Nat} {o:Oper} (h:sT R o=true) {e:Env} {H H':Heap} {x:AV} (hx:Ex P T Mv G o e H x H'):∃ (d:Nat) (t:TypeId) (cs:List D),R.contains d=true/\H d=none/\H'=aM H d (.box t (cs.map AV.d))/\∀ e2 H2,H2 d=none->Ex P T Mv G o e2 H2 x (aM H2 d (.box t (cs.map AV.d))):=by
 obtain⟨t,d,h1,h2,h3⟩:=Np h;obtain⟨dst,op,type,pos,after,guard⟩:=o;dsimp only at h1 h2;subst h1 h2;unfold Ex at hx ⊢;simp only[acm,acS,if_true]at hx ⊢;obtain⟨c,hw,hc⟩:=hx;unfold wr at hw ⊢;dsimp only at hw ⊢
 cases hT:T t with
 | none=>rw[hT]at hw;cases hw
 | some ti=>
  rw[hT]at hw;dsimp only at hw;simp only[AS,BY,St.mk.injEq]at hw;obtain⟨rfl,rfl,_,rfl⟩:=hw;exact⟨d,t,adx ti.zero,h3,hc,rfl,fun e2 H2 hn=>⟨_,rfl,hn⟩⟩
def MX (P:Program) (T:Ty) (Mv:Nat->Prop) (G:aq) (mvd R:List Nat) (ops:Array Oper) (ex:List (Nat×AV)) (o:Oper) (σ aw:St):Prop:=∃ c g xs y H2,acm o.op=some c/\tgt G σ.env c=some (g,xs)/\(∀ r∈mvd,Mv r)/\rG P G mvd R g xs σ.H y H2/\(∀ p∈ex,gL T ops σ.H H2 p/\va R p.2=true)/\adz mvd y/\aw=⟨aD σ.env o.dst y,H2⟩
def tu (P:Program) (T:Ty) (Mv:Nat->Prop) (G:aq) (N:Fr) (mvd R db hv:List Nat) (ex:List (Nat×AV)) (ops:Array Oper) (i:Nat) (o:Oper) (σ aw:St):Prop:=
 eU N o/\o.guard=none/\lS mvd σ.env/\((db.contains i=true/\∃ c y,kA T G σ.env o=some (c,y)/\c/\aw=⟨aD σ.env o.dst (.d y),σ.H⟩)\/
  (db.contains i=false/\hv.contains i=true/\MX P T Mv G mvd R ops ex o σ aw)\/
  (db.contains i=false/\hv.contains i=false/\kindOf o.op≠9/\mb G ex i o σ.env/\∃ x H',Ex P T Mv G o σ.env σ.H x H'/\adz mvd x/\aw=⟨aD σ.env o.dst x,H'⟩))
theorem NY {mvd R db hv:List Nat} {ex:List (Nat×AV)} {i:Nat} {o:Oper} {σ aw:St} (h:tu P T Mv G N mvd R db hv ex ops i o σ aw):rH P T Mv G N mvd db hv ex ops i o σ aw:=by
 obtain⟨h1,h2,h3,h⟩:=h;refine⟨h1,h2,h3,?_⟩
 rcases h with h | ⟨b,v,c,g,xs,y,H2,hc,ht,hm,hh,hl,ho,e⟩ | h
 .exact .inl h
 .exact .inr (.inl ⟨b,v,c,g,xs,y,H2,hc,ht,hm,hh.hc,fun p hp=>(hl p hp).1,ho,e⟩)
 .exact .inr (.inr h)
theorem NZ (hg:Good P T) (mvd R db hv:List Nat) (ex:List (Nat×AV)):Sound P X G N Mv (tu P T Mv G N mvd R db hv ex ops) ops:=fun i o ho σ aw h=>Kr hg mvd db hv ex i o ho σ aw (NY h)
def yQ (R db hv:List Nat) (ex:List (Nat×AV)) (ops:Array Oper) (i j:Nat) (oi oj:Oper):Bool:=oi.apart ops oj && (db.contains i || db.contains j ||
 (if hv.contains i then !hv.contains j && (kindOf oj.op == 0 || (ex.lookup j).isSome || sT R oj) else if hv.contains j then kindOf oi.op == 0 || (ex.lookup i).isSome || sT R oi else p0 (kindOf oi.op) (kindOf oj.op)))
theorem N0 (mvd R db hv:List Nat) (ex:List (Nat×AV)):tC (tu P T Mv G N mvd R db hv ex ops) (yQ R db hv ex ops) ops:=fun i j oi oj b7 bu hc σ aG eL h1 h2=>by
 simp only[yQ,abI]at hc;obtain⟨hap,acO⟩:=hc;obtain⟨di,gi,oE,h1⟩:=h1;obtain⟨dj,gj,_,h2⟩:=h2;have agj:∀ v,fB oj.op (aD σ.env oi.dst v) σ.env:=fun v t ht=>(adA hap (e:=σ.env) (v:=v)).1 t (iK ht);have eX:∀ v,fB oi.op σ.env (aD σ.env oj.dst v):=fun v t ht=>((adA hap (e:=σ.env) (v:=v)).2.1 t (iK ht)).symm;have aI:=(adA hap (e:=σ.env) (v:=cy)).2.2;have tg:∀ {o:Oper} {c:Call} {e e':Env},acm o.op=some c->fB o.op e e'->tgt G e c=tgt G e' c:=fun {o c e e'} hc ha=>vw fun t ht=>ha t (by rw[(afr hc).1];exact ht)
 have lda:∀ {k:Nat} {o:Oper} {e e':Env},fB o.op e e'->mb G ex k o e->mb G ex k o e':=fun {k o e e'} ha h=>by
  unfold mb at h ⊢;split
  .rename_i pv hl;simp only[hl]at h;split
   .rename_i t x hop;simp only[hop]at h;rw[<- dw (x:=x) fun t' qY=>ha t' (by rw[hop,qY];simp[Op.operands])];exact h
   .rename_i fD;split at h
    .rename_i t x hop;exact absurd hop (fD t x)
    .exact h
  .trivial
 rcases h1 with⟨bi,c,y,e1,c1,rfl⟩ | ⟨bi,vi,c,g,xs,y,H2,fL,ti,eG,hcl,hld,oy,rfl⟩ | ⟨bi,vi,k1,l1,x,H',e1,ox,rfl⟩
 .-- data first
  rcases h2 with⟨bj,c',z,e2,c2,rfl⟩ | ⟨bj,vj,c',g,xs,z,H2,ll,tj,eG,hcl,hld,oz,rfl⟩ | ⟨bj,vj,k2,l2,z,H2,e2,oz,rfl⟩
  .rw[j6 (agj _)]at e2;refine⟨⟨aD σ.env oj.dst (.d z),σ.H⟩,⟨dj,gj,oE,.inl ⟨bj,c',z,e2,c2,rfl⟩⟩,di,gi,oE.put (adz.d _ _) _,.inl ⟨bi,c,y,?_,c1,?_⟩⟩
   .rw[<- j6 (eX _)];exact e1
   .rw[fG aI]
  .rw[tg ll (agj _)]at tj;refine⟨⟨aD σ.env oj.dst z,H2⟩,⟨dj,gj,oE,.inr (.inl ⟨bj,vj,c',g,xs,z,H2,ll,tj,eG,hcl,hld,oz,rfl⟩)⟩,di,gi,oE.put oz _,.inl ⟨bi,c,y,?_,c1,?_⟩⟩
   .rw[<- j6 (eX _)];exact e1
   .rw[fG aI]
  .refine⟨⟨aD σ.env oj.dst z,H2⟩,⟨dj,gj,oE,.inr (.inr ⟨bj,vj,k2,lda (agj _) l2,z,H2,e2.congr k2 (agj _),oz,rfl⟩)⟩,di,gi,oE.put oz _,.inl ⟨bi,c,y,?_,c1,?_⟩⟩
   .rw[<- j6 (eX _)];exact e1
   .rw[fG aI]
 .-- a call first
  rcases h2 with⟨bj,c',z,e2,c2,rfl⟩ | ⟨bj,vj,_⟩ | ⟨bj,vj,k2,l2,z,H3,e2,oz,rfl⟩
  .rw[j6 (agj _)]at e2;refine⟨⟨aD σ.env oj.dst (.d z),σ.H⟩,⟨dj,gj,oE,.inl ⟨bj,c',z,e2,c2,rfl⟩⟩,di,gi,oE.put (adz.d _ _) _,.inr (.inl ⟨bi,vi,c,g,xs,y,H2,fL,?_,eG,hcl,hld,oy,?_⟩)⟩
   .rw[<- tg fL (eX _)];exact ti
   .rw[fG aI]
  .rw[bi,bj,vi]at acO;simp[vj]at acO
   simp_all
  .rw[bi,bj]at acO;have qu:=e2.congr k2 (agj _);have uT:=lda (agj _) l2
   have hp:(kindOf oj.op=0\/(ex.lookup j).isSome=true)\/sT R oj=true:=by
    simp only[aeE,vi,vj,if_true,adg,aeK]at acO;simpa[or_assoc]using acO
   rcases hp with hp | hp
   .have hq:H3=H2/\Ex P T Mv G oj σ.env σ.H z σ.H:=by
     rcases hp with hp | hp
     .exact⟨qu.keeps (by omega),qu.free hp σ.H⟩
     .obtain⟨pv,jy⟩:=adL.1 hp;have hs:=(hld _ (Au jy)).1;refine uU bu jy uT ?_ qu;unfold gL at hs ⊢;simp only[bu]at hs ⊢;split<;>simp_all
    obtain⟨rfl,e3⟩:=hq;refine⟨⟨aD σ.env oj.dst z,σ.H⟩,⟨dj,gj,oE,.inr (.inr ⟨bj,vj,k2,uT,z,σ.H,e3,oz,rfl⟩)⟩,di,gi,oE.put oz _,.inr (.inl ⟨bi,vi,c,g,xs,y,H3,fL,?_,eG,hcl,hld,oy,?_⟩)⟩
    .rw[<- tg fL (eX _)];exact ti
    .rw[fG aI]
   .obtain⟨d,t,cs,hd,hn,rfl,lz⟩:=GJ hp qu
    have w9:σ.H d=none:=by rw[<- hcl.2.1 d hd];exact hn
    refine⟨⟨aD σ.env oj.dst z,aM σ.H d (.box t (cs.map AV.d))⟩,⟨dj,gj,oE,.inr (.inr ⟨bj,vj,k2,uT,z,_,lz _ _ w9,oz,rfl⟩)⟩,di,gi,oE.put oz _,.inr (.inl ⟨bi,vi,c,g,xs,y,patch R (aM σ.H d (.box t (cs.map AV.d))) H2,fL,?_,eG,hcl.swap (OB hcl.1) (Fe hd),fun p hp=>⟨(hld p hp).1.swap (hld p hp).2 (Fe hd),(hld p hp).2⟩,oy,?_⟩)⟩
    .rw[<- tg fL (eX _)];exact ti
    .rw[fG aI,VJ hd hcl.2.1]
 .rcases h2 with⟨bj,c',z,e2,c2,rfl⟩ | ⟨bj,vj,c',g,xs,z,H2,ll,tj,eG,hcl,hld,oz,rfl⟩ | ⟨bj,vj,k2,l2,z,H2,e2,oz,rfl⟩
  .rw[j6 (agj _)]at e2;refine⟨⟨aD σ.env oj.dst (.d z),σ.H⟩,⟨dj,gj,oE,.inl ⟨bj,c',z,e2,c2,rfl⟩⟩,di,gi,oE.put (adz.d _ _) _,.inr (.inr ⟨bi,vi,k1,lda (eX _) l1,x,H',e1.congr k1 (eX _),ox,?_⟩)⟩;rw[fG aI]
  .rw[tg ll (agj _)]at tj;rw[bi,bj]at acO
   have hp:(kindOf oi.op=0\/(ex.lookup i).isSome=true)\/sT R oi=true:=by
    simp only[aeE,vi,vj,if_true,abT,if_false]at acO;simpa[or_assoc]using acO
   have tS:=e1.congr k1 (eX z);have l1':=lda (eX z) l1
   rcases hp with (hp | hp) | hp
   .obtain rfl:=e1.keeps (by omega);refine⟨⟨aD σ.env oj.dst z,H2⟩,⟨dj,gj,oE,.inr (.inl ⟨bj,vj,c',g,xs,z,H2,ll,tj,eG,hcl,hld,oz,rfl⟩)⟩,di,gi,oE.put oz _,.inr (.inr ⟨bi,vi,k1,l1',x,H2,tS.free hp H2,ox,?_⟩)⟩;rw[fG aI]
   .obtain⟨pv,jy⟩:=adL.1 hp;have hs:=(hld _ (Au jy)).1;have hH:H'=σ.H:=(uU (H2:=σ.H) b7 jy l1 (by unfold gL;simp only[b7];unfold gL at hs;simp only[b7]at hs;split<;>simp_all) e1).1;subst hH;obtain⟨_,e3⟩:=uU b7 jy l1' hs tS;refine⟨⟨aD σ.env oj.dst z,H2⟩,⟨dj,gj,oE,.inr (.inl ⟨bj,vj,c',g,xs,z,H2,ll,tj,eG,hcl,hld,oz,rfl⟩)⟩,di,gi,oE.put oz _,.inr (.inr ⟨bi,vi,k1,l1',x,H2,e3,ox,?_⟩)⟩;rw[fG aI]
   .obtain⟨d,t,cs,hd,hn,rfl,lz⟩:=GJ hp tS;have hO:=Fe (H:=σ.H) (b:=.box t (cs.map AV.d)) hd;have Rn:=hcl.swap (OC hcl.1 hn) hO.symm
    have kh:patch R σ.H H2 d=none:=by unfold patch;rw[if_pos hd];exact hn
    refine⟨⟨aD σ.env oj.dst z,patch R σ.H H2⟩,⟨dj,gj,oE,.inr (.inl ⟨bj,vj,c',g,xs,z,patch R σ.H H2,ll,tj,eG,Rn,fun p hp=>⟨(hld p hp).1.swap (hld p hp).2 hO.symm,(hld p hp).2⟩,oz,rfl⟩)⟩,di,gi,oE.put oz _,.inr (.inr ⟨bi,vi,k1,l1',x,_,lz _ _ kh,ox,?_⟩)⟩;rw[fG aI,aha hd,Fl hcl.2.1]
  .rw[bi,bj]at acO
   have bT:adC ops oi oj=true:=by simp only[adC,abI];simp only[aeE,vi,vj,abT,if_false]at acO;exact⟨hap,acO⟩
   obtain⟨H3,f1,f2⟩:=tJ (N:=N) bT ⟨di,.inl ⟨ir gi,e1⟩⟩ ⟨dj,.inl ⟨ir gj,e2⟩⟩ k1 k2
   have un:∀ {o:Oper} {e:Env} {H H':Heap} {x:AV},o.guard=none->Sx P T Mv G N ops o e H x H'->Ex P T Mv G o e H x H':=fun hgu h=>by
    rcases h.2 with⟨_,h⟩ | ⟨hw,_⟩
    .exact h
    .rw[ir hgu]at hw;cases hw
   refine⟨⟨aD σ.env oj.dst z,H3⟩,⟨dj,gj,oE,.inr (.inr ⟨bj,vj,k2,lda (agj _) l2,z,H3,un gj f1,oz,rfl⟩)⟩,di,gi,oE.put oz _,.inr (.inr ⟨bi,vi,k1,lda (eX _) l1,x,H2,un gi f2,ox,?_⟩)⟩;rw[fG aI]
def wL (P:Program) (T:Ty) (Mv:Nat->Prop) (G:aq) (mvd R:List Nat) (ops:Array Oper) (ex:List (Nat×AV)) (g:FuncId) (xs:List AV) (σ:St) (dst:Option Tmp) (K:St->Prop):Prop:=∃ y H2,(∀ r∈mvd,Mv r)/\rG P G mvd R g xs σ.H y H2/\(∀ p∈ex,gL T ops σ.H H2 p/\va R p.2=true)/\adz mvd y/\K ⟨aD σ.env dst y,H2⟩
theorem ZH (o f:Nat->Nat->Nat->AV) (t:TypeId) (cs:List D):Row.tr o f (.box t (cs.map AV.d)) = .box t (cs.map AV.d):=by
 simp[Row.tr,AV.tr,abK]
theorem Sj {l:List (Nat×Row)} {q:Nat} (h:(ak l q).isSome=true):∃ p∈l,p.1=q:=by
 induction l with
 | nil=>simp[ak]at h
 | cons p l ih=>
  simp only[ak,List.lookup]at h
  cases hqp:(q == p.1) with
  | true=>exact⟨p,by simp,by simpa using (beq_iff_eq.1 hqp).symm⟩
  | false=>
   rw[hqp]at h;obtain⟨p',h1,h2⟩:=ih h;exact⟨p',by simp[h1],h2⟩
theorem wL.mc {mvd R:List Nat} {ex:List (Nat×AV)} {dst:Option Tmp} {K:St->Prop} {fx:List Nat} {g:FuncId} {j1 xs:List AV} {bN eg:List (Nat×Row)} {y:AV} (hc:MC P G fx g xs (ak bN) y (ak eg)) (hx:j1.map (AV.tr (acH (bN.map (·.1))) (acG (bN.map (·.1))))=xs)
  (hR:∀ r∈R,(bN.map (·.1)).contains r=false/\(eg.map (·.1)).contains r=false/\(σ.H r=none\/∃ (t:TypeId) (cs:List D),σ.H r=some (.box t (cs.map AV.d))))
  (hH:∀ p∈bN,(σ.H p.1).map (Row.tr (acH (bN.map (·.1))) (acG (bN.map (·.1))))=ak bN p.1) (hd:∀ p∈eg,(bN.map (·.1)).contains p.1=true\/σ.H p.1=none) (hm:∀ r∈bN.map (·.1),fx.contains r=false->r∈mvd) (eG:∀ r∈mvd,Mv r) (ho:∀ r∈mvd,y.kill r=y)
  (hl:∀ p∈ex,gL T ops σ.H (jN (ak eg) (trH (dZ (bN.map (·.1))) (ji (bN.map (·.1)) fx) (jh (bN.map (·.1)) fx) σ.H)) p/\va R p.2=true)
  (h:K ⟨aD σ.env dst y,jN (ak eg) (trH (dZ (bN.map (·.1))) (ji (bN.map (·.1)) fx) (jh (bN.map (·.1)) fx) σ.H)⟩):wL P T Mv G mvd R ops ex g j1 σ dst K:=by
 have aF:∀ q,R.contains q=true->q∈R:=fun q hq=>acY.1 hq;have hcl:oZ R σ.H:=fun q hq=>(hR q (aF q hq)).2.2
 have cU:∀ (H0:Heap),oZ R H0->∀ q,R.contains q=true->jN (ak eg) (trH (dZ (bN.map (·.1))) (ji (bN.map (·.1)) fx) (jh (bN.map (·.1)) fx) H0) q=H0 q:=fun H0 ic q hq=>by
  obtain⟨a1,a2,_⟩:=hR q (aF q hq)
  have e1:ak eg q=none:=by
   cases he:ak eg q with
   | none=>rfl
   | some r=>
    obtain⟨p,hp,rfl⟩:=Sj (l:=eg) (q:=q) (by rw[he];rfl);have:(eg.map (·.1)).contains p.1=true:=acY.2 (acD.2 ⟨p,hp,rfl⟩);rw[this]at a2;cases a2
  unfold jN;rw[e1];dsimp only;unfold trH dZ;rw[a1];simp only[adg,if_true]
  rcases ic q hq with h0 | ⟨t,cs,h0⟩
  .rw[h0];rfl
  .rw[h0,acN,ZH]
 refine⟨y,_,eG,⟨hcl,cU σ.H hcl,fun H0 ic xe=>?_⟩,hl,ho,h⟩
 have afK:∀ p∈bN,R.contains p.1=false:=fun p hp=>by
  cases he:R.contains p.1 with
  | false=>rfl
  | true=>
   have h1:=(hR p.1 (aF _ he)).1;have:(bN.map (·.1)).contains p.1=true:=acY.2 (acD.2 ⟨p,hp,rfl⟩);rw[this]at h1;cases h1
 have AN:∀ p∈eg,R.contains p.1=false:=fun p hp=>by
  cases he:R.contains p.1 with
  | false=>rfl
  | true=>
   have h1:=(hR p.1 (aF _ he)).2.1;have:(eg.map (·.1)).contains p.1=true:=acY.2 (acD.2 ⟨p,hp,rfl⟩);rw[this]at h1;cases h1
 have key:=HC.mc (mvd:=mvd) (H:=H0) hc hx (fun p hp=>by rw[xe p.1 (afK p hp)];exact hH p hp) (fun p hp=>by rw[xe p.1 (AN p hp)];exact hd p hp) hm
 have e:patch R H0 (jN (ak eg) (trH (dZ (bN.map (·.1))) (ji (bN.map (·.1)) fx) (jh (bN.map (·.1)) fx) σ.H))=jN (ak eg) (trH (dZ (bN.map (·.1))) (ji (bN.map (·.1)) fx) (jh (bN.map (·.1)) fx) H0):=by
  funext q;unfold patch;split
  .rename_i hq;exact (cU H0 ic q hq).symm
  .rename_i hq
   have hq':R.contains q=false:=by simpa using hq
   unfold jN trH;rw[xe q hq']
 rw[e];exact key
def Bi (P:Program) (T:Ty) (Mv:Nat->Prop) (G:aq) (N:Fr) (mvd R db hv:List Nat) (ex:List (Nat×AV)) (ops:Array Oper) (i:Nat) (o:Oper) (σ:St) (K:St->Prop):Prop:=eU N o/\o.guard=none/\
 if db.contains i=true then (match kA T G σ.env o with
  | some (c,y)=>c/\K ⟨aD σ.env o.dst (.d y),σ.H⟩
  | none=>False)
 else if hv.contains i=true then (match acm o.op with
  | some c=>match tgt G σ.env c with
   | some (g,xs)=>wL P T Mv G mvd R ops ex g xs σ o.dst K
   | none=>False
  | none=>False)
 else kindOf o.op≠9/\mb G ex i o σ.env/\match acm o.op with
  | some c=>aeT P G c σ.env o.dst σ.H [] [] K
  | none=>ags T G Mv mvd o σ K
def p8 (P:Program) (T:Ty) (Mv:Nat->Prop) (G:aq) (N:Fr) (mvd R db hv:List Nat) (ex:List (Nat×AV)) (ops:Array Oper) (K:St->Prop):List (Nat×Oper)->St->Prop
 | [],σ=>K σ
 | (i,o) :: rest,σ=>Bi P T Mv G N mvd R db hv ex ops i o σ (p8 P T Mv G N mvd R db hv ex ops K rest)
theorem Zh {mvd R db hv:List Nat} {ex:List (Nat×AV)} {K:St->Prop}:∀ (l:List Nat) (σ:St),(∀ i∈l,i < ops.size)->lS mvd σ.env->p8 P T Mv G N mvd R db hv ex ops K (b6 ops l) σ->∃ σn,K σn/\Go.Av.gS (tu P T Mv G N mvd R db hv ex ops) ops l σ σn:=by
 intro l
 induction l with
 | nil=>intro σ _ _ h;exact⟨σ,h,rfl⟩
 | cons i l ih=>
  intro σ hl gA h;have hi:=hl i (by simp)
  have ho:ops[i]? = some ops[i]:=by simp[hi]
  simp only[b6,ho]at h;generalize ops[i]=o at ho h;simp only[p8,Bi]at h;obtain⟨hd,hgu,h⟩:=h
  have fin:∀ aG,tu P T Mv G N mvd R db hv ex ops i o σ aG->lS mvd aG.env->p8 P T Mv G N mvd R db hv ex ops K (b6 ops l) aG->∃ σn,K σn/\Go.Av.gS (tu P T Mv G N mvd R db hv ex ops) ops (i :: l) σ σn:=fun aG hs hE h1=>by
   obtain⟨σn,hk,hr⟩:=ih aG (fun j hj=>hl j (by simp[hj])) hE h1;exact⟨σn,hk,o,ho,aG,hs,hr⟩
  split at h
  .rename_i hb;split at h
   .rename_i c y hw;obtain⟨hc,h⟩:=h;exact fin _ ⟨hd,hgu,gA,.inl ⟨hb,c,y,hw,hc,rfl⟩⟩ (gA.put (adz.d _ _) _) h
   .exact h.elim
  .rename_i hb
   have hb:db.contains i=false:=by simpa using hb
   split at h
   .rename_i gC;split at h
    .rename_i c hc;split at h
     .rename_i g xs ht;obtain⟨y,H2,h0,h1,h2,h3,h⟩:=h;exact fin _ ⟨hd,hgu,gA,.inr (.inl ⟨hb,gC,c,g,xs,y,H2,hc,ht,h0,h1,h2,h3,rfl⟩)⟩ (gA.put h3 _) h
     .exact h.elim
    .exact h.elim
   .rename_i gC
    have gC:hv.contains i=false:=by simpa using gC
    obtain⟨hk,kK,h⟩:=h;split at h
    .rename_i c hc;obtain⟨y,g,ds,ht,hp,ac8,h⟩:=h;refine fin _ ⟨hd,hgu,gA,.inr (.inr ⟨hb,gC,hk,kK,.d y,σ.H,?_,adz.d _ _,rfl⟩)⟩ (gA.put (adz.d _ _) _) h;unfold Ex;simp only[hc];exact⟨y,⟨g,_,ht,.inl ⟨ds,rfl,hp⟩⟩,rfl,trivial⟩
    .rename_i hc;unfold ags at h;split at h
     .rename_i hw;split at h
      .rename_i c x aG h1;obtain⟨bT,ac8,h⟩:=h;have he:=agb hk h1;obtain⟨e,H⟩:=σ;obtain⟨e1,H1⟩:=aG;dsimp only at he;subst he;refine fin _ ⟨hd,hgu,gA,.inr (.inr ⟨hb,gC,hk,kK,x,H1,?_,ac8,rfl⟩)⟩ (gA.put ac8 _) h;unfold Ex;simp only[hc];rw[if_pos hw];exact⟨c,h1,bT⟩
      .exact h.elim
     .rename_i hw;split at h
      .rename_i c x h1;obtain⟨bT,ac8,h⟩:=h;refine fin _ ⟨hd,hgu,gA,.inr (.inr ⟨hb,gC,hk,kK,x,σ.H,?_,ac8,rfl⟩)⟩ (gA.put ac8 _) h;unfold Ex;simp only[hc];rw[if_neg hw];exact⟨c,h1,bT,trivial⟩
      .exact h.elim
theorem M6 (hg:Good P T) (hm:P.follows .mixedOrders=true) (mvd R db hv:List Nat) (ex:List (Nat×AV)) (ord:List Nat) {id:Nat} (hok:afx (yQ R db hv ex ops) ord ops=true) (gA:lS mvd σ.env) {Q:Exit->St->Prop} (h:p8 P T Mv G N mvd R db hv ex ops (fun aw=>Q .normal aw) (b6 ops ord) σ):AW P Mv X G N (.region id ops true) Q σ:=
 Gw hm (NZ hg mvd R db hv ex) (N0 mvd R db hv ex) ord hok fun au=>Zh ord σ au gA h
theorem M4 (hg:Good P T) (hm:P.follows .mixedOrders=true) (mvd R db hv:List Nat) (ex:List (Nat×AV)) (ord:List Nat) (l ns:List Nat) (hM:∀ r,ns.contains r=false->Mv r) {id:Nat} (hok:afx (yQ R db hv ex ops) ord ops=true) (gA:lS mvd σ.env) {y:Code} {Q:Exit->St->Prop}
  (h:∀ K:St->Prop,(∀ τ:St,AW P Mv X G N y Q (τ.norm l ns)->K τ)->p8 P T Mv G N mvd R db hv ex ops K (b6 ops ord) σ):AW P Mv X G N (.seq (.region id ops true) y) Q σ:=
 oX (M6 hg hm mvd R db hv ex ord hok gA (h _ fun _ h=>h.norm l ns hM))
theorem ym {mvd R db hv:List Nat} {ex:List (Nat×AV)} {K:St->Prop} {i:Nat} {l:List Nat} {o:Oper} (ho:ops[i]? = some o) (h:∀ K':St->Prop,(∀ τ,p8 P T Mv G N mvd R db hv ex ops K (b6 ops l) τ->K' τ)->Bi P T Mv G N mvd R db hv ex ops i o σ K'):p8 P T Mv G N mvd R db hv ex ops K (b6 ops (i :: l)) σ:=by
 have:b6 ops (i :: l)=(i,o) :: b6 ops l:=by simp[b6,ho]
 rw[this];exact h _ fun _ h=>h
theorem Zg {mvd R db hv:List Nat} {ex:List (Nat×AV)} {K:St->Prop} (h:K σ):p8 P T Mv G N mvd R db hv ex ops K (b6 ops []) σ:=h
end
attribute [simp] Bi
attribute [simp] va
end Go.Av
namespace Go.Proofs.YtdigkhaofjmgkaaGreatDoor
open Go.Av
theorem Vy (l:List Int):(∀ el∈l.map (fun n=>[D.v (.int .i64 n)]),el.length=1)=True:=eq_true (by simp)
theorem one_one (l:List Int):(∀ el∈l.map (fun n=>[D.v (.int .i64 n)]),∀ c∈el,c.one=true)=True:=eq_true (by simp[D.one])
theorem Vs (l:List Bool):(∀ el∈l.map (fun n=>[D.v (.bool n)]),el.length=1)=True:=eq_true fun el h=>by obtain⟨b,_,rfl⟩:=acD.1 h;rfl
theorem Vt (l:List Bool):(∀ el∈l.map (fun n=>[D.v (.bool n)]),∀ c∈el,c.one=true)=True:=eq_true fun el h c hc=>by
 obtain⟨b,_,rfl⟩:=acD.1 h;obtain rfl:=acV.1 hc;rfl
theorem OA (G:aq) (l:List Int) (h:l.length < 2^40):MC prog G [] 131 [.d (dk l)] (ak []) (.own 702 0 l.length) (ak [(702,.sl 3 1 (l.map fun n=>[.v (.int .i64 n)]))]):=by
 have fX:(l.map fun n=>[D.v (.int .i64 n)]).length=l.length:=by simp
 have q1:=Vy l;have q2:=one_one l;simp only[dk];rw[<- fX];rw[<- fX]at h;generalize (l.map fun n=>[D.v (.int .i64 n)])=L at *;refine MC.abS (al _) func131 rfl rfl (rs:=[.tmp 2]) results131 (by simp[ntmps131]) rfl fun X=>?_;simp only[ntmps131];refine AW.KD 0 rfl ?_ fun hl=>?_
 .refine ah [0] [] ?_;refine af fun K1 ax=>?_;refine ah [0,4] [] ?_;refine aeD false rfl (fun hc=>by cases hc) (fun hc=>?_);refine abO (ax _ ?_);have qf:=(Aq @q1 @q2);refine abQ [2] [5] ?_;refine AW.imp (aB.ren (r:=5) (r':=702) (by decide) (by simp)) ?_;refine AW.st (by simp[fb,ac4,Go.Av.ren,mZ];rfl) ?_;exact cZ
 .subst hl;refine ah [0] [] ?_;refine af fun K1 ax=>?_;refine ah [0,4] [] ?_;refine aeD true rfl (fun hc=>?_) (fun hc=>by cases hc);refine ah [2] [] ?_;refine AW.imp (aB.ky 2 702 3 1 rfl rfl) ?_;refine AW.st (by simp;rfl) ?_;exact cZ
theorem Cb (G:aq) (l:List Bool) (h:l.length < 2^40):MC prog G [] 130 [.d (dBl l)] (ak []) (.own 701 0 l.length) (ak [(701,.sl 4 1 (l.map fun n=>[.v (.bool n)]))]):=by
 have fX:(l.map fun n=>[D.v (.bool n)]).length=l.length:=by simp
 have q1:=Vs l;have q2:=Vt l;simp only[dBl];rw[<- fX];rw[<- fX]at h;generalize (l.map fun n=>[D.v (.bool n)])=L at *;refine MC.abS (al _) func130 rfl rfl (rs:=[.tmp 2]) results130 (by simp[ntmps130]) rfl fun X=>?_;simp only[ntmps130];refine AW.KD 0 rfl ?_ fun hl=>?_
 .refine ah [0] [] ?_;refine af fun K1 ax=>?_;refine ah [0,4] [] ?_;refine aeD false rfl (fun hc=>by cases hc) (fun hc=>?_);refine abO (ax _ ?_);have qf:=(Aq @q1 @q2);refine abQ [2] [5] ?_;refine AW.imp (aB.ren (r:=5) (r':=701) (by decide) (by simp)) ?_;refine AW.st (by simp[fb,ac4,Go.Av.ren,mZ];rfl) ?_;exact cZ
 .subst hl;refine ah [0] [] ?_;refine af fun K1 ax=>?_;refine ah [0,4] [] ?_;refine aeD true rfl (fun hc=>?_) (fun hc=>by cases hc);refine ah [2] [] ?_;refine AW.imp (aB.ky 2 701 4 1 rfl rfl) ?_;refine AW.st (by simp;rfl) ?_;exact cZ
theorem xM {s:Tx} (h:gd s=true):s≠[]:=(U7 h).1
theorem BX {S1 S2:Tx->Prop}:∀ (n:Nat) (e:Ex),SizeOf.sizeOf e<=n->fo e->(∀ s∈ck true e,S1 s)->(∀ s∈ck false e,S2 s)->fH S1 S2 e
 | 0,e,hn,_,_,_=>by cases e<;>simp at hn
 | n+1,e,hn,hw,h1,h2=>by
  have many:∀ l:List Ex,(∀ x∈l,SizeOf.sizeOf x<=n)->(∀ s∈ef true l,S1 s)->(∀ s∈ef false l,S2 s)->(∀ x∈l,fo x)->oY S1 S2 l:=by
   intro l
   induction l with
   | nil=>intro _ _ _ _;rw[oY];trivial
   | cons x l ih=>
    intro hs h1 h2 h3;simp only[ef,ab4]at h1 h2;rw[oY];exact⟨BX n x (hs x (by simp)) (h3 x (by simp)) (fun s h=>h1 s (.inl h)) (fun s h=>h2 s (.inl h)),ih (fun y hy=>hs y (by simp[hy])) (fun s h=>h1 s (.inr h)) (fun s h=>h2 s (.inr h)) (fun y hy=>h3 y (by simp[hy]))⟩
  cases e with
  | ff b=>rw[fH];trivial
  | bit s=>
   rw[fH];rw[fo]at hw;exact h1 s (by simp[ck,cu,eV,xM hw])
  | adb s=>
   rw[fH];rw[fo]at hw;exact⟨h1 s (by simp[ck,cu,eV,xM hw]),h2 s (by simp[ck,cu,eV,xM hw])⟩
  | fT s=>
   rw[fH];rw[fo]at hw;exact⟨h1 s (by simp[ck,cu,eV,xM hw]),h2 s (by simp[ck,cu,eV,xM hw])⟩
  | not x=>
   rw[fH];rw[fo]at hw;exact BX n x (by simp at hn;omega) hw (fun s h=>h1 s (by rw[ck];exact h)) (fun s h=>h2 s (by rw[ck];exact h))
  | and l=>
   rw[fH];rw[fo]at hw;exact many l (fun x hx=>by have:=acL hx;simp only[Ex.and.sizeOf_spec]at hn;omega) (fun s h=>h1 s (by rw[ck];exact h)) (fun s h=>h2 s (by rw[ck];exact h)) ((rK l).1 hw.2)
  | or l=>
   rw[fH];rw[fo]at hw;exact many l (fun x hx=>by have:=acL hx;simp only[Ex.or.sizeOf_spec]at hn;omega) (fun s h=>h1 s (by rw[ck];exact h)) (fun s h=>h2 s (by rw[ck];exact h)) ((rK l).1 hw.2)
theorem NV {S1 S2:Tx->Prop} {e:Ex} (hw:fo e) (h1:∀ s∈ck true e,S1 s) (h2:∀ s∈ck false e,S2 s):fH S1 S2 e:=BX _ e (abL _) hw h1 h2
theorem YA (p:PgP) (s t0:bX) {n:Nat} (h:n < p.ao.length):(p.ao.take (n+1)).foldl (jf p s) t0=jf p s ((p.ao.take n).foldl (jf p s) t0) p.ao[n]:=by
 rw[abR h,List.foldl_append];rfl
theorem ahl {p:PgP} (hc:acg p=none) (hk:∀ r∈p.ao,lQ r) {r:fI} (hr:r∈p.ao):∃ e,r.cond=some e/\fH (fun nm=>¬ bF p nm < 0) (fun nm=>¬ bF p nm < 0) e/\bE e<=2^28:=by
 obtain⟨e,he,hw,_,hb⟩:=hk r hr;obtain⟨_,_,e',gZ,aF⟩:=rN hc r hr;rw[he]at gZ;obtain rfl:=AI gZ;refine⟨e,he,NV hw (fun s hs=>aF s (xN.2 hs)) (fun s hs=>aF s (Kx (xN.2 hs))),by omega⟩
theorem O9 (G:aq) (p:PgP) (aP:acg p=none) (hk:∀ r∈p.ao,lQ r) (s:bX) (hs:eb p s) (bR:List Bool) (aF:bR.length=(ba p).length):ar prog G 66 [dPg p,qo s,dBl bR] (qo (mz p s bR)):=by
 have hg:=fq aP;have fj:=hg.names;have pQ:=hg.ao;have hs1:=hs.l1;have du:=hs.l2;have hkd:=Ke G p (by omega) 1;have uo:=Cb G s.is (by omega);have fL:=OA G s.ct (by omega);have ab3:=fun x=>sY G p (by omega) x;have wV:=sX p.names 1 p.names.length;obtain⟨t0,l4,hI0⟩:∃ t0,t0=(⟨jX (ba p) bR s.is (ba p).length,s.ct⟩:bX)/\eb p t0:=⟨_,rfl,(td bR hs _ (abL _)).1⟩;obtain⟨T,hT⟩:∃ T:Nat->bX,∀ n,T n=(p.ao.take n).foldl (jf p s) t0:=⟨_,fun _=>rfl⟩;have QW:T 0=t0:=hT 0
 have QZ:∀ n (h:n < p.ao.length),T (n+1)=jf p s (T n) p.ao[n]:=fun n h=>by rw[hT,hT,YA p s t0 h]
 have zx:T p.ao.length=mz p s bR:=by rw[hT,ac0,l4];rfl
 have uh:∀ n,eb p (T n):=fun n=>by rw[hT];exact (Be aP s _ (fun r hr=>acd hr) hI0).1
 have acZ:∀ n (h:n < p.ao.length),∃ e,p.ao[n].cond=some e/\ar prog G 51 [dE e,.fn (.func 132) [.ip (mv (T n)),.ip (cPg p)],.fn (.func 133) [.ip (mv s),.ip (cPg p)]] (.v (.bool (c8 (eO p (T n).is) (eO p s.is) e))):=fun n h=>by
  obtain⟨e,he,ha,hb⟩:=ahl aP hk (abH h);exact⟨e,he,PJ G _ _ _ _ _ _ _ _ (NT G p (by omega) (T n) (uh n).l1) (NU G p (by omega) s hs1) e ha hb⟩
 clear hT;rw[<- zx];have kN:∀ k,k<=(ba p).length->(jX (ba p) bR s.is k).length=p.names.length:=fun k hk=>(td bR hs k hk).1.l1
 have Jf:∀ k (h:k < (ba p).length) (h2:k < bR.length),∃ i,i < p.names.length/\(ba p)[k]=(i:Int)/\jX (ba p) bR s.is (k+1)=(jX (ba p) bR s.is k).set i bR[k]:=fun k h h2=>by
  obtain⟨i,hi,he,_⟩:=uP h;refine⟨i,hi,he,?_⟩;rw[Ft h he];congr 1;exact cT h2
 have zN:jX (ba p) bR s.is 0=s.is:=rfl;have dL:t0=⟨jX (ba p) bR s.is (ba p).length,s.ct⟩:=l4;clear l4;generalize QN:jX (ba p) bR s.is=PI at kN Jf zN dL;clear QN;have kI:gD p.names 1 p.names.length=ba p:=rfl;rw[kI]at hkd wV;generalize ba p=KI at *;simp only[dPg,cPg,bO,dP,dBl,dk,mv]at hkd uo fL ab3 acZ;simp only[dPg,cPg,bO,dP,qo,mv,dBl,dk]
 have nt:(p.names.map cNm).length=p.names.length:=by simp
 have gx:∀ i (h:i < p.names.length),(p.names.map cNm)[i]? = some [.v (.string (bs p.names[i].name)),.v (.int .i64 p.names[i].kind),.v (.int .i64 p.names[i].count)]:=fun i h=>by simp[h,cNm,dS]
 have df:(p.ao.map cf).length=p.ao.length:=by simp
 have pt:∀ i (h:i < p.ao.length),(p.ao.map cf)[i]? = some (cf p.ao[i]):=fun i h=>by simp[h]
 generalize p.names.map cNm=NN at *;generalize p.ao.map cf=RR at *;refine ar.abS (al _) func66 rfl rfl (rs:=[.cell 6 68]) results66 (by simp[ntmps66]) fun X=>?_;simp only[ntmps66,List.map];have fw:=@afg;refine rgq fw [2,3,4,6] [3,4,6] ?_;refine acp fw 3 ?_;refine acp fw 4 ?_;refine M4 (al _) (by kernel_rfl) ([]) ([7]) ([]) ([2,5]) ([(1,.d (.ip [.sl none (s.is.map fun b=>[.v (.bool b)]),.sl none (s.ct.map fun n=>[.v (.int .i64 n)])])),(4,.d (.ip [.sl none (s.ct.map fun n=>[.v (.int .i64 n)])]))]) (List.range 9) [2,3,4,6,7] [6,7,701,702] (fun _ _=>trivial) (by kernel_rfl) (by simp[lS]) fun K' ae=>?_;(repeat (refine ym rfl fun K2 aa=>?_;simp[ab];(repeat (refine⟨by omega,?_⟩));refine aa _ ?_;clear aa K2));refine ym rfl fun K2 aa=>?_;simp[ab];refine wL.mc (uo) (by simp[ab]) (by simp[ab]) (by simp[ab]) (by simp[ab]) (by simp[ab]) (by simp[ab]) (by simp[ab]) (by simp[gL,ab]) ?_;simp[ab];refine aa _ ?_;clear aa K2;(repeat (refine ym rfl fun K2 aa=>?_;simp[ab];(repeat (refine⟨by omega,?_⟩));refine aa _ ?_;clear aa K2));refine ym rfl fun K2 aa=>?_;simp[ab];refine wL.mc (fL) (by simp[ab]) (by simp[ab]) (by simp[ab]) (by simp[ab]) (by simp[ab]) (by simp[ab]) (by simp[ab]) (by simp[gL,ab]) ?_;simp[ab];refine aa _ ?_;clear aa K2;(repeat (refine ym rfl fun K2 aa=>?_;simp[ab];(repeat (refine⟨by omega,?_⟩));refine aa _ ?_;clear aa K2));refine Zg (ae _ ?_);refine AW.st (by simp[ab];rfl) ?_;clear ae K';refine af fun K1 ax=>?_;refine aT fw hkd [2,3,4,6,7,24,25,26] [6,7,701,702] ?_;refine bQ (S:=Nat) (fun k=>k<=KI.length) (fun k=>⟨aV [(2,.d (.sl none (bR.map fun b=>[.v (.bool b)]))),(3,.d (.ip [.sl none NN,.sl none RR])),(4,.d (.ip [.sl none (s.is.map fun b=>[.v (.bool b)]),.sl none (s.ct.map fun n=>[.v (.int .i64 n)])])),(6,.ref 6 0 0),(7,.ref 7 0 0),(24,.d (.sl none (KI.map fun x=>[.v (.int .i64 x)]))),(25,int KI.length),(26,int k)],ak [(6,.box 68 [.d (.sl (some false) []),.d (.sl (some false) [])]),(7,.box 68 [.own 701 0 (PI k).length,.own 702 0 s.ct.length]),(701,.sl 4 1 ((PI k).map fun b=>[.v (.bool b)])),(702,.sl 3 1 (s.ct.map fun n=>[.v (.int .i64 n)]))]⟩) (fun k=>KI.length - k) 0 ?_ (by omega) ?_
 .rw[zN];refine abW fw
 .intro k hkk;have mG:=kN k hkk;have zu:=Jf k;generalize ka:PI k=P at mG zu ⊢;refine rgq fw [2,3,4,6,7,24,25,26,27] [6,7,701,702] ?_;refine af fun K2 aa=>?_;refine eh (b:=k < KI.length) (by simp[D.le,D.le.go,aC,ab]) (fun hc=>?_) (fun hc=>?_)
  .have au:=hc
   have hk2:k < bR.length:=by omega
   obtain⟨i,hi,CR,QR⟩:=zu au hk2
   have eE:i < P.length:=by omega
   refine abO (aa _ ?_);refine af fun K3 aQ=>?_;refine aR ?_;have qf:=(Aq fw (Aq @au @CR));refine abQ [2,3,4,6,7,8,9,24,25,26] [6,7,701,702] ?_;refine ae0 (al _) (by kernel_rfl) [(1,7),(6,999),(7,701),(8,701)] (by kernel_rfl) fun K' ae=>?_;(repeat (refine gl fun K2 aa=>?_;simp[ab,eE,hk2];(repeat (refine⟨by omega,?_⟩));refine aa _ ?_;clear aa K2));refine adw (ae _ ?_);clear ae K';refine aQ _ (AW.norm [2,3,4,6,7,24,25,26] [6,7,701,702] (fun _ _=>trivial) (AW.st (by simp[ab,eE,hk2];rfl) ?_));refine reQ fw ?_;(try simp only[aJ,aL]);refine aS.mk (k+1) (by omega) (by omega) ?_;rw[QR];refine aB.to' (fun _ _=>trivial) (by simp[ab,ab5]) (by simp[ab,ab5])
  .have hke:k=KI.length:=by omega
   refine bx (ax _ ?_)
   have SW:t0=⟨P,s.ct⟩:=by rw[dL,<- hke,ka]
   refine rgq fw [3,4,6,7,10] [6,7,701,702] ?_;refine rgq fw [3,6,7,10,11] [6,7,701,702] ?_;refine af fun K4 bK=>?_;refine rgq fw [3,6,7,10,11,43,44,45] [6,7,701,702] ?_;refine bQ (S:=Nat) (fun n=>n<=p.ao.length) (fun n=>⟨aV [(3,.d (.ip [.sl none NN,.sl none RR])),(6,.ref 6 0 0),(7,.ref 7 0 0),(10,.fn (.func 132) [.ref 7 0 0,.d (.ip [.sl none NN,.sl none RR])]),(11,.d (.fn (.func 133) [.ip [.sl none (s.is.map fun b=>[.v (.bool b)]),.sl none (s.ct.map fun n=>[.v (.int .i64 n)])],.ip [.sl none NN,.sl none RR]])),(43,.d (.sl none RR)),(44,int RR.length),(45,int n)],ak [(6,.box 68 [.d (.sl (some false) []),.d (.sl (some false) [])]),(7,.box 68 [.own 701 0 (T n).is.length,.own 702 0 (T n).ct.length]),(701,.sl 4 1 ((T n).is.map fun b=>[.v (.bool b)])),(702,.sl 3 1 ((T n).ct.map fun n=>[.v (.int .i64 n)]))]⟩) (fun n=>p.ao.length - n) 0 ?_ (by omega) ?_
   .rw[QW,SW];refine abW fw
   .intro n hn;have ui:=QZ n;have qK:=uh n;have af3:=acZ n;generalize QY:T n=tn at ui qK af3 ⊢;obtain⟨I,C⟩:=tn;have lh:=qK.l1;have Qu:=qK.l2;have uI:=Tp aP qK;dsimp only at lh Qu uI af3 ⊢;refine rgq fw [3,6,7,10,11,43,44,45,46] [6,7,701,702] ?_;refine af fun K5 bB=>?_;by_cases au:n < p.ao.length
    .have cr:n < RR.length:=by omega
     have ju:(n:Int) < (RR.length:Int):=by omega
     refine abP (by simp[cr]) ?_;refine abO (bB _ ?_);refine af fun K6 cq=>?_;refine aR ?_;obtain⟨e,he,aH⟩:=af3 au;obtain⟨i,hi,kM,_,jM⟩:=Bd aP (abH au);obtain⟨qO,_⟩:=rN aP _ (abH au);have bg:=ui au;have gy:=pt n au;have jx:=ab3 p.ao[n].name;rw[kM]at jx;unfold jf at bg;simp only[kM,abX,jM,he,og]at bg;unfold cf at gy;rw[he]at gy;generalize p.ao[n]=r at gy jx qO bg;obtain⟨rk,rn,rc⟩:=r;dsimp only at gy jx qO bg;generalize c8 (eO p I) (eO p s.is) e=yes at aH bg;obtain⟨ety,ev,IG⟩:=adE e;rw[show dC (some e)=dE e from rfl,IG]at gy;rw[IG]at aH;simp only[dS]at jx gy;have r5:=gx i hi
     have hi1:i < I.length:=by omega
     have eE:i < C.length:=by omega
     have jr:i < NN.length:=by omega
     have iA:NN[i]=[.v (.string (bs p.names[i].name)),.v (.int .i64 p.names[i].kind),.v (.int .i64 p.names[i].count)]:=by
      rw[By jr]at r5;exact AI r5
     have zv:RR[n]=[.v (.int .i64 rk),.v (.string (bs rn)),.bt ety ev]:=by
      rw[By cr]at gy;exact AI gy
     have ab6:=Yw G ⟨I,C⟩ i p.names[i].count yes hi1 eE (fun x hx=>by have:=uI x hx;omega);generalize p.names[i].count=m at iA bg ab6;generalize p.names[i].name=nmi at iA;generalize p.names[i].kind=kdi at iA;have qf:=(Aq fw (Aq @cr (Aq @ju @zv)));refine abQ [3,6,7,10,11,13,43,44,45] [6,7,701,702,13] ?_;refine acp fw 13 ?_;refine aT fw jx [3,6,7,10,11,13,14,43,44,45] [6,7,701,702] ?_;refine rg [3,6,7,10,11,13,14,15,43,44,45] [6,7,701,702] (fun _ _=>trivial) fun K' ae=>?_;(repeat (refine sxn fun K2 aa=>?_;simp[ab];(repeat (refine⟨by omega,?_⟩));refine aa _ ?_;clear aa K2));refine sxn fun K2 aa=>?_;simp[ab];refine ab8.aee (aH) (by simp;rfl) (by first | exact D.abY _ | simp[aC,abU,abK,D.le,D.le.go,D.le_refl,D.abY,ab]) (by simp[D.scalar]) ?_;refine aa _ ?_;clear aa K2;simp only[aD,cz];(repeat (refine sxn fun K2 aa=>?_;simp[ab];(repeat (refine⟨by omega,?_⟩));refine aa _ ?_;clear aa K2));refine sxz (ae _ (AW.st (by simp[ab];rfl) ?_));clear ae K';refine rgq fw [3,6,7,10,11,14,15,43,44,45,59] [6,7,701,702] ?_;refine aR ?_
     have wZ:rk=1\/rk=2\/rk=3\/rk=4\/rk=5\/rk=6:=by omega
     rcases wZ with rfl | rfl | rfl | rfl | rfl | rfl
     .have bg:=bg;simp at bg;refine rgq fw [3,6,7,10,11,14,15,43,44,45,59,60] [6,7,701,702] ?_;refine abP rfl ?_;have qf:=(Aq fw @hi1);refine dN cq [3,6,7,10,11,43,44,45] [6,7,701,702] ?_;refine reQ fw ?_;(try simp only[aJ,aL]);refine aS.mk (n+1) (by omega) (by omega) ?_;rw[bg];refine aB.to' (fun _ _=>trivial) (by simp[ab,ab5]) (by simp[ab,ab5])
     .have bg:=bg;rw[cT hi1]at bg;refine rgq fw [3,6,7,10,11,14,15,43,44,45,59,60] [6,7,701,702] ?_;refine abN rfl ?_;refine rgq fw [3,6,7,10,11,14,15,43,44,45,59,67] [6,7,701,702] ?_;refine abP rfl ?_
      cases hIb:I[i] with
      | true=>
       rw[hIb]at bg;simp at bg;refine ae0 (al _) (by kernel_rfl) [(1,7),(4,7),(6,701),(7,701),(11,701),(12,701)] (by kernel_rfl) fun K' ae=>?_;(repeat (refine gl fun K2 aa=>?_;simp[ab,hi1,hIb];(repeat (refine⟨by omega,?_⟩));refine aa _ ?_;clear aa K2));refine adw (ae _ ?_);clear ae K';refine cq _ (AW.norm [3,6,7,10,11,43,44,45] [6,7,701,702] (fun _ _=>trivial) (AW.st (by simp[ab,hi1,hIb];rfl) ?_));refine reQ fw ?_;(try simp only[aJ,aL]);refine aS.mk (n+1) (by omega) (by omega) ?_;rw[bg];refine aB.to' (fun _ _=>trivial) (by simp[ab,ab5]) (by simp[ab,ab5])
      | false=>
       rw[hIb]at bg;simp at bg;refine ae0 (al _) (by kernel_rfl) [(1,7),(4,7),(6,701),(7,701),(11,701),(12,701)] (by kernel_rfl) fun K' ae=>?_;(repeat (refine gl fun K2 aa=>?_;simp[ab,hi1,hIb];(repeat (refine⟨by omega,?_⟩));refine aa _ ?_;clear aa K2));refine adw (ae _ ?_);clear ae K';refine cq _ (AW.norm [3,6,7,10,11,43,44,45] [6,7,701,702] (fun _ _=>trivial) (AW.st (by simp[ab,hi1,hIb];rfl) ?_));refine reQ fw ?_;(try simp only[aJ,aL]);refine aS.mk (n+1) (by omega) (by omega) ?_;rw[bg];refine aB.to' (fun _ _=>trivial) (by simp[ab,ab5]) (by simp[ab,ab5])
     .have bg:=bg;rw[cT hi1]at bg;refine rgq fw [3,6,7,10,11,14,15,43,44,45,59,60] [6,7,701,702] ?_;refine abN rfl ?_;refine rgq fw [3,6,7,10,11,14,15,43,44,45,59,67] [6,7,701,702] ?_;refine abN rfl ?_;refine rgq fw [3,6,7,10,11,14,15,43,44,45,59,81] [6,7,701,702] ?_;refine abP rfl ?_
      cases hIb:I[i] with
      | true=>
       rw[hIb]at bg;simp at bg;refine ae0 (al _) (by kernel_rfl) [(1,7),(4,7),(6,701),(7,701),(12,701),(13,701)] (by kernel_rfl) fun K' ae=>?_;(repeat (refine gl fun K2 aa=>?_;simp[ab,hi1,hIb];(repeat (refine⟨by omega,?_⟩));refine aa _ ?_;clear aa K2));refine adw (ae _ ?_);clear ae K';refine cq _ (AW.norm [3,6,7,10,11,43,44,45] [6,7,701,702] (fun _ _=>trivial) (AW.st (by simp[ab,hi1,hIb];rfl) ?_));refine reQ fw ?_;(try simp only[aJ,aL]);refine aS.mk (n+1) (by omega) (by omega) ?_;rw[bg];refine aB.to' (fun _ _=>trivial) (by simp[ab,ab5]) (by simp[ab,ab5])
      | false=>
       rw[hIb]at bg;simp at bg;refine ae0 (al _) (by kernel_rfl) [(1,7),(4,7),(6,701),(7,701),(12,701),(13,701)] (by kernel_rfl) fun K' ae=>?_;(repeat (refine gl fun K2 aa=>?_;simp[ab,hi1,hIb];(repeat (refine⟨by omega,?_⟩));refine aa _ ?_;clear aa K2));refine adw (ae _ ?_);clear ae K';refine cq _ (AW.norm [3,6,7,10,11,43,44,45] [6,7,701,702] (fun _ _=>trivial) (AW.st (by simp[ab,hi1,hIb];rfl) ?_));refine reQ fw ?_;(try simp only[aJ,aL]);refine aS.mk (n+1) (by omega) (by omega) ?_;rw[bg];refine aB.to' (fun _ _=>trivial) (by simp[ab,ab5]) (by simp[ab,ab5])
     .have bg:=bg;simp at bg;refine rgq fw [3,6,7,10,11,14,15,43,44,45,59,60] [6,7,701,702] ?_;refine abN rfl ?_;refine rgq fw [3,6,7,10,11,14,15,43,44,45,59,67] [6,7,701,702] ?_;refine abN rfl ?_;refine rgq fw [3,6,7,10,11,14,15,43,44,45,59,81] [6,7,701,702] ?_;refine abN rfl ?_;refine rgq fw [3,6,7,10,11,14,15,43,44,45,59,96] [6,7,701,702] ?_;refine abP rfl ?_;obtain⟨I2,C2,CP,Qw,Qs⟩:∃ I2 C2,gS ⟨I,C⟩ i m yes=⟨I2,C2⟩/\I2.length=I.length/\C2.length=C.length:=⟨_,_,rfl,by simp,by simp⟩;rw[CP]at ab6 bg;simp only[yh,ab]at ab6
      have ig:i < I2.length:=by omega
      have hj2:i < C2.length:=by omega
      have qf:=(Aq fw (Aq @jr @iA));refine adu ab6 [3,6,7,10,11,14,15,43,44,45] [6,7,701,702] ?_;refine rgq fw [3,6,7,10,11,14,43,44,45,108] [6,7,701,702] ?_
      cases yes with
      | true=>
       simp only[if_true]at bg;refine abN rfl ?_;refine abO ?_;refine cq _ (AW.norm [3,6,7,10,11,43,44,45] [6,7,701,702] (fun _ _=>trivial) (AW.st (by simp[ab];rfl) ?_));refine reQ fw ?_;(try simp only[aJ,aL]);refine aS.mk (n+1) (by omega) (by omega) ?_;rw[bg];refine aB.to' (fun _ _=>trivial) (by simp[ab,ab5]) (by simp[ab,ab5])
      | false=>
       simp only[abT,if_false,oV]at bg;refine abP rfl ?_;have qf:=(Aq fw (Aq @ig @hj2));refine dN cq [3,6,7,10,11,43,44,45] [6,7,701,702] ?_;refine reQ fw ?_;(try simp only[aJ,aL]);refine aS.mk (n+1) (by omega) (by omega) ?_;rw[bg];refine aB.to' (fun _ _=>trivial) (by simp[ab,ab5]) (by simp[ab,ab5])
     .have bg:=bg;simp at bg;refine rgq fw [3,6,7,10,11,14,15,43,44,45,59,60] [6,7,701,702] ?_;refine abN rfl ?_;refine rgq fw [3,6,7,10,11,14,15,43,44,45,59,67] [6,7,701,702] ?_;refine abN rfl ?_;refine rgq fw [3,6,7,10,11,14,15,43,44,45,59,81] [6,7,701,702] ?_;refine abN rfl ?_;refine rgq fw [3,6,7,10,11,14,15,43,44,45,59,96] [6,7,701,702] ?_;refine abN rfl ?_;refine rgq fw [3,6,7,10,11,14,15,43,44,45,59,117] [6,7,701,702] ?_;refine abP rfl ?_;obtain⟨I2,C2,CP,Qw,Qs⟩:∃ I2 C2,gS ⟨I,C⟩ i m yes=⟨I2,C2⟩/\I2.length=I.length/\C2.length=C.length:=⟨_,_,rfl,by simp,by simp⟩;rw[CP]at ab6 bg;simp only[yh,ab]at ab6;refine cR (al _) fun K' ae=>?_;(repeat (refine sxn fun K2 aa=>?_;simp[ab,jr,iA];(repeat (refine⟨by omega,?_⟩));refine aa _ ?_;clear aa K2));refine sxn fun K2 aa=>?_;simp[ab,jr,iA];refine ab8.mc (ab6) ?_ ?_ ?_ ?_ ?_<;>simp[ab,jr,iA];refine aa _ ?_;clear aa K2;(repeat (refine sxn fun K2 aa=>?_;simp[ab,jr,iA];(repeat (refine⟨by omega,?_⟩));refine aa _ ?_;clear aa K2));refine sxz (ae _ ?_);clear ae K';refine cq _ (AW.norm [3,6,7,10,11,43,44,45] [6,7,701,702] (fun _ _=>trivial) (AW.st (by simp[ab,jr,iA];rfl) ?_));refine reQ fw ?_;(try simp only[aJ,aL]);refine aS.mk (n+1) (by omega) (by omega) ?_;rw[bg];refine aB.to' (fun _ _=>trivial) (by simp[ab,ab5]) (by simp[ab,ab5])
     .have bg:=bg;simp at bg;refine rgq fw [3,6,7,10,11,14,15,43,44,45,59,60] [6,7,701,702] ?_;refine abN rfl ?_;refine rgq fw [3,6,7,10,11,14,15,43,44,45,59,67] [6,7,701,702] ?_;refine abN rfl ?_;refine rgq fw [3,6,7,10,11,14,15,43,44,45,59,81] [6,7,701,702] ?_;refine abN rfl ?_;refine rgq fw [3,6,7,10,11,14,15,43,44,45,59,96] [6,7,701,702] ?_;refine abN rfl ?_;refine rgq fw [3,6,7,10,11,14,15,43,44,45,59,117] [6,7,701,702] ?_;refine abN rfl ?_;refine rgq fw [3,6,7,10,11,14,15,43,44,45,128] [6,7,701,702] ?_;refine abP rfl ?_;refine rgq fw [3,6,7,10,11,14,43,44,45,130] [6,7,701,702] ?_
      cases yes with
      | true=>
       simp only[if_true,oV]at bg;refine abP rfl ?_;have qf:=(Aq fw (Aq @hi1 @eE));refine dN cq [3,6,7,10,11,43,44,45] [6,7,701,702] ?_;refine reQ fw ?_;(try simp only[aJ,aL]);refine aS.mk (n+1) (by omega) (by omega) ?_;rw[bg];refine aB.to' (fun _ _=>trivial) (by simp[ab,ab5]) (by simp[ab,ab5])
      | false=>
       simp only[abT,if_false]at bg;refine abN rfl ?_;refine abO ?_;refine cq _ (AW.norm [3,6,7,10,11,43,44,45] [6,7,701,702] (fun _ _=>trivial) (AW.st (by simp[ab];rfl) ?_));refine reQ fw ?_;(try simp only[aJ,aL]);refine aS.mk (n+1) (by omega) (by omega) ?_;rw[bg];refine aB.to' (fun _ _=>trivial) (by simp[ab,ab5]) (by simp[ab,ab5])
    .have ju:¬ (n:Int) < (RR.length:Int):=by omega
     have aI:n=p.ao.length:=by omega
     refine abN (by simp;omega) ?_;refine bx (bK _ ?_)
     have hTl:T p.ao.length=⟨I,C⟩:=by rw[<- aI];exact QY
     refine rgq fw [6] [6,7,701,702] ?_;exact aN (Aq fw @hTl)
theorem YS {p:PgP} (aP:acg p=none) (hk:∀ r∈p.ao,lQ r):yB p:=by
 have hg:=fq aP;have fj:=hg.names;have pQ:=hg.ao;refine⟨by omega,by omega,fun n hn=>?_,fun r hr e he=>?_⟩
 .have:=U4 (hg.name n hn).1;omega
 .obtain⟨e',gZ,_,_,hb⟩:=hk r hr;rw[he]at gZ;obtain rfl:=AI gZ;have h1:=Lib.compact_length_le (jY (ck true e));have h2:=oQ (ck true e);have h3:=s6 true e;refine⟨by omega,?_⟩;unfold dv;omega
def xy (x:Int) (k:Nat):Bool:=k9 .and .i64 (x.fdiv (2 ^ (min k IntKind.i64.bits))) 1 == 1
def e6 (x:Int):Nat->List Bool
 | 0=>[]
 | k+1=>e6 x k ++ [xy x k]
theorem xz (x:Int):∀ k,(e6 x k).length=k
 | 0=>rfl
 | k+1=>by rw[e6,acC,xz x k];rfl
def afN (t:Tx):Option PgP:=if 1500 < t.length then none else match gG t with
 | (none,p)=>some p
 | (some _,_)=>none
theorem Lj {t:Tx} {p:PgP} (h:afN t=some p):gG t=(none,p):=by
 unfold afN at h;split at h
 .cases h
 .split at h
  .rename_i q hq;obtain rfl:=AI h;exact hq
  .cases h
def tN:Option PgP->D
 | none=>.aW [dPg ⟨[],[]⟩,cX ⟨[],[]⟩,.v (.bool false)]
 | some p=>.aW [dPg p,cX p,.v (.bool true)]
theorem Co:dPg ⟨[],[]⟩ = .agg [.sl none [],.sl none []]:=rfl
theorem Cp:cX ⟨[],[]⟩ = .agg [.sl none [],.sl none []]:=rfl
structure PtP where
 nm:Nat
 most:Int
 far:Bool
def gV (p:PgP) (n:eM):Bool:=p.ao.any (kG n.name)
def partOf (n:eM) (ed:Bool) (i:Nat):List PtP:=if n.kind=2\/(n.kind=1/\ed=true) then [⟨i,2,false⟩] else if n.kind≠1 then [⟨i,n.count+1,true⟩] else []
def eJ (p:PgP):Nat->List PtP
 | 0=>[]
 | i+1=>eJ p i ++ partOf (p.names.getD i ⟨[],0,0⟩) (gV p (p.names.getD i ⟨[],0,0⟩)) i
def bn (p:PgP):List PtP:=eJ p p.names.length
theorem agL {p:PgP} {i:Nat} (h:i < p.names.length):eJ p (i+1)=eJ p i ++ partOf p.names[i] (gV p p.names[i]) i:=by
 rw[eJ,cT h]
def bp:List PtP->Int
 | []=>1
 | x :: l=>x.most * bp l
def ae6 (x:PtP) (s:bX):Int:=if x.far then s.ct.getD x.nm 0 else if s.is.getD x.nm false then 1 else 0
def eA:List PtP->bX->Int
 | [],_=>0
 | x :: l,s=>ae6 x s+x.most * eA l s
def oN (x:PtP) (k:Int) (s:bX):bX:=if x.far then ⟨s.is.set x.nm (decide (k=x.most - 1)),s.ct.set x.nm k⟩ else ⟨s.is.set x.nm (decide (k=1)),s.ct⟩
def ml:List PtP->Int->bX->bX
 | [],_,s=>s
 | x :: l,n,s=>ml l (n / x.most) (oN x (n % x.most) s)
structure afY (p:PgP) (x:PtP):Prop where
 lt:x.nm < p.names.length
 fa:x.far=true->3<=p.names[x.nm].kind/\x.most=p.names[x.nm].count+1
 ne:x.far=false->x.most=2/\p.names[x.nm].kind < 3
 m2:2<=x.most
 m8:x.most<=8
theorem VI {n:eM} {ed:Bool} {i:Nat} {x:PtP} (h:x∈partOf n ed i):x.nm=i/\((x.far=false/\x.most=2/\(n.kind=2\/(n.kind=1/\ed=true)))\/(x.far=true/\x.most=n.count+1/\n.kind≠1/\n.kind≠2)):=by
 unfold partOf at h;split at h
 .rename_i h1;rw[acV]at h;subst h;exact⟨rfl,.inl ⟨rfl,rfl,h1⟩⟩
 .rename_i h1;split at h
  .rename_i h2;rw[acV]at h;subst h;exact⟨rfl,.inr ⟨rfl,rfl,h2,fun e=>h1 (.inl e)⟩⟩
  .cases h
theorem KZ {p:PgP} {x:PtP}:∀ {n:Nat},n<=p.names.length->(x∈eJ p n↔∃ i,∃ hi:i < p.names.length,i < n/\x∈partOf p.names[i] (gV p p.names[i]) i)
 | 0,_=>by simp[eJ]
 | n+1,hn=>by
  rw[agL (by omega),ab4,KZ (by omega)];constructor
  .rintro (⟨i,hi,h1,h2⟩ | h)
   .exact⟨i,hi,by omega,h2⟩
   .exact⟨n,by omega,by omega,h⟩
  .rintro⟨i,hi,h1,h2⟩;by_cases e:i=n
   .subst e;exact .inr h2
   .exact .inl ⟨i,hi,by omega,h2⟩
theorem kr {p:PgP} (hg:hC p) {x:PtP} (h:x∈bn p):afY p x:=by
 obtain⟨i,hi,_,h2⟩:=(KZ (abL _)).1 h;obtain⟨rfl,h3⟩:=VI h2;have h4:=hg.name _ (abH hi);have h5:=hg.count _ (abH hi)
 rcases h3 with⟨e1,e2,e3⟩ | ⟨e1,e2,e3,e4⟩
 .exact⟨hi,(fun h=>by rw[e1]at h;cases h),fun _=>⟨e2,by omega⟩,by omega,by omega⟩
 .exact⟨hi,fun _=>⟨by omega,e2⟩,(fun h=>by rw[e1]at h;cases h),by omega,by omega⟩
theorem AU (p:PgP):∀ n,(eJ p n).length<=n
 | 0=>abL _
 | n+1=>by
  have:=AU p n;rw[eJ,acC];unfold partOf;split<;>(try split)<;>simp<;>omega
theorem kW {l:List PtP} (h:∀ x∈l,2<=x.most):0 < bp l:=by
 induction l with
 | nil=>decide
 | cons x l ih=>
  have h1:=ih fun y hy=>h y (by simp[hy]);have h2:=h x (by simp);exact Int.mul_pos (by omega) h1
theorem x4:∀ (a b:List PtP),bp (a ++ b)=bp a * bp b
 | [],b=>by simp[bp]
 | x :: a,b=>by rw[aeo,bp,bp,x4 a b,Int.mul_assoc]
theorem VX {l:List PtP} {k:Nat} (h:k < l.length):bp (l.take (k+1))=bp (l.take k) * l[k].most:=by
 rw[abR h,x4];simp[bp]
theorem VW {l:List PtP} (h:∀ x∈l,2<=x.most):∀ k,bp (l.take k)<=bp l:=by
 intro k
 have e:bp l=bp (l.take k) * bp (l.drop k):=by rw[<- x4,aeM]
 have h1:0 < bp (l.take k):=kW fun x hx=>h x (acd hx);have h2:0 < bp (l.drop k):=kW fun x hx=>h x (ac7 hx);rw[e];have:=adv (show (1:Int)<=bp (l.drop k) by omega) (aex h1);omega
theorem Cr {p:PgP} {s:bX} (hs:eb p s) {x:PtP} (hx:afY p x):0<=ae6 x s/\ae6 x s < x.most:=by
 unfold ae6
 cases hf:x.far with
 | true=>
  have h1:=hs.lo x.nm;have h2:=hs.hi x.nm hx.lt;have h3:=(hx.fa hf).2;simp only[if_true];omega
 | false=>
  have:=(hx.ne hf).1;simp only[abT,if_false];split<;>omega
theorem AG {l:List PtP} {s:bX} (h:∀ x∈l,0<=ae6 x s/\ae6 x s < x.most):0<=eA l s/\eA l s < bp l:=by
 induction l with
 | nil=>exact⟨Int.le_refl 0,(by decide:(0:Int) < 1)⟩
 | cons x l ih=>
  have h1:=ih fun y hy=>h y (by simp[hy]);have h2:=h x (by simp);rw[eA,bp];have h3:0<=x.most * eA l s:=ae7 (by omega) h1.1;have h4:x.most * (eA l s+1)<=x.most * bp l:=adv (by omega) (by omega);rw[Int.mul_add,Int.mul_one]at h4;omega
def stP (p:PgP) (n:Int):bX:=ml (bn p) n (jg p)
theorem V1 {p:PgP} {x:PtP} (hx:afY p x) {s:bX} (hs:eb p s) {d:Int} (h0:0<=d) (h1:d < x.most):eb p (oN x d s):=by
 have au:=hx.lt;unfold oN
 cases hf:x.far with
 | false=>
  simp only[abT,if_false];exact ya hs au (hx.ne hf).2 _
 | true=>
  have pL:=(hx.fa hf).2;simp only[if_true];refine⟨by simp[hs.l1],by simp[hs.l2],fun k=>?_,fun k hk=>?_,fun k hk h3=>?_⟩
  .show 0<=(s.ct.set x.nm d).getD k 0;by_cases e:x.nm=k
   .subst e;rw[jK (by rw[hs.l2];exact au)];exact h0
   .rw[gq e];exact hs.lo k
  .show (s.ct.set x.nm d).getD k 0<=_;by_cases e:x.nm=k
   .subst e;rw[jK (by rw[hs.l2];exact au)];omega
   .rw[gq e];exact hs.hi k hk
  .show (s.is.set x.nm _).getD k false=decide ((s.ct.set x.nm d).getD k 0=_);by_cases e:x.nm=k
   .subst e;rw[jK (by rw[hs.l1];exact au),jK (by rw[hs.l2];exact au)];congr 1;exact propext ⟨fun h=>by omega,fun h=>by omega⟩
   .rw[gq e,gq e];exact hs.at' k hk h3
theorem Mi {p:PgP}:∀ {l:List PtP} {n:Int} {s:bX},(∀ x∈l,afY p x)->eb p s->eb p (ml l n s)
 | [],_,_,_,hs=>hs
 | x :: l,n,s,hl,hs=>by
  have hx:=hl x (by simp);have:=hx.m2;rw[ml];exact Mi (fun y hy=>hl y (by simp[hy])) (V1 hx hs (Int.emod_nonneg _ (by omega)) (Int.emod_lt_of_pos _ (by omega)))
theorem vu {p:PgP} (hc:acg p=none) (n:Int):eb p (stP p n):=Mi (fun _ hx=>kr (fq hc) hx) (ah9 (fq hc))
theorem Vg {p:PgP} (hc:acg p=none) {s:bX} (hs:eb p s):0<=eA (bn p) s/\eA (bn p) s < bp (bn p):=
 AG fun _ hx=>Cr hs (kr (fq hc) hx)
theorem HF {α:Type} {d:α}:∀ {a b:List α},a.length=b.length->(∀ i,i < a.length->a.getD i d=b.getD i d)->a=b:=fun {a b} hl h=>by
 refine List.ext_getElem hl fun i h1 h2=>?_;have:=h i h1
 rwa [cT h1,cT h2]at this
def lJ (p:PgP) (m:Nat) (s:Nat):List Int:=(List.range (2 ^ m)).map fun i:Nat=>eA (bn p) (mz p (stP p s) (e6 (i:Int) m))
def abZ (p:PgP):List (List Int):=(List.range (bp (bn p)).toNat).map (lJ p (ba p).length)
theorem oL (p:PgP):(abZ p).length=(bp (bn p)).toNat:=by simp[abZ]
theorem p4 (p:PgP) (m s:Nat):(lJ p m s).length=2 ^ m:=by simp[lJ]
theorem s5 {p:PgP} {s:Nat} (h:s < (abZ p).length):(abZ p)[s]=lJ p (ba p).length s:=by simp[abZ]
theorem Yh {p:PgP} {m s i:Nat} (h:i < (lJ p m s).length):(lJ p m s)[i]=eA (bn p) (mz p (stP p s) (e6 i m)):=by simp[lJ]
theorem Yi {p:PgP} (hc:acg p=none) {m s:Nat} {x:Int} (h:x∈lJ p m s):0<=x/\x < bp (bn p):=by
 obtain⟨i,_,rfl⟩:=acD.1 h;exact Vg hc (Cs hc (vu hc _) _).1
structure GF (NX:List (List Int)):Prop where
 pos:0 < NX.length
 mem:∀ l∈NX,∀ t∈l,0<=t/\t < NX.length
theorem aeY {p:PgP} (aP:acg p=none):GF (abZ p):=by
 have hp:0 < bp (bn p):=kW fun x hx=>(kr (fq aP) hx).m2;refine⟨by rw[oL];omega,fun l hl t sG=>?_⟩;obtain⟨s,_,rfl⟩:=acD.1 hl;have:=Yi aP sG;rw[oL];omega
structure n5 (NX:List (List Int)) (kp:List Int->List Bool->Bool) (d:Bool) (B X:List Bool):Prop where
 lb:B.length=NX.length
 lx:X.length=NX.length
 base:∀ s,s < NX.length->B.getD s d = !d->X.getD s d = !d
 shut:∀ s (h:s < NX.length),X.getD s d=d->kp NX[s] X=d
 least:∀ Y:List Bool,Y.length=NX.length->(∀ s,s < NX.length->B.getD s d = !d->Y.getD s d = !d)->(∀ s (h:s < NX.length),Y.getD s d=d->kp NX[s] Y=d)->∀ s,s < NX.length->X.getD s d = !d->Y.getD s d = !d
theorem xC {NX:List (List Int)} {kp:List Int->List Bool->Bool} {d:Bool} {B X X':List Bool} (h:n5 NX kp d B X) (h':n5 NX kp d B X'):X=X':=by
 refine HF (d:=d) (h.lx.trans h'.lx.symm) fun s hs=>?_;rw[h.lx]at hs;have a:=h.least X' h'.lx h'.base h'.shut s hs;have b:=h'.least X h.lx h.base h.shut s hs;cases d<;>cases e1:X.getD s _<;>cases e2:X'.getD s _<;>simp_all
def aeF (NX:List (List Int)) (kp:List Int->List Bool->Bool) (d:Bool):Prop:=∀ X Y:List Bool,X.length=NX.length->Y.length=NX.length->(∀ s,s < NX.length->X.getD s d = !d->Y.getD s d = !d)->∀ s (h:s < NX.length),kp NX[s] Y=d->kp NX[s] X=d
structure aek (NX:List (List Int)) (kp:List Int->List Bool->Bool) (d:Bool) (B X:List Bool):Prop where
 lb:B.length=NX.length
 lx:X.length=NX.length
 base:∀ s,s < NX.length->B.getD s d = !d->X.getD s d = !d
 least:∀ Y:List Bool,Y.length=NX.length->(∀ s,s < NX.length->B.getD s d = !d->Y.getD s d = !d)->(∀ s (h:s < NX.length),Y.getD s d=d->kp NX[s] Y=d)->∀ s,s < NX.length->X.getD s d = !d->Y.getD s d = !d
theorem vC {NX:List (List Int)} {kp:List Int->List Bool->Bool} {d:Bool} {B:List Bool} (h:B.length=NX.length):aek NX kp d B B:=⟨h,h,fun _ _ h=>h,fun _ _ h _=>h⟩
theorem Ge {NX:List (List Int)} {kp:List Int->List Bool->Bool} {d:Bool} {B X:List Bool} (hm:aeF NX kp d) (h:aek NX kp d B X) {s:Nat} (hs:s < NX.length) (hk:kp NX[s] X≠d):aek NX kp d B (X.set s (!d)):=by
 have hl:=h.lx;refine⟨h.lb,by simp[hl],fun u hu hb=>?_,fun Y hY h1 h2 u hu hx=>?_⟩
 .by_cases e:s=u
  .subst e;exact jK (by omega)
  .rw[gq e];exact h.base u hu hb
 .by_cases e:s=u
  .subst e;have Q1:¬ Y.getD s d=d:=fun hy=>hk (hm X Y hl hY (fun v hv=>h.least Y hY h1 h2 v hv) s hs (h2 s hs hy));cases d<;>cases hh:Y.getD s _<;>simp_all
  .rw[gq e]at hx;exact h.least Y hY h1 h2 u hu hx
theorem agA {NX:List (List Int)} {kp:List Int->List Bool->Bool} {d:Bool} {B X:List Bool} (h:aek NX kp d B X) (hs:∀ s (h:s < NX.length),X.getD s d=d->kp NX[s] X=d):n5 NX kp d B X:=⟨h.lb,h.lx,h.base,hs,h.least⟩
def iJ (d:Bool) (X:List Bool):Nat:=X.countP fun b=>b == d
theorem aid {d:Bool} {X:List Bool} {s:Nat} (hs:s < X.length) (h:X.getD s d=d):iJ d (X.set s (!d))+1=iJ d X:=by
 unfold iJ;rw[List.countP_set (h:=hs)];rw[cT hs]at h;have h1:0 < X.countP fun b=>b == d:=List.countP_pos_iff.2 ⟨X[s],abH hs,by rw[h];simp⟩;rw[h]
 have e1:(d == d)=true:=by simp
 have e2:((!d) == d)=false:=by cases d<;>rfl
 rw[e1,e2];simp only[if_true,abT,if_false];omega
def eN (l:List Int) (X:List Bool):Bool:=l.all fun t=>X.getD t.toNat false
def jk (l:List Int) (X:List Bool):Bool:=l.any fun t=>X.getD t.toNat false
theorem EW (NX:List (List Int)):aeF NX jk false:=fun X Y hX hY h s hs hk=>by
 unfold jk at *;rw[List.any_eq_false]at *;intro t ht hx;refine hk t ht ?_
 have hb:t.toNat < X.length:=acj fun hn=>by
  rw[abJ,adh (by omega)]at hx;cases hx
 exact h _ (by rw[hX]at hb;exact hb) (by simpa using hx)
theorem EU (NX:List (List Int)):aeF NX eN false:=fun X Y hX hY h s hs hk=>by
 unfold eN at *;rw[List.all_eq_false]at *;obtain⟨t,ht,hx⟩:=hk;refine⟨t,ht,fun jU=>hx ?_⟩
 have hb:t.toNat < X.length:=acj fun hn=>by
  rw[abJ,adh (by omega)]at jU;cases jU
 exact h _ (by rw[hX]at hb;exact hb) (by simpa using jU)
theorem HN {X:List Bool} {i:Nat} (h:i < X.length):X.getD i true=X.getD i false:=by rw[cT h,cT h]
theorem EV {NX:List (List Int)} (ht:GF NX):aeF NX eN true:=fun X Y hX hY h s hs hk=>by
 unfold eN at *;rw[ack]at *;intro t cC;obtain⟨h0,h1⟩:=ht.mem _ (abH hs) t cC;have hy:=hk t cC;have:=h t.toNat (by omega);rw[HN (by omega),HN (by omega)]at this
 cases hx:X.getD t.toNat false with
 | true=>rfl
 | false=>rw[hx]at this;have:=this rfl;rw[hy]at this;cases this
theorem Kc {NX:List (List Int)} {kp:List Int->List Bool->Bool} {d:Bool} {B:List Bool} (hm:aeF NX kp d) (hB:B.length=NX.length):∃ X,n5 NX kp d B X:=by
 have h:∀ (n:Nat) (X:List Bool),aek NX kp d B X->iJ d X<=n->∃ X,n5 NX kp d B X:=by
  intro n
  induction n with
  | zero=>
   intro X hw hn;refine⟨X,agA hw fun s hs hx=>acj fun hk=>?_⟩;have:=aid (by rw[hw.lx];exact hs) hx;omega
  | succ n ih=>
   intro X hw hn;by_cases hs:∀ s (h:s < NX.length),X.getD s d=d->kp NX[s] X=d
   .exact⟨X,agA hw hs⟩
   .obtain⟨s,hs⟩:=Classical.not_forall.1 hs;obtain⟨h,hs⟩:=Classical.not_forall.1 hs;obtain⟨hx,hk⟩:=Classical.not_imp.1 hs;have:=aid (by rw[hw.lx];exact h) hx;exact ih _ (Ge hm hw h hk) (by omega)
 exact h _ B (vC hB) (abL _)
noncomputable def adN (NX:List (List Int)) (kp:List Int->List Bool->Bool) (d:Bool) (B:List Bool):List Bool:=open Classical in if h:∃ X,n5 NX kp d B X then h.choose else []
theorem afu {NX:List (List Int)} {kp:List Int->List Bool->Bool} {d:Bool} {B:List Bool} (hm:aeF NX kp d) (hB:B.length=NX.length):n5 NX kp d B (adN NX kp d B):=by
 unfold adN;rw[dif_pos (Kc hm hB)];exact (Kc hm hB).choose_spec
def lG (NX:List (List Int)) (kp:List Int->List Bool->Bool) (d:Bool) (X:List Bool):List Bool:=(List.range NX.length).map fun s=>if kp (NX.getD s []) X=d then X.getD s d else !d
theorem u7 (NX:List (List Int)) (kp:List Int->List Bool->Bool) (d:Bool) (X:List Bool):(lG NX kp d X).length=NX.length:=by simp[lG]
theorem AL {NX:List (List Int)} {kp:List Int->List Bool->Bool} {d:Bool} {X:List Bool} {s:Nat} (h:s < NX.length) (h2:s < (lG NX kp d X).length):(lG NX kp d X)[s]=if kp NX[s] X=d then X.getD s d else !d:=by
 have e:NX.getD s []=NX[s]:=cT h;simp only[lG,List.getElem_map,List.getElem_range,e]
theorem AK {NX:List (List Int)} {kp:List Int->List Bool->Bool} {d:Bool} {X:List Bool} {s:Nat} (h:s < NX.length):(lG NX kp d X).getD s d=if kp NX[s] X=d then X.getD s d else !d:=by
 have h2:s < (lG NX kp d X).length:=by rw[u7];exact h
 rw[cT h2,AL h h2]
theorem Gd {NX:List (List Int)} {kp:List Int->List Bool->Bool} {d:Bool} {B X:List Bool} (hm:aeF NX kp d) (h:aek NX kp d B X):aek NX kp d B (lG NX kp d X):=by
 refine⟨h.lb,u7 _ _ _ _,fun s hs hb=>?_,fun Y hY h1 h2 s hs hx=>?_⟩
 .rw[AK hs];split
  .exact h.base s hs hb
  .rfl
 .rw[AK hs]at hx;split at hx
  .exact h.least Y hY h1 h2 s hs hx
  .rename_i hk;have Q1:¬ Y.getD s d=d:=fun hy=>hk (hm X Y h.lx hY (fun v hv=>h.least Y hY h1 h2 v hv) s hs (h2 s hs hy));cases d<;>cases hh:Y.getD s _<;>simp_all
theorem Em {NX:List (List Int)} {kp:List Int->List Bool->Bool} {d:Bool} {B X:List Bool} (h:aek NX kp d B X) (he:lG NX kp d X=X):n5 NX kp d B X:=agA h fun s hs hx=>acj fun hk=>by
 have e:=AK (kp:=kp) (d:=d) (X:=X) hs;rw[he,if_neg hk,hx]at e;cases d<;>cases e
theorem Hf {d:Bool}:∀ {A X:List Bool},A.length=X.length->(∀ s,s < X.length->A.getD s d=X.getD s d\/(X.getD s d=d/\A.getD s d = !d))->iJ d A<=iJ d X/\(A≠X->iJ d A < iJ d X)
 | [],[],_,_=>⟨abL _,fun h=>absurd rfl h⟩
 | [],x :: X,hl,_=>by simp at hl
 | a :: A,[],hl,_=>by simp at hl
 | a :: A,x :: X,hl,h=>by
  have ih:=Hf (d:=d) (A:=A) (X:=X) (by simpa using hl) (fun s hs=>by
   have:=h (s+1) (by simpa using hs)
   simpa using this)
  have h0:a=x\/(x=d/\a = !d):=by simpa using h 0 (by simp)
  unfold iJ at *;rw[List.countP_cons,List.countP_cons]
  rcases h0 with h0 | ⟨h1,h2⟩
  .subst h0;refine⟨by omega,fun aI=>?_⟩;have h3:A≠X:=fun e=>aI (by rw[e]);have:=ih.2 h3;omega
  .subst h1;subst h2
   have e1:((!x) == x)=false:=by cases x<;>rfl
   have e2:(x == x)=true:=by simp
   rw[e1,e2];simp only[abT,if_false,if_true];exact⟨by omega,fun _=>by omega⟩
theorem En {NX:List (List Int)} {kp:List Int->List Bool->Bool} {d:Bool} {X:List Bool} (hl:X.length=NX.length) (aI:lG NX kp d X≠X):iJ d (lG NX kp d X) < iJ d X:=by
 refine (Hf (by rw[u7,hl]) fun s hs=>?_).2 aI;rw[hl]at hs;rw[AK hs];by_cases hk:kp NX[s] X=d
 .rw[if_pos hk];exact .inl rfl
 .rw[if_neg hk];cases hx:X.getD s d<;>cases d<;>simp
def e8 (Z X:List Bool) (s:Nat):List Bool:=Z.take s ++ X.drop s
theorem ER (Z X:List Bool):e8 Z X 0=X:=by simp[e8]
theorem EN {Z X:List Bool} (h:X.length=Z.length):e8 Z X Z.length=Z:=by simp[e8,h]
theorem uZ {Z X:List Bool} {s:Nat} (h:X.length=Z.length) (hs:s<=Z.length):(e8 Z X s).length=Z.length:=by simp[e8];omega
theorem EP {Z X:List Bool} {s:Nat} (h:X.length=Z.length) (hs:s < Z.length):(e8 Z X s).set s Z[s]=e8 Z X (s+1):=by
 unfold e8;rw[List.set_append_right _ _ (by simp;omega)]
 have e:s - (Z.take s).length=0:=by simp;omega
 have hx:s < X.length:=by omega
 rw[e,acy hx,List.set_cons_zero,abR hs,adU];rfl
theorem EO {Z X:List Bool} {s:Nat} (h:X.length=Z.length) (hs:s < Z.length) (h2:s < (e8 Z X (s+1)).length):(e8 Z X (s+1))[s]=Z[s]:=by
 have h3:s < (Z.take (s+1)).length:=by simp;omega
 simp only[e8];rw[List.getElem_append_left h3,List.getElem_take]
def aeh (Z X:List Bool) (s:Nat):Bool:=decide (Z.take s=X.take s)
theorem FJ (Z X:List Bool):aeh Z X 0=true:=by simp[aeh]
theorem FI {Z X:List Bool} {s:Nat} (h1:s < Z.length) (h2:s < X.length):aeh Z X (s+1)=(aeh Z X s && decide (Z[s]=X[s])):=by
 unfold aeh;rw[abR h1,abR h2]
 have:(Z.take s ++ [Z[s]]=X.take s ++ [X[s]])↔(Z.take s=X.take s/\Z[s]=X[s]):=by
  constructor
  .intro e;have:=List.append_inj' e (by simp);exact⟨this.1,by simpa using this.2⟩
  .rintro⟨a,b⟩;rw[a,b]
 simp only[this,Bool.decide_and]
theorem FH {Z X:List Bool} (h:X.length=Z.length):aeh Z X Z.length=decide (Z=X):=by
 unfold aeh;rw[ac0,<- h,ac0]
def adQ (l:List Int) (X:List Bool) (j:Nat):Nat:=(l.take j).countP fun t=>X.getD t.toNat false
theorem Ce (l:List Int) (X:List Bool):adQ l X 0=0:=rfl
theorem Cd {l:List Int} {X:List Bool} {j:Nat} (h:j < l.length):adQ l X (j+1)=adQ l X j+(if X.getD l[j].toNat false then 1 else 0):=by
 unfold adQ;rw[abR h,List.countP_append,List.countP_cons,List.countP_nil];simp
theorem Cc (l:List Int) (X:List Bool) (j:Nat):adQ l X j<=l.length:=by
 unfold adQ;exact aew List.countP_le_length (by simp;omega)
theorem He (l:List Int) (X:List Bool):eN l X=decide (adQ l X l.length=l.length):=by
 unfold adQ eN;rw[ac0];rw[aeB,decide_eq_true_iff,List.countP_eq_length,ack]
theorem OD (l:List Int) (X:List Bool):jk l X=decide (0 < adQ l X l.length):=by
 unfold adQ jk;rw[ac0];rw[aeB,decide_eq_true_iff,List.countP_pos_iff,ad1]
end Go.Proofs.YtdigkhaofjmgkaaGreatDoor
namespace Go.Av
section
variable {P:Program} {T:Ty} {Mv X:Nat->Prop} {G:aq} {N:Fr} {ops:Array Oper} {σ:St}
def BI (P:Program) (T:Ty) (Mv:Nat->Prop) (G:aq) (N:Fr) (ap db hv:List Nat) (ex:List (Nat×AV)) (ops:Array Oper) (i:Nat) (o:Oper) (σ aw:St):Prop:=
 (ap.contains i=true/\eU N o/\o.guard=none/\acm o.op=none/\acS o.op=true/\∃ c x aG,wr T G Mv σ o=some (c,x,aG)/\c/\aw=⟨aD aG.env o.dst x,aG.H⟩)\/
 (ap.contains i=false/\rH P T Mv G N [] db hv ex ops i o σ aw)
def yR (ap db hv:List Nat) (ex:List (Nat×AV)) (ops:Array Oper) (i j:Nat) (oi oj:Oper):Bool:=!ap.contains i && !ap.contains j && Ch db hv ex ops i j oi oj
theorem Vh (hg:Good P T) (ap db hv:List Nat) (ex:List (Nat×AV)):Sound P X G N Mv (BI P T Mv G N ap db hv ex ops) ops:=fun i o ho σ aw h w μ a hi Q K hk=>by
 rcases h with⟨_,hd,hgu,hc,hw,c,x,aG,h1,h2,rfl⟩ | ⟨_,h⟩
 .refine vv hg ⟨hd,.inl ⟨ir hgu,?_⟩⟩ hi ho hk;unfold kD;simp only[hc];rw[if_pos hw];exact⟨c,x,aG,h1,h2,rfl⟩
 .exact Kr hg [] db hv ex i o ho _ _ h w μ a hi hk
theorem Vi (ap db hv:List Nat) (ex:List (Nat×AV)):tC (BI P T Mv G N ap db hv ex ops) (yR ap db hv ex ops) ops:=fun i j oi oj b7 bu hc σ aG eL h1 h2=>by
 simp only[yR,abI,aez]at hc;obtain⟨⟨ai,aj⟩,hc⟩:=hc
 rcases h1 with⟨bi,_⟩ | ⟨_,h1⟩
 .rw[ai]at bi;cases bi
 rcases h2 with⟨bj,_⟩ | ⟨_,h2⟩
 .rw[aj]at bj;cases bj
 obtain⟨fc,f1,f2⟩:=UT [] db hv ex i j oi oj b7 bu hc σ aG eL h1 h2;exact⟨fc,.inr ⟨aj,f1⟩,.inr ⟨ai,f2⟩⟩
def agx (P:Program) (T:Ty) (Mv:Nat->Prop) (G:aq) (N:Fr) (ap db hv:List Nat) (ex:List (Nat×AV)) (ops:Array Oper) (i:Nat) (o:Oper) (σ:St) (K:St->Prop):Prop:=
 if ap.contains i=true then eU N o/\o.guard=none/\acm o.op=none/\acS o.op=true/\match wr T G Mv σ o with
  | some (c,x,aG)=>c/\K ⟨aD aG.env o.dst x,aG.H⟩
  | none=>False
 else yj P T Mv G N [] db hv ex ops i o σ K
def p9 (P:Program) (T:Ty) (Mv:Nat->Prop) (G:aq) (N:Fr) (ap db hv:List Nat) (ex:List (Nat×AV)) (ops:Array Oper) (K:St->Prop):List (Nat×Oper)->St->Prop
 | [],σ=>K σ
 | (i,o) :: rest,σ=>agx P T Mv G N ap db hv ex ops i o σ (p9 P T Mv G N ap db hv ex ops K rest)
theorem Zi {ap db hv:List Nat} {ex:List (Nat×AV)} {K:St->Prop}:∀ (l:List Nat) (σ:St),(∀ i∈l,i < ops.size)->p9 P T Mv G N ap db hv ex ops K (b6 ops l) σ->∃ σn,K σn/\gS (BI P T Mv G N ap db hv ex ops) ops l σ σn:=by
 intro l
 induction l with
 | nil=>intro σ _ h;exact⟨σ,h,rfl⟩
 | cons i l ih=>
  intro σ hl h;have hi:=hl i (by simp)
  have ho:ops[i]? = some ops[i]:=by simp[hi]
  have aF:b6 ops (i :: l)=(i,ops[i]) :: b6 ops l:=by simp[b6,hi]
  rw[aF]at h;have h:agx P T Mv G N ap db hv ex ops i ops[i] σ (p9 P T Mv G N ap db hv ex ops K (b6 ops l)):=h;unfold agx at h;split at h
  .rename_i ha;obtain⟨hd,hgu,hc,hw,h⟩:=h;split at h
   .rename_i c x aG h1;obtain⟨bT,h⟩:=h;obtain⟨σn,hk,hr⟩:=ih _ (fun j hj=>hl j (by simp[hj])) h;exact⟨σn,hk,_,ho,_,.inl ⟨ha,hd,hgu,hc,hw,c,x,aG,h1,bT,rfl⟩,hr⟩
   .exact h.elim
  .rename_i ha
   have ahN:b6 ops [i]=[(i,ops[i])]:=by simp[b6,hi]
   have hm:yp P T Mv G N [] db hv ex ops (p9 P T Mv G N ap db hv ex ops K (b6 ops l)) (b6 ops [i]) σ:=by rw[ahN];exact h
   obtain⟨aG,bq,o',ho',aaw,hs,qW⟩:=Zn [i] σ (by simpa using hi) (fun r hr=>by cases hr) hm;have qW:aaw=aG:=qW;subst qW;obtain⟨σn,hk,hr⟩:=ih _ (fun j hj=>hl j (by simp[hj])) bq;exact⟨σn,hk,o',ho',_,.inr ⟨by simpa using ha,hs⟩,hr⟩
theorem M8 (hg:Good P T) (hm:P.follows .mixedOrders=true) (ap db hv:List Nat) (ex:List (Nat×AV)) (ord:List Nat) {id:Nat} (hok:afx (yR ap db hv ex ops) ord ops=true) {Q:Exit->St->Prop} (h:p9 P T Mv G N ap db hv ex ops (fun aw=>Q .normal aw) (b6 ops ord) σ):AW P Mv X G N (.region id ops true) Q σ:=
 Gw hm (Vh hg ap db hv ex) (Vi ap db hv ex) ord hok fun au=>Zi ord σ au h
theorem Gx (hg:Good P T) (hm:P.follows .mixedOrders=true) (ap db hv:List Nat) (ex:List (Nat×AV)) (ord:List Nat) {id:Nat} (hok:afx (yR ap db hv ex ops) ord ops=true) {Q:Exit->St->Prop}
  (h:∀ K:St->Prop,(∀ τ:St,Q .normal τ->K τ)->p9 P T Mv G N ap db hv ex ops K (b6 ops ord) σ):AW P Mv X G N (.region id ops true) Q σ:=M8 hg hm ap db hv ex ord hok (h _ fun _ h=>h)
theorem jF {ap db hv:List Nat} {ex:List (Nat×AV)} {K:St->Prop} {i:Nat} {l:List Nat} {o:Oper} (ho:ops[i]? = some o) (h:∀ K':St->Prop,(∀ τ,p9 P T Mv G N ap db hv ex ops K (b6 ops l) τ->K' τ)->agx P T Mv G N ap db hv ex ops i o σ K'):p9 P T Mv G N ap db hv ex ops K (b6 ops (i :: l)) σ:=by
 have:b6 ops (i :: l)=(i,o) :: b6 ops l:=by simp[b6,ho]
 rw[this];exact h _ fun _ h=>h
theorem Mq {ap db hv:List Nat} {ex:List (Nat×AV)} {K:St->Prop} (h:K σ):p9 P T Mv G N ap db hv ex ops K (b6 ops []) σ:=h
end
attribute [simp] agx
end Go.Av
namespace Go.Proofs.YtdigkhaofjmgkaaGreatDoor
open Go.Av
def ch (p:PgP) (n:eM):Int:=if 3<=n.kind then n.count+1 else if n.kind=2 then 2 else if n.kind=1/\gV p n=true then 2 else 0
def dT (p:PgP):List Int:=p.names.map (ch p)
theorem Fk {p:PgP} (hg:hC p) {i:Nat} (hi:i < p.names.length):partOf p.names[i] (gV p p.names[i]) i=if ch p p.names[i]=0 then [] else [⟨i,ch p p.names[i],decide (3<=p.names[i].kind)⟩]:=by
 have h4:=hg.name _ (abH hi);have h5:=hg.count _ (abH hi);generalize p.names[i]=n at h4 h5 ⊢;unfold partOf ch;by_cases k3:3<=n.kind
 .have n2:¬ (n.kind=2\/n.kind=1/\gV p n=true):=by omega
  have n1:n.kind≠1:=by omega
  have n0:¬ n.count+1=0:=by omega
  rw[if_neg n2,if_pos n1,if_pos k3,if_neg n0];simp[k3]
 .by_cases k2:n.kind=2
  .rw[if_pos (.inl k2),if_neg k3,if_pos k2];simp[k3]
  .have k1:n.kind=1:=by omega
   rw[if_neg k3,if_neg k2];by_cases he:gV p n=true
   .have e3:n.kind=1/\gV p n=true:=⟨k1,he⟩;have e2:n.kind=2\/n.kind=1/\gV p n=true:=.inr e3;rw[if_pos e2,if_pos e3];simp[k3]
   .have e1:¬ (n.kind=2\/n.kind=1/\gV p n=true):=fun h=>h.elim k2 fun h=>he h.2;have e2:¬ (n.kind=1/\gV p n=true):=fun h=>he h.2;rw[if_neg e1,if_neg (fun h=>h k1),if_neg e2,if_pos rfl]
theorem ag9 (p:PgP) (n:Nat):∀ d,∃ R,eJ p (n+d)=eJ p n ++ R
 | 0=>⟨[],by simp⟩
 | d+1=>by
  obtain⟨R,h⟩:=ag9 p n d;rw[<- adn,eJ,h];exact⟨_,adU _ _ _⟩
def gk (p:PgP) (i:Nat):List PtP:=(bn p).drop (eJ p i).length
theorem YK (p:PgP):gk p 0=bn p:=rfl
theorem L7 (p:PgP):gk p p.names.length=[]:=adI (abL _)
theorem Ma {p:PgP} {i:Nat} (hi:i < p.names.length):gk p i=partOf p.names[i] (gV p p.names[i]) i ++ gk p (i+1):=by
 obtain⟨R,h⟩:=ag9 p (i+1) (p.names.length - (i+1));rw[show i+1+(p.names.length - (i+1))=p.names.length by omega]at h;have e:bn p=eJ p (i+1) ++ R:=h
 have e1:gk p (i+1)=R:=by
  unfold gk;rw[e,List.drop_left]
 have e2:eJ p (i+1)=eJ p i ++ partOf p.names[i] (gV p p.names[i]) i:=agL hi;rw[e1];unfold gk;rw[e,e2,adU,List.drop_left]
theorem L8 {p:PgP} {i:Nat} {x:PtP} (h:x∈gk p i):x∈bn p:=ac7 h
theorem L9 {p:PgP} (hg:hC p) (s:bX) {i:Nat} (hi:i < p.names.length):eA (gk p i) s=if ch p p.names[i]=0 then eA (gk p (i+1)) s else (if 3<=p.names[i].kind then s.ct.getD i 0 else if s.is.getD i false then 1 else 0)+ch p p.names[i] * eA (gk p (i+1)) s:=by
 rw[Ma hi,Fk hg hi];by_cases h:ch p p.names[i]=0
 .rw[if_pos h,if_pos h,aei]
 .rw[if_neg h,if_neg h,adO,eA];congr 1;unfold ae6;by_cases k3:3<=p.names[i].kind
  .simp[k3]
  .simp[k3]
theorem VV {p:PgP} (hg:hC p) {i:Nat} (hi:i < p.names.length):bp (eJ p (i+1))=if ch p p.names[i]=0 then bp (eJ p i) else bp (eJ p i) * ch p p.names[i]:=by
 rw[agL hi,x4,Fk hg hi];by_cases h:ch p p.names[i]=0
 .rw[if_pos h,if_pos h];simp[bp]
 .rw[if_neg h,if_neg h];simp[bp]
theorem ah8 {p:PgP} (hg:hC p) (n:Int) (s:bX) {i:Nat} (hi:i < p.names.length):ml (gk p i) n s=if ch p p.names[i]=0 then ml (gk p (i+1)) n s else ml (gk p (i+1)) (n / ch p p.names[i]) (oN ⟨i,ch p p.names[i],decide (3<=p.names[i].kind)⟩ (n % ch p p.names[i]) s):=by
 rw[Ma hi,Fk hg hi];by_cases h:ch p p.names[i]=0
 .rw[if_pos h,if_pos h,aei]
 .rw[if_neg h,if_neg h,adO,ml]
