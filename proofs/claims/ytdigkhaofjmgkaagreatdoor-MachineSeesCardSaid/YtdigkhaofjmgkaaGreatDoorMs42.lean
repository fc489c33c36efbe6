/- Parts. -/
import Derived.Test.YtdigkhaofjmgkaaGreatDoorMs26
import Derived.Test.YtdigkhaofjmgkaaGreatDoorMs33
import Derived.Test.YtdigkhaofjmgkaaGreatDoorMs41
import Derived.Ground.Names8Prog
import Derived.Shelf.Spec.SlicesGrow
set_option linter.unusedSectionVars false
set_option linter.unusedSimpArgs false
set_option linter.unusedVariables false
set_option maxHeartbeats 64000000
set_option maxRecDepth 100000
open Go.Proofs.Tryz
namespace Go.Proofs
open Go.Shelf
def Tryz.OP:Go.Shelf.Ren:=⟨fun | 4=>178 | n=>n,fun | 22=>46 | 25=>3 | 3=>3 | 4=>4 | 9=>9 | 20=>20 | 0=>0 | n=>n,fun | n=>n⟩
theorem Tryz.OO:Go.Proofs.Lays8.n4 prog Tryz.OP:={
 mixed:=by kernel_rfl
 f4:=⟨Tryz.f178.name,by decide,func178.trans (congrArg some (by kernel_rfl))⟩
 t0:=underlying0
 a0:=isAgg0
 z0:=sizeOf0
 v0:=zeroValue0
 t3:=underlying3
 a3:=isAgg3
 z3:=sizeOf3
 v3:=zeroValue3
 t4:=underlying4
 a4:=isAgg4
 z4:=sizeOf4
 v4:=zeroValue4
 t9:=underlying9
 a9:=isAgg9
 z9:=sizeOf9
 v9:=zeroValue9
 t20:=underlying20
 a20:=isAgg20
 z20:=sizeOf20
 v20:=zeroValue20
 t22:=underlying46
 a22:=isAgg46
 z22:=sizeOf46
 v22:=zeroValue46 }
end Go.Proofs
namespace Go.Proofs.YtdigkhaofjmgkaaGreatDoor
open Go.Av Go.Shelf Go.RowKit
theorem Xf (n G:Nat) (h:n<=G):(([]:List Value).toArray ++ Builtin.zeroCells (Value.int .i64 0).cells (0+n - 0) ++ Builtin.zeroCells (Value.int .i64 0).cells (G - (0+n))).size=G:=by
 simp[size_zeroCells,Value.cells];omega
theorem OQ (G:ao) (n:Nat) (hn:n<=2^40):MC prog G [] 178 [.d (.sl (some false) []),.d (ab n)] (ak []) (.own 900 0 0) (ak [(900,.sl 3 1 [])]):=by
 refine⟨e7.of func178 rfl rfl,fun X w μ vs hs cq aK hv=>?_⟩
 obtain⟨a,b,rfl⟩:∃ a b,vs = #[a,b]:=by
  match vs,aK with
  | ⟨[a,b]⟩,_=>exact⟨a,b,rfl⟩
 obtain rfl:a = .slice none 0 0:=by
  rcases (hv 0 a _ rfl rfl).data.mD with⟨rfl,_⟩ | ⟨_,_,_,hk,_⟩
  .rfl
  .exact absurd rfl hk
 obtain rfl:b = .int .i64 n:=(hv 1 b _ rfl rfl).scalar;have hL:=Tryz.OO;have aF:In w X G μ ⟨0,[],none⟩ { tmps:=#[],defers:=[] } ⟨fun _=>none,ak []⟩:=⟨hs,⟨rfl,rfl,fun i x h=>by cases h⟩,cq⟩
 have hH:∀ row,aL (ak []) 900 row=ak [(900,row)]:=fun row=>by
  funext q;by_cases h:q=900
  .subst h;rfl
  .have hq:(q == 900)=false:=by simpa using h
   simp only[aL,if_neg h,ak,List.lookup,hq]
 by_cases h0:n=0
 .subst h0;refine (Any8.slices_Grow_room hL none 0 0 0 w (by omega) (by omega) (by omega) (by omega)).mono fun e w' ⟨he,hw⟩=>?_;subst hw;obtain⟨h1,ev⟩:=aF.alloc (Mv:=gd []) (w':=w') (m:=⟨none,1,0⟩) (d:=900) rfl (bY.refl _) (by simp) (row:=.sl 3 1 []) fun _=>.nil rfl rfl;have h2:=h1.aY;dsimp only at h2;rw[hH]at h2;exact⟨_,_,_,_,he,⟨rfl,rfl⟩,.own (m:=⟨none,1,0⟩) (by simp[cR]) (.inl ⟨rfl,rfl,rfl,rfl⟩),h2,ev⟩
 .obtain⟨i0,hi,hz0,uf,Dg⟩:=info_parts (P:=prog) (e:=3) (z:=.int .i64 0) (size:=1) (bytes:=8) (by kernel_rfl);refine (Any8.slices_Grow_grow hL i0 (.int .i64 0) hi hz0 (by omega) none 0 0 n [] w (by omega) (by omega) (by rw[Dg];omega) (by omega) (by simp) (fun _=>rfl) (fun a e=>by cases e)).mono fun e w' ⟨he,hw⟩=>?_
  have qb:n<=grownCap w (0+n) 0 3:=by have:=grownCap_ge w (0+n) 0 3;omega
  have hle:grownCap w (0+n) 0 3<=maxLen:=grownCap_le_maxLen w (0+n) 0 3 (by unfold maxLen;omega);have he:e = .returned (.slice (some ⟨w.heap.size,0,none⟩) 0 (grownCap w (0+n) 0 3)):=he;have hw:w'=w.drew.alloc (.cells (([]:List Value).toArray ++ Builtin.zeroCells (Value.int .i64 0).cells (0+n - 0) ++ Builtin.zeroCells (Value.int .i64 0).cells (grownCap w (0+n) 0 3 - (0+n))) 3):=hw;have aK:=Xf n (grownCap w (0+n) 0 3) qb;generalize grownCap w (0+n) 0 3=C at he hw qb hle aK;generalize (([]:List Value).toArray ++ Builtin.zeroCells (Value.int .i64 0).cells (0+n - 0) ++ Builtin.zeroCells (Value.int .i64 0).cells (C - (0+n)))=Z at hw aK;subst hw;have g1:=bY.drew w;have g2:=bY.alloc w.drew (.cells Z 3);have hg:bY w (w.drew.alloc (.cells Z 3)):=⟨Nat.le_trans g1.size g2.size,g2.os.trans g1.os,g2.tape.trans g1.tape,g2.output.trans g1.output,fun b hb=>(g2.same b (Nat.lt_of_lt_of_le hb g1.size)).trans (g1.same b hb)⟩;have jv:(w.drew.alloc (.cells Z 3)).heap[w.heap.size]? = some (.cells Z 3 (0,0)):=heap_alloc_new w.drew _
  obtain⟨h1,ev⟩:=aF.alloc (Mv:=gd []) (w':=w.drew.alloc (.cells Z 3)) (m:=⟨some w.heap.size,1,C⟩) (d:=900) rfl hg (by rintro b h;injection h with h;omega) (row:=.sl 3 1 []) fun _=>
   .sl (b:=w.heap.size) rfl rfl jv (by simpa using aK) (by simp) hle (by simp) (by omega) (by simp)
  have h2:=h1.aY;dsimp only at h2;rw[hH]at h2;exact⟨_,_,_,_,he,⟨rfl,rfl⟩,.own (m:=⟨some w.heap.size,1,C⟩) (by simp[cR]) (.inr ⟨_,rfl,by simp,by simp⟩),h2,ev⟩
def cD (l:List Nat):List (List D):=l.map fun (n:Nat)=>[ab (n:Int)]
theorem aex (a b:List Nat):cD (a ++ b)=cD a ++ cD b:=by unfold cD;rw[List.map_append]
def ct3 {α:Type} (a b c:α):Nat->α
 | 0=>a
 | 1=>b
 | _=>c
theorem Nu (G:ao) (a b:List Nat) (ha:a.length<=2^30) (hb:b.length<=2^30):ar prog G 123 [.sl none [[.sl none (cD a)],[.sl none (cD b)]]] (.sl none (cD (a ++ b))):=by
 rw[aex];have O0:(∀ el∈cD a,el.length=1)=True:=eq_true (by simp[cD]);have GK:(∀ el∈cD b,el.length=1)=True:=eq_true (by simp[cD]);have yz:(∀ el∈cD a,∀ c∈el,c.one=true)=True:=eq_true (by simp[cD,ab,D.one]);have GL:(∀ el∈cD b,∀ c∈el,c.one=true)=True:=eq_true (by simp[cD,ab,D.one])
 have GI:(cD a).length<=2^30:=by simpa[cD]using ha
 have hBl:(cD b).length<=2^30:=by simpa[cD]using hb
 generalize cD a=A at *;generalize cD b=B at *;have dP:=OQ G (A.length+B.length) (by omega);simp only[ab]at dP;refine ar.aC (aay _) func123 rfl rfl (rs:=[.tmp 2]) results123 (by simp[ntmps123]) fun X=>?_;simp only[ntmps123,List.map];have fw:=@ab.eq_1;refine rgq fw [0] [] ?_;refine rgq fw [0,3] [] ?_;refine ae fun K1 au=>?_;refine rgq fw [0,3,9,10,11] [] ?_;refine bZ (S:=Nat) (fun n=>n<=2) (fun n=>⟨lst [(0,.d (.sl none [[.sl none A],[.sl none B]])),(3,int (ct3 0 (A.length:Int) ((A.length:Int)+B.length) n)),(9,.d (.sl none [[.sl none A],[.sl none B]])),(10,int 2),(11,int n)],ak []⟩) (fun n=>2 - n) 0 ?_ (by omega) ?_
 .refine aB.dK (fun _ _=>trivial) (by simp[ab,ct3]) (by simp[ab,ct3])
 .intro n hn
  rcases (by omega:n=0\/n=1\/n=2)with rfl | rfl | rfl
  .simp only[ct3];refine rgq fw [0,3,9,10,11,12] [] ?_;refine ae fun K2 aa=>?_;refine aax rfl ?_;refine ah (aa _ ?_);refine ae fun K3 aH=>?_;refine aU ?_;refine rgq fw [0,3,5,9,10,11] [] ?_;refine rgq fw [0,3,9,10,11] [] ?_;refine rgq fw [0,3,9,10,11,20] [] ?_;refine ag rfl ?_;refine ah (aH _ ?_);refine bO fw ?_;(try simp only[aM,aP]);refine aV.mk 1 (by omega) (by omega) ?_;refine aB.dK (fun _ _=>trivial) (by simp[ab,ct3]) (by simp[ab,ct3])
  .simp only[ct3];refine rgq fw [0,3,9,10,11,12] [] ?_;refine ae fun K2 aa=>?_;refine aax rfl ?_;refine ah (aa _ ?_);refine ae fun K3 aH=>?_;refine aU ?_;refine rgq fw [0,3,5,9,10,11] [] ?_;refine rgq fw [0,3,9,10,11] [] ?_;refine rgq fw [0,3,9,10,11,20] [] ?_;refine ag rfl ?_;refine ah (aH _ ?_);refine bO fw ?_;(try simp only[aM,aP]);refine aV.mk 2 (by omega) (by omega) ?_;refine aB.dK (fun _ _=>trivial) (by simp[ab,ct3]) (by simp[ab,ct3])
  .simp only[ct3];refine rgq fw [0,3,9,10,11,12] [] ?_;refine ae fun K2 aa=>?_;refine ag rfl ?_;refine bG (au _ ?_);refine rgm fw dP [0,6] [900] ?_;refine ae fun K4 hK4=>?_;refine rgq fw [6,25,26,27] [900] ?_;refine bZ (S:=Nat) (fun n=>n<=2) (fun n=>⟨lst [(6,.own 900 0 (ct3 0 A.length (A.length+B.length) n)),(25,.d (.sl none [[.sl none A],[.sl none B]])),(26,int 2),(27,int n)],ak [(900,.sl 3 1 (ct3 [] A (A ++ B) n))]⟩) (fun n=>2 - n) 0 ?_ (by omega) ?_
   .refine aB.dK (fun _ _=>trivial) (by simp[ab,ct3]) (by simp[ab,ct3])
   .intro n hn
    rcases (by omega:n=0\/n=1\/n=2)with rfl | rfl | rfl
    .simp only[ct3];refine rgq fw [6,25,26,27,28] [900] ?_;refine ae fun K5 bN=>?_;refine aax rfl ?_;refine ah (bN _ ?_);refine ae fun K6 hK6=>?_;refine aU ?_;refine rgq fw [6,8,25,26,27] [900] ?_;have qf:=(Aq fw (Aq @O0 @yz));refine cT hK6 [6,25,26,27] [900] ?_;refine bO fw ?_;(try simp only[aM,aP]);refine aV.mk 1 (by omega) (by omega) ?_;refine aB.dK (fun _ _=>trivial) (by simp[ab,ct3]) (by simp[ab,ct3])
    .simp only[ct3];refine rgq fw [6,25,26,27,28] [900] ?_;refine ae fun K5 bN=>?_;refine aax rfl ?_;refine ah (bN _ ?_);refine ae fun K6 hK6=>?_;refine aU ?_;refine rgq fw [6,8,25,26,27] [900] ?_;refine abl (aay _) fun K' af=>?_;(repeat (refine sxn fun K2 aa=>?_;simp[ab,GK,GL,List.take_of_length_le];(repeat (refine⟨by omega,?_⟩));refine aa _ ?_;clear aa K2));refine sxz (af _ ?_);clear af K';refine hK6 _ (AW.norm [6,25,26,27] [900] (fun _ _=>trivial) (AW.st (by simp[ab,GK,GL,List.take_of_length_le];rfl) ?_));refine bO fw ?_;(try simp only[aM,aP]);refine aV.mk 2 (by omega) (by omega) ?_;refine aB.dK (fun _ _=>trivial) (by simp[ab,ct3]) (by simp[ab,ct3])
    .simp only[ct3];refine rgq fw [6,25,26,27,28] [900] ?_;refine ae fun K5 bN=>?_;refine ag rfl ?_;refine bG (hK4 _ ?_);refine AW.imp (aB.freeze 900 trivial) ?_;refine AW.st (by simp[ab];rfl) ?_;refine rgq fw [2] [] ?_;exact aG fw
end Go.Proofs.YtdigkhaofjmgkaaGreatDoor
namespace Go.Proofs.YtdigkhaofjmgkaaGreatDoor
open Go.Av
theorem LP {P:Program} {Mv X:Nat->Prop} {G:ao} {n s:Nat} {x y:Code} {Q:Exit->St->Prop} {σ:St} (h:∀ K:St->Prop,(∀ aw,dL P Mv X G n s y Q aw->K aw)->∀ X' ds,AW P Mv X' G ⟨n,ds,none⟩ x (aM K Q) σ):dL P Mv X G n s (.seq x y) Q σ:=
 xM (xL (h _ fun _ h=>h))
theorem LQ {P:Program} {Mv X:Nat->Prop} {G:ao} {n s:Nat} {x y:Code} {Q:Exit->St->Prop} {σ:St} (h:∀ K:St->Prop,(∀ aw,dL P Mv X G n s y Q aw->K aw)->dL P Mv X G n s x (aM K Q) σ):dL P Mv X G n s (.seq x y) Q σ:=
 xM (h _ fun _ h=>h)
theorem WI {P:Program} {Mv X:Nat->Prop} {G:ao} {N:Fr} {x y:Code} {Q:Exit->St->Prop} {σ:St} (h:∀ K:St->Prop,(∀ aw,AW P Mv X G N y Q aw->K aw)->AW P Mv X G N x (aM K (fun _ _=>False)) σ):AW P Mv X G N x (aM (AW P Mv X G N y Q) (fun _ _=>False)) σ:=
 h _ fun _ h=>h
section
variable {P:Program} {X:Nat->Prop} {G:ao} {n s:Nat} {σ τ fz:St} {p:Prop}
theorem dL.norm (l ns:List Nat) {c:Code} {Q:Exit->St->Prop} (h:dL P (fun _=>True) X G n s c Q (σ.norm l ns)):dL P (fun _=>True) X G n s c Q σ:=dL.imp (fun X' ds=>aB.norm l ns fun _ _=>trivial) h
theorem dL.st {c:Code} {Q:Exit->St->Prop} (h:σ=τ) (h':dL P (fun _=>True) X G n s c Q τ):dL P (fun _=>True) X G n s c Q σ:=h ▸ h'
theorem Af (q:p) (l ns:List Nat) {id:Nat} {ops:Array Oper} {y:Code} {Q:Exit->St->Prop} (k:dL P (fun _=>True) X G n s y Q fz)
  (h:p->∀ (X':Nat->Prop) (ds:List Deferred) (K':St->Prop),K' τ->sxf P (aaQ P) (fun _=>True) X' G ⟨n,ds,none⟩ ops K' ops.toList σ:=by
   intro q X' ds K' af;repeat (refine sxn fun K2 aa=>?_;simp[q];(repeat (refine⟨by omega,?_⟩));refine aa _ ?_;clear aa K2)
   exact sxz af)
  (hn:p->τ.norm l ns=fz:=by intro q;simp[q];rfl):dL P (fun _=>True) X G n s (.seq (.region id ops false) y) Q σ:=
 xM (xL fun X' ds=>abl (aay _) fun K hK=>h q X' ds K (hK _ (dL.norm l ns (hn q ▸ k))))
theorem agN (q:p) {fx:List Nat} {g:FuncId} {xs:List AV} {aaO ek:List (Nat×Row)} {yv:AV} (hc:MC P G fx g xs (ak aaO) yv (ak ek)) (l ns:List Nat) {id:Nat} {ops:Array Oper} {y:Code} {Q:Exit->St->Prop} (k:dL P (fun _=>True) X G n s y Q fz)
  (h:p->MC P G fx g xs (ak aaO) yv (ak ek)->∀ (X':Nat->Prop) (ds:List Deferred) (K':St->Prop),K' τ->sxf P (aaQ P) (fun _=>True) X' G ⟨n,ds,none⟩ ops K' ops.toList σ:=by
   intro q hc X' ds K' af;(repeat (refine sxn fun K2 aa=>?_;simp[q];(repeat (refine⟨by omega,?_⟩));refine aa _ ?_;clear aa K2));refine sxn fun K2 aa=>?_;simp[q];refine aaT.mc hc (by simp[q]) (by simp[q]) (by simp[q]) (by simp[q]) ?_;simp[q];refine aa _ ?_;clear aa K2;repeat (refine sxn fun K2 aa=>?_;simp[q];(repeat (refine⟨by omega,?_⟩));refine aa _ ?_;clear aa K2)
   exact sxz af)
  (hn:p->τ.norm l ns=fz:=by intro q;simp[q];rfl):dL P (fun _=>True) X G n s (.seq (.region id ops false) y) Q σ:=
 xM (xL fun X' ds=>abl (aay _) fun K hK=>h q hc X' ds K (hK _ (dL.norm l ns (hn q ▸ k))))
end
def n7:D:=.sl (some false) []
def qI (NN RR NA RA:List (List D)) (pl:Int):Heap:=ak [(2,.box 25 [.d n7,.d n7]),(3,.box 36 [.d (.v .nilIface)]),(4,.box 25 [.own 801 0 NN.length,.own 802 0 RR.length]),(5,.box 46 [.own 803 0 NA.length]),(6,.box 46 [.own 804 0 RA.length]),(7,.box 3 [int pl]),(801,.sl 132 3 NN),(802,.sl 217 3 RR),(803,.sl 3 1 NA),(804,.sl 3 1 RA)]
theorem NK (c:Option Ex):(dC c).one=true:=by
 cases c with
 | none=>rfl
 | some e=>obtain⟨a,b,h⟩:=ach e;rw[dC,h];rfl
theorem Gy (l:List Nat) (i:Nat) (h:i < l.length):(cD l)[i]? = some [ab ((l.getD i 0:Nat):Int)]:=by
 rw[List.getD_eq_getElem?_getD];unfold cD;simp[h]
theorem FU {p:PgP} {c:Int} {i:Nat} (h:cf p=some (c,some i)):i < p.names.length+p.aaw.length:=by
 unfold cf at h;split at h
 .cases h
 .split at h
  .rename_i e k hf;have:=vz hf;simp only[Option.some.injEq,Prod.mk.injEq]at h;omega
  .split at h
   .rename_i e k hf;have:=vz hf;simp only[Option.some.injEq,Prod.mk.injEq]at h;omega
   .cases h
theorem KJ {k:Int} {nm hd rest:Tx} {c:Int} {off:Nat} (h:jC k nm hd rest = .bad c off):off<=hd.length+1+rest.length:=by
 unfold jC at h;split at h
 .rename_i c' o hp;simp only[mJ.bad.injEq]at h
  cases o with
  | none=>simp at h;omega
  | some o=>
   have:=xc hp;simp at h;omega
 .cases h
theorem agD {s:Tx} {c:Int} {off:Nat} (h:abD s = .bad c off):off<=2 * s.length+1:=by
 have hle:=x7 61 s
 have nb:∀ l,acK l≠.bad c off:=fun l=>by
  match l with
  | []=>simp[acK]
  | [a]=>simp[acK,abB]
  | [a,b]=>simp only[acK,abB];split<;>simp
  | [a,b,c]=>simp only[acK,abB];split<;>(try split)<;>simp
  | a :: b :: c :: d :: l=>simp[acK,abB]
 unfold abD at h;split at h
 .have h2:off<=(cutAt 61 s).1.length+1+(cutAt 61 s).2.length:=by
   match hw:fy (cutAt 61 s).1,h with
   | [a],h=>exact KJ h
   | [a,b],h=>
    simp only[l3]at h;split at h
    .cases h
    .exact KJ h
  omega
 .exact absurd h (nb _)
theorem lxq:(⟨#[]⟩:ByteArray)=bs []:=rfl
theorem adI:(⟨#[32]⟩:ByteArray)=bs [32]:=rfl
theorem S6 (G:ao) (hM:acb G) (hP:ny G) (hG:l8 G) {es er:Value} (hE:adQ G es er) (t:Tx):ar prog G 60 [dS t] (.tup [dPg (gD t).2,ba (gD t).1]):=by
 refine ar.Vk (aay _) func60 rfl rfl (rs:=[.cell 2 25,.cell 3 36]) results60 (by simp[ntmps60]) fun X s0=>?_;simp only[ntmps60,List.map];have fw:=(Aq @ab.eq_1 @dS.eq_1);refine Af fw [0,2,3] [2,3] ?_;refine LP fun K1 au X' ds=>?_;by_cases ht:20000 < t.length
 .have iX:(t.length:Int) > 20000:=by omega
  have hp:gD t=(some (4,none),⟨[],[]⟩):=by unfold gD;rw[if_pos ht]
  have qf:=(Aq fw (Aq @bl @iX));refine al [0,2,3,19] [2,3] ?_;refine aax (by simp[iX]) ?_;refine rgq fw [2,3] [2,3] ?_;exact aG (Aq fw (Aq @hp (Aq @dPg.eq_1 (Aq @ey.eq_1 (Aq @bK.eq_1 (Aq @dr.eq_1 (Aq @ba.eq_1 (Aq @ba.eq_2 @ba.eq_3))))))))
 have iX:¬ (t.length:Int) > 20000:=by omega
 have HS:=Xq G t;have qf:=(Aq fw (Aq @bl @iX));refine al [0,2,3,19] [2,3] ?_;refine ag (by simp[iX]) ?_;refine ah (au _ ?_);refine Af fw [0,2,3,4] [2,3,4] ?_;refine Af fw [0,2,3,4,5,6] [2,3,4,5,6] ?_;refine Af fw [0,2,3,4,5,6,7] [2,3,4,5,6,7] ?_;refine LQ fun K5 bN=>?_;refine dL.imp (fun X' ds=>aB.mL 4 0 801 132 3 rfl rfl rfl) ?_;refine dL.st (by simp;rfl) ?_;refine dL.imp (fun X' ds=>aB.mL 4 1 802 217 3 rfl rfl rfl) ?_;refine dL.st (by simp;rfl) ?_;refine dL.imp (fun X' ds=>aB.mL 5 0 803 3 1 rfl rfl rfl) ?_;refine dL.st (by simp;rfl) ?_;refine dL.imp (fun X' ds=>aB.mL 6 0 804 3 1 rfl rfl rfl) ?_;refine dL.st (by simp;rfl) ?_;simp only[sK,xp,dS,ab]at HS;refine agN (Aq @I0 fw) HS [2,3,4,5,6,7,23] [2,3,4,5,6,7,511,512,513,801,802,803,804] ?_;refine LN ?_;obtain⟨l,hl⟩:∃ l,l=abe 10 t:=⟨_,rfl⟩;have CH:=x8 10 t;rw[<- hl]at CH
 obtain⟨inv,Qz⟩:∃ f:Nat->Heap,f=fun k=>match eE l k with
  | .inl _=>fD
  | .inr s=>qI (s.names.map aW) (s.aaw.map b7) (cD s.gB) (cD s.gF) (gE l k):=⟨_,rfl⟩
 have hinv:∀ k s,eE l k = .inr s->inv k=qI (s.names.map aW) (s.aaw.map b7) (cD s.gB) (cD s.gF) (gE l k):=fun k s h=>by rw[Qz];dsimp only;rw[h]
 refine LO (l.map fun s=>.string (bs s)) [511,512,513] [2,3,4,5,6,7] (lst [(2,.ref 2 0 0),(3,.ref 3 0 0),(4,.ref 4 0 0),(5,.ref 5 0 0),(6,.ref 6 0 0),(7,.ref 7 0 0)]) inv (fun k=>∃ s,eE l k = .inr s) ⟨lr,rfl⟩ (gf:=210) (caps:=[.ref 512 0 0,.ref 511 0 0,.ref 513 0 0]) (by simp) (e7.of func210 rfl rfl) (by decide) ?hIt ?he1 ?hH (fun _ _=>trivial) ?hfx ?round ?done
 case hIt=>
  intro w X μ lb hs cq aK qh;rw[hl];refine Xa G hM t (by omega) w X μ lb ?_ cq aK ?_
  .simpa[sK,dS,ab]using hs
  .intro i u x hu hx;have h:=qh i u x hu hx
   match i,hx with
   | 0,hx=>obtain rfl:=Option.some.inj hx;exact h
   | 1,hx=>obtain rfl:=Option.some.inj hx;exact h
   | 2,hx=>obtain rfl:=Option.some.inj hx;exact h
 case he1=>
  intro i x hx;have h:=zy hx;simp only[List.mem_cons,List.not_mem_nil,or_false,Prod.mk.injEq]at h
  rcases h with⟨rfl,rfl⟩ | ⟨rfl,rfl⟩ | ⟨rfl,rfl⟩ | ⟨rfl,rfl⟩ | ⟨rfl,rfl⟩ | ⟨rfl,rfl⟩<;>exact⟨rfl,_,rfl,rfl⟩
 case hH=>
  rw[hinv 0 lr rfl];simp[qI,lr,cD,VG,n7]
  try rfl
 case hfx=>
  intro q h;simp at h ⊢;omega
 case done=>
  rintro⟨s,hs⟩;rw[List.length_map]at hs ⊢;have dI:=D8 (s:=s) (by omega) (hl ▸ hs);have bJ:=xj (t:=t) (by omega) (Nat.le_refl _) (hl ▸ hs);have tZ:=JZ bJ (by rw[<- hl];omega);have gU:=ID G ⟨s.names,s.aaw⟩ tZ;rw[hinv _ _ hs];refine bN _ (xL fun X' ds=>?_);obtain⟨hnl,dZ,dX,_,_⟩:=bJ;rw[<- hl]at dX
  have CU:∀ c i,cf ⟨s.names,s.aaw⟩=some (c,some i)->i < (s.gB ++ s.gF).length:=fun c i h=>by have:=FU h;simp at this ⊢;omega
  unfold qI;refine AW.imp (aB.freeze 801 trivial) ?_;refine AW.st (by simp[ab,dS];rfl) ?_;refine AW.imp (aB.freeze 802 trivial) ?_;refine AW.st (by simp[ab,dS];rfl) ?_;refine AW.imp (aB.freeze 803 trivial) ?_;refine AW.st (by simp[ab,dS];rfl) ?_;refine AW.imp (aB.freeze 804 trivial) ?_;refine AW.st (by simp[ab,dS];rfl) ?_;have bW:=Nu G s.gB s.gF (by omega) (by omega);have jq:=fun i h=>Gy (s.gB ++ s.gF) i h;simp only[dPg,ey,bK,dr]at gU;generalize p7:s.names.map aW=NN at gU ⊢;generalize oO:s.aaw.map b7=RR at gU ⊢;generalize cD s.gB=NA at bW ⊢;generalize cD s.gF=RA at bW ⊢;generalize cD (s.gB ++ s.gF)=CC at bW jq
  cases aN:cf ⟨s.names,s.aaw⟩ with
  | none=>
   rw[aN]at gU dI;simp only[ba]at gU;refine aR fw gU [2,3,4,5,6,14] [2,3,4,5,6,7] ?_;refine ae fun K7 dW=>?_;refine rgq (Aq fw (Aq @bp.eq_1 (Aq @bp.eq_2 @aaS.eq_1))) [2,3,4,5,6,14,15,16] [2,3,4,5,6,7] ?_;refine rgq fw [2,3,4,5,6,14,15,108] [2,3,4,5,6,7] ?_;refine ag rfl ?_;refine ah (dW _ ?_);refine ae fun K8 ez=>?_;refine rgq fw [2,3,4,14,127] [2,3,4,5,6,7] ?_;refine ag rfl ?_;refine ah (ez _ ?_);refine rgq fw [2,3] [2,3,4,5,6,7] ?_;exact aG (Aq fw (Aq @dI (Aq @dPg.eq_1 (Aq @ey.eq_1 (Aq @bK.eq_1 (Aq @dr.eq_1 (Aq @ba.eq_1 (Aq @ba.eq_2 (Aq @ba.eq_3 (Aq @p7 @oO))))))))))
  | some ci=>
   obtain⟨c,i⟩:=ci;rw[aN]at gU dI
   cases i with
   | none=>
    simp only[ba]at gU;refine aR fw gU [2,3,4,5,6,14] [2,3,4,5,6,7] ?_;refine ae fun K7 dW=>?_;refine rgq (Aq fw (Aq @bp.eq_1 (Aq @bp.eq_2 @aaS.eq_1))) [2,3,4,5,6,14,15,16] [2,3,4,5,6,7] ?_;refine rgq fw [2,3,4,5,6,14,15,108] [2,3,4,5,6,7] ?_;refine ag rfl ?_;refine ah (dW _ ?_);refine ae fun K8 ez=>?_;refine rgq fw [2,3,4,14,127] [2,3,4,5,6,7] ?_;refine aax rfl ?_;refine rgq fw [2,3] [2,3,4,5,6,7] ?_;exact aG (Aq fw (Aq @dI (Aq @dPg.eq_1 (Aq @ey.eq_1 (Aq @bK.eq_1 (Aq @dr.eq_1 (Aq @ba.eq_1 (Aq @ba.eq_2 @ba.eq_3))))))))
   | some i=>
    have hi:=CU c i aN;have Ho:=jq i hi;dsimp only at dI;obtain⟨c6,ke⟩:=List.getElem?_eq_some_iff.1 Ho;simp only[ba]at gU;simp only[ab]at ke;clear Ho;generalize (s.gB ++ s.gF).getD i 0=pl at ke dI;refine aR fw gU [2,3,4,5,6,14] [2,3,4,5,6,7] ?_;refine ae fun K7 dW=>?_;refine rgq (Aq fw (Aq @bp.eq_1 (Aq @bp.eq_2 @aaS.eq_1))) [2,3,4,5,6,14,15,16] [2,3,4,5,6,7] ?_;refine rgq fw [2,3,4,5,6,14,15,108] [2,3,4,5,6,7] ?_;refine aax rfl ?_;refine LU (aay _) (by kernel_rfl) ([6,15]) (List.range 18) (by kernel_rfl) fun K' af=>?_;(repeat (refine pE rfl fun K2 aa=>?_;simp[ab,dS,c6,ke];(repeat (refine⟨by omega,?_⟩));refine aa _ ?_;clear aa K2));refine pE rfl fun K2 aa=>?_;simp[ab,dS,c6,ke];refine mM.mk (bW) (by simp;rfl) (by simp;rfl) (by first | exact D.aaE _ | simp[aaA,List.map_map,Function.comp_def,D.le,D.le.go,D.le_refl,D.aaE,ab,dS,c6,ke]) (by simp) ?_;refine aa _ ?_;clear aa K2;simp only[aD,cu];(repeat (refine pE rfl fun K2 aa=>?_;simp[ab,dS,c6,ke];(repeat (refine⟨by omega,?_⟩));refine aa _ ?_;clear aa K2));refine sR (af _ ?_);clear af K';refine dW _ (AW.norm [2,3,4,14] [2,3,4,5,6,7] (fun _ _=>trivial) (AW.st (by simp[ab,dS,c6,ke];rfl) ?_));refine ae fun K8 ez=>?_;refine rgq fw [2,3,4,14,127] [2,3,4,5,6,7] ?_;refine aax rfl ?_;refine rgq fw [2,3] [2,3,4,5,6,7] ?_;exact aG (Aq fw (Aq @dI (Aq @dPg.eq_1 (Aq @ey.eq_1 (Aq @bK.eq_1 (Aq @dr.eq_1 (Aq @ba.eq_1 (Aq @ba.eq_2 @ba.eq_3))))))))
 case round=>
  rintro X' L k hk ⟨s,hs⟩
  have eA:k < l.length:=by simpa using hk
  obtain⟨ln,ld⟩:∃ ln,ln=l[k]:=⟨_,rfl⟩;rw[hinv k s hs,show (l.map fun s=>Value.string (bs s))[k] = .string (bs ln) by simp[ld]]
  have Rb:gE l k+ln.length<=t.length:=by rw[ld];subst hl;exact Ef eA
  have de:(gE l (k+1):Int)=(gE l k:Int)+((ln.length:Int)+1):=by rw[Eg eA,<- ld];omega
  have bJ:=xj (t:=t) (by omega) (Nat.le_of_lt (hl ▸ eA)) (hl ▸ hs);have eI:∀ s',ij s (gE l k) ln = .inr s'->eE l (k+1) = .inr s':=fun s' h=>JV eA hs (ld ▸ h);have acw:∀ c i,ij s (gE l k) ln = .inl (c,i)->gD t=(some (c,some i),⟨[],[]⟩):=fun c i h=>D7 (by omega) (hl ▸ JU eA hs (ld ▸ h));obtain⟨hnl,dZ,dX,_,_⟩:=bJ;have htr:=X4 G ln (by omega);have HY:=X7 ln;have QR:=fun h=>agE G hM hP hG hE ln (by omega) h;generalize tV:gE l k=pk at *
  have hN2:(s.names.map aW).length=s.names.length:=by simp
  have Pv:(s.aaw.map b7).length=s.aaw.length:=by simp
  have Po:(cD s.gB).length=s.names.length:=by simp[cD,hnl]
  have ru:(cD s.gF).length=s.aaw.length:=by simp[cD,dZ]
  generalize p7:s.names.map aW=NN at *;generalize oO:s.aaw.map b7=RR at *;generalize hNA:cD s.gB=NA at *;generalize hRA:cD s.gF=RA at *;unfold qI;refine AW.st (by simp;rfl) ?_;refine WI fun K7 dW=>?_;refine reK fw dW [2,3,4,5,6,7,8] [2,3,4,5,6,7,801,802,803,804] ?_;refine aU ?_;refine ae fun K8 ez=>?_;simp only[dS]at htr;by_cases h0:fy ln=[]
  .have hz:=HY.2 h0;rw[hz]at htr
   have cZ:ij s pk ln = .inr s:=by unfold ij;rw[if_pos h0]
   have hn:=eI _ cZ;refine rg [2,3,4,5,6,7,8,27] [2,3,4,5,6,7,801,802,803,804] (cK rfl) fun K' af=>?_;(repeat (refine sxn fun K2 aa=>?_;simp[ab,dS,lxq,adI,aS,aZ];(repeat (refine⟨by omega,?_⟩));refine aa _ ?_;clear aa K2));refine sxn fun K2 aa=>?_;simp[ab,dS,lxq,adI,aS,aZ];refine aaT.data (htr) (by simp;rfl) (by first | exact D.aaE _ | simp[aaA,List.map_map,Function.comp_def,D.le,D.le.go,D.le_refl,D.aaE,ab,dS,lxq,adI,aS,aZ]) ?_;refine aa _ ?_;clear aa K2;simp only[aD,cu];(repeat (refine sxn fun K2 aa=>?_;simp[ab,dS,lxq,adI,aS,aZ];(repeat (refine⟨by omega,?_⟩));refine aa _ ?_;clear aa K2));refine sxz (af _ (AW.st (by simp[ab,dS,lxq,adI,aS,aZ];rfl) ?_));clear af K';refine ag rfl ?_;refine ah (ez _ ?_);have qf:=(Aq fw @bl);refine xm ?_;(try simp only[aM,aP]);refine And.intro ⟨s,hn⟩ ?_;rw[hinv _ _ hn,de,p7,oO,hNA,hRA];unfold qI;refine (show aB _ _ _ _ _ ⟨lst [],ak _⟩ from ?_);refine aX (Aq fw @de)
  have hz:Lib.trimB ln 32≠[]:=fun h=>h0 (HY.1 h)
  have eC:ij s pk ln=match abD ln with
   | .form=>.inl (3,pk)
   | .bad c off=>.inl (c,pk+off)
   | .name n=>if s.aaw=[] then .inr ⟨s.names ++ [n],s.gB ++ [pk],s.aaw,s.gF⟩ else .inl (3,pk)
   | .lv r=>.inr ⟨s.names,s.gB,s.aaw ++ [r],s.gF ++ [pk]⟩:=by unfold ij;rw[if_neg h0];cases abD ln<;>rfl
  have iT:=QR h0;simp only[dS]at iT;generalize Lib.trimB ln 32=tz at htr hz;refine rg [2,3,4,5,6,7,8,27] [2,3,4,5,6,7,801,802,803,804] (cK rfl) fun K' af=>?_;(repeat (refine sxn fun K2 aa=>?_;simp[ab,dS,lxq,adI,aS,aZ,hz];(repeat (refine⟨by omega,?_⟩));refine aa _ ?_;clear aa K2));refine sxn fun K2 aa=>?_;simp[ab,dS,lxq,adI,aS,aZ,hz];refine aaT.data (htr) (by simp;rfl) (by first | exact D.aaE _ | simp[aaA,List.map_map,Function.comp_def,D.le,D.le.go,D.le_refl,D.aaE,ab,dS,lxq,adI,aS,aZ,hz]) ?_;refine aa _ ?_;clear aa K2;simp only[aD,cu];(repeat (refine sxn fun K2 aa=>?_;simp[ab,dS,lxq,adI,aS,aZ,hz];(repeat (refine⟨by omega,?_⟩));refine aa _ ?_;clear aa K2));refine sxz (af _ (AW.st (by simp[ab,dS,lxq,adI,aS,aZ,hz];rfl) ?_));clear af K';refine aax (by simp[hz]) ?_;have tO:=fun c off=>agD (s:=ln) (c:=c) (off:=off)
  cases wm:abD ln with
  | form=>
   rw[wm]at iT eC;dsimp only at eC;simp only[b9]at iT;have hp:=acw _ _ eC;refine aR fw iT [2,3,4,5,6,7,8,9,10,11] [2,3,4,5,6,7,801,802,803,804] ?_;refine ae fun K9 hK9=>?_;refine rgq (Aq fw (Aq @bp.eq_1 (Aq @bp.eq_2 @aaS.eq_1))) [2,3,4,5,6,7,8,9,10,11,12,13] [2,3,4,5,6,7,801,802,803,804] ?_;refine rgq fw [2,3,4,5,6,7,8,9,10,11,12,39] [2,3,4,5,6,7,801,802,803,804] ?_;refine ag rfl ?_;refine ah (hK9 _ ?_);refine aU ?_;refine ae fun kZ dz=>?_;refine rgq fw [2,3,4,5,6,7,8,9,10,66] [2,3,4,5,6,7,801,802,803,804] ?_;refine aax rfl ?_;refine ah (dz _ ?_);refine aax rfl ?_;refine AE (aay _) (by kernel_rfl) ([3]) ([(1,7),(5,2),(6,3)]) (List.range 7) [2,3] [2,3,4,5,6,7,801,802,803,804] (cK rfl) (by kernel_rfl) fun K' af=>?_;(repeat (refine EP rfl fun K2 aa=>?_;simp[ab,dS];(repeat (refine⟨by omega,?_⟩));refine aa _ ?_;clear aa K2));refine ER (af _ ?_);refine AW.st (by simp[ab,dS];rfl) ?_;clear af K';refine bn (Exists.intro _ (And.intro (aB.env (by intro i x h;cases h)) ?_));simp[D.le,D.le.go,aaA,hp,dPg,ey,bK,dr,ba,n7,ab]
  | bad c off=>
   rw[wm]at iT eC;dsimp only at eC;simp only[b9]at iT;have hp:=acw _ _ eC;have ho:=tO c off wm
   have hcs:((pk+off:Nat):Int)=(pk:Int)+(off:Int):=by omega
   refine aR fw iT [2,3,4,5,6,7,8,9,10,11] [2,3,4,5,6,7,801,802,803,804] ?_;refine ae fun K9 hK9=>?_;refine rgq (Aq fw (Aq @bp.eq_1 (Aq @bp.eq_2 @aaS.eq_1))) [2,3,4,5,6,7,8,9,10,11,12,13] [2,3,4,5,6,7,801,802,803,804] ?_;refine rgq fw [2,3,4,5,6,7,8,9,10,11,12,39] [2,3,4,5,6,7,801,802,803,804] ?_;refine aax rfl ?_;refine AE (aay _) (by kernel_rfl) ([12]) ([(4,999),(5,7),(9,999),(14,2),(15,3)]) (List.range 16) [2,3] [2,3,4,5,6,7,801,802,803,804] (cK rfl) (by kernel_rfl) fun K' af=>?_;(repeat (refine EP rfl fun K2 aa=>?_;simp[ab,dS];(repeat (refine⟨by omega,?_⟩));refine aa _ ?_;clear aa K2));refine ER (af _ ?_);refine AW.st (by simp[ab,dS];rfl) ?_;clear af K';refine bn (Exists.intro _ (And.intro (aB.env (by intro i x h;cases h)) ?_));simp[D.le,D.le.go,aaA,hp,dPg,ey,bK,dr,ba,n7,ab,hcs]
  | name n=>
   rw[wm]at iT eC;dsimp only at eC;simp only[b9]at iT;have fK:aW n=[.v (.string (bs n.name)),.v (.int .i64 n.kind),.v (.int .i64 n.count)]:=rfl
   have GZ:(s.names ++ [n]).map aW=NN ++ [aW n]:=by rw[List.map_append,p7];rfl
   have tw:cD (s.gB ++ [pk])=NA ++ [[.v (.int .i64 pk)]]:=by rw[<- hNA];unfold cD;rw[List.map_append];rfl
   generalize bs n.name=nm at fK;generalize n.kind=kd at fK;generalize n.count=ct at fK;rw[fK]at iT GZ;refine aR fw iT [2,3,4,5,6,7,8,9,10,11] [2,3,4,5,6,7,801,802,803,804] ?_;refine ae fun K9 hK9=>?_;refine rgq (Aq fw (Aq @bp.eq_1 (Aq @bp.eq_2 @aaS.eq_1))) [2,3,4,5,6,7,8,9,10,11,12,13] [2,3,4,5,6,7,801,802,803,804] ?_;refine rgq fw [2,3,4,5,6,7,8,9,10,11,12,39] [2,3,4,5,6,7,801,802,803,804] ?_;refine ag rfl ?_;refine ah (hK9 _ ?_);refine aU ?_;refine ae fun kZ dz=>?_;refine rgq fw [2,3,4,5,6,7,8,9,10,66] [2,3,4,5,6,7,801,802,803,804] ?_;refine ag rfl ?_;by_cases jy:s.aaw=[]
   .rw[if_pos jy]at eC;have hn:=eI _ eC;have lh:RA=[]:=List.length_eq_zero_iff.1 (by rw[ru,jy];rfl);subst lh;refine reK fw dz [2,3,4,5,6,7,8,9,10,66] [2,3,4,5,6,7,801,802,803,804] ?_;refine ag rfl ?_;refine rgq fw [2,3,4,5,6,7,8,9,10,81] [2,3,4,5,6,7,801,802,803,804] ?_;refine ag rfl ?_;refine pI (aay _) (by kernel_rfl) ([(6,(801,59)),(10,(803,63))]) ([(7,[801]),(8,[801]),(9,[801]),(11,[803])]) ([0,1,2,3,4,7,8,5,9,6,11,10,12,13]) (by kernel_rfl) fun K' af=>?_;(repeat (refine pF rfl fun K2 aa=>?_;simp[ab,dS,List.take_of_length_le];(repeat (refine⟨by omega,?_⟩));refine aa _ ?_;clear aa K2));refine pG (af _ ?_);clear af K';refine ez _ (AW.norm [2,3,4,5,6,7,8] [2,3,4,5,6,7,801,802,803,804] (cK rfl) (AW.st (by simp[ab,dS,List.take_of_length_le];rfl) ?_));have qf:=(Aq fw @bl);refine xm ?_;(try simp only[aM,aP]);refine And.intro ⟨_,hn⟩ ?_;rw[hinv _ _ hn,de];dsimp only;rw[GZ,tw,oO,hRA];unfold qI;refine (show aB _ _ _ _ _ ⟨lst [],ak _⟩ from ?_);refine aX (Aq fw @de)
   .rw[if_neg jy]at eC;have hp:=acw _ _ eC
    have lh:0 < RA.length:=by rw[ru];exact List.length_pos_iff.2 jy
    have qf:=(Aq fw @lh);refine cT dz [2,3,4,5,6,7,8,9,10,66] [2,3,4,5,6,7,801,802,803,804] ?_;refine aax (by simp[lh]) ?_;refine AE (aay _) (by kernel_rfl) ([3]) ([(1,7),(5,2),(6,3)]) (List.range 7) [2,3] [2,3,4,5,6,7,801,802,803,804] (cK rfl) (by kernel_rfl) fun K' af=>?_;(repeat (refine EP rfl fun K2 aa=>?_;simp[ab,dS];(repeat (refine⟨by omega,?_⟩));refine aa _ ?_;clear aa K2));refine ER (af _ ?_);refine AW.st (by simp[ab,dS];rfl) ?_;clear af K';refine bn (Exists.intro _ (And.intro (aB.env (by intro i x h;cases h)) ?_));simp[D.le,D.le.go,aaA,hp,dPg,ey,bK,dr,ba,n7,ab]
  | lv r=>
   rw[wm]at iT eC;dsimp only at eC;simp only[b9]at iT;have hn:=eI _ eC;have CR:=NK r.cond;have fV:b7 r=[.v (.int .i64 r.kind),.v (.string (bs r.name)),dC r.cond]:=rfl
   have yK:(s.aaw ++ [r]).map b7=RR ++ [b7 r]:=by rw[List.map_append,oO];rfl
   have tw:cD (s.gF ++ [pk])=RA ++ [[.v (.int .i64 pk)]]:=by rw[<- hRA];unfold cD;rw[List.map_append];rfl
   generalize bs r.name=nm at fV;generalize r.kind=kd at fV;generalize dC r.cond=dc at fV CR;rw[fV]at iT yK;refine aR fw iT [2,3,4,5,6,7,8,9,10,11] [2,3,4,5,6,7,801,802,803,804] ?_;refine ae fun K9 hK9=>?_;refine rgq (Aq fw (Aq @bp.eq_1 (Aq @bp.eq_2 @aaS.eq_1))) [2,3,4,5,6,7,8,9,10,11,12,13] [2,3,4,5,6,7,801,802,803,804] ?_;refine rgq fw [2,3,4,5,6,7,8,9,10,11,12,39] [2,3,4,5,6,7,801,802,803,804] ?_;refine ag rfl ?_;refine ah (hK9 _ ?_);refine aU ?_;refine ae fun kZ dz=>?_;refine rgq fw [2,3,4,5,6,7,8,9,10,66] [2,3,4,5,6,7,801,802,803,804] ?_;refine ag rfl ?_;refine reK fw dz [2,3,4,5,6,7,8,9,10,66] [2,3,4,5,6,7,801,802,803,804] ?_;refine ag rfl ?_;refine rgq fw [2,3,4,5,6,7,8,9,10,81] [2,3,4,5,6,7,801,802,803,804] ?_;refine aax rfl ?_;refine pI (aay _) (by kernel_rfl) ([(6,(802,89)),(10,(804,93))]) ([(7,[802]),(8,[802]),(9,[802]),(11,[804])]) ([0,1,2,3,4,7,8,5,9,6,11,10,12,13]) (by kernel_rfl) fun K' af=>?_;(repeat (refine pF rfl fun K2 aa=>?_;simp[ab,dS,List.take_of_length_le,CR];(repeat (refine⟨by omega,?_⟩));refine aa _ ?_;clear aa K2));refine pG (af _ ?_);clear af K';refine ez _ (AW.norm [2,3,4,5,6,7,8] [2,3,4,5,6,7,801,802,803,804] (cK rfl) (AW.st (by simp[ab,dS,List.take_of_length_le,CR];rfl) ?_));have qf:=(Aq fw @bl);refine xm ?_;(try simp only[aM,aP]);refine And.intro ⟨_,hn⟩ ?_;rw[hinv _ _ hn,de];dsimp only;rw[yK,tw,p7,hNA];unfold qI;refine (show aB _ _ _ _ _ ⟨lst [],ak _⟩ from ?_);refine aX (Aq fw @de)
end Go.Proofs.YtdigkhaofjmgkaaGreatDoor
namespace Go.Proofs.YtdigkhaofjmgkaaGreatDoor
open Go.Av
def SW (S P:Int) (n:Nat):Prop:=S < 1\/3 < S\/P < 0\/2 < P\/n < 1\/3 < n
instance (S P:Int) (n:Nat):Decidable (SW S P n):=inferInstanceAs (Decidable (_\/_))
theorem DC (G:ao) (k0:Option Bool) (t:List (List UInt8)) (s:List UInt8) (hs:s≠[]) (ht:t.length < 2^60):ar prog G 117 [.sl k0 (t.map fun x=>[dS x]),dS s] (ab (idx (fun x=>x == s) t)):=by
 have eJ:s.isEmpty=false:=by rw[List.isEmpty_eq_false_iff];exact hs
 refine ar.aC (aay _) func117 rfl rfl (rs:=[.tmp 4]) results117 (by simp[ntmps117]) fun X=>?_;simp only[ntmps117,List.map];have fw:=@ab.eq_1;refine rgq fw [0,1] [] ?_;refine ae fun K1 au=>?_;refine rgq fw [1,7,8,9] [] ?_;refine bZ (S:=Nat) (fun n=>n<=t.length/\∀ i (hi:i < t.length),i < n->(t[i] == s)=false) (fun n=>⟨lst [(1,.d (dS s)),(7,.d (.sl k0 (t.map fun x=>[dS x]))),(8,int t.length),(9,int n)],ak []⟩) (fun n=>t.length - n) 0 ?_ (by simp) ?_
 .refine aX fw
 .rintro n ⟨hn,hp⟩;refine rgq fw [1,7,8,9,10] [] ?_;refine ae fun K2 aa=>?_;refine dw (b:=n < t.length) (by simp[D.le,D.le.go,aaA,ab]) (fun hc=>?_) (fun hc=>?_)
  .have ql:n < t.length:=hc;refine ah (aa _ ?_);refine ae fun K3 aH=>?_;refine aU ?_;have qf:=(Aq fw @ql);refine al [1,5,6,7,8,9] [] ?_
   cases he:(t[n] == s) with
   | true=>
    have he2:t[n]=s:=by simpa using he
    refine rg [1,5,7,8,9,20] [] (fun _ _=>trivial) fun K' af=>?_;(repeat (refine sxn fun K2 aa=>?_;simp[ab,dS,he2,aS,br,aZ,hs,eJ];(repeat (refine⟨by omega,?_⟩));refine aa _ ?_;clear aa K2));refine sxz (af _ (AW.st (by simp[ab,dS,he2,aS,br,aZ,hs,eJ];rfl) ?_));clear af K';refine aax rfl ?_;refine rgq fw [4] [] ?_;refine bn ?_;simp[D.le,D.le.go,aaA,ab];exact (sk ql he fun i hi=>hp i (by omega) hi).symm
   | false=>
    have he2:¬ t[n]=s:=by simpa using he
    refine rg [1,5,7,8,9,20] [] (fun _ _=>trivial) fun K' af=>?_;(repeat (refine sxn fun K2 aa=>?_;simp[ab,dS,he,he2,aS,br,aZ];(repeat (refine⟨by omega,?_⟩));refine aa _ ?_;clear aa K2));refine sxz (af _ (AW.st (by simp[ab,dS,he,he2,aS,br,aZ];rfl) ?_));clear af K';refine ag rfl ?_;refine ah ?_;refine aH _ (AW.norm [1,7,8,9] [] (fun _ _=>trivial) (AW.st (by simp[ab];rfl) ?_));refine bO fw ?_;(try simp only[aM,aP]);refine aV.mk (n+1) ⟨by omega,fun i hi aF=>?_⟩ (by omega) ?_
    .by_cases h:i=n
     .subst h;exact he
     .exact hp i hi (by omega)
    refine aX (Aq fw @dS.eq_1)
  .refine bG (au _ ?_);refine rgq fw [4] [] ?_;refine bn ?_;simp[D.le,D.le.go,aaA,ab];exact (aem fun i hi=>hp i hi (by omega)).symm
theorem Gf {p:PgP} (h:∀ r∈p.aaw,∃ e,r.cond=some e/\bE e<=2^28):∀ {n:Nat},n<=p.aaw.length->(acH p n).length<=2^28 * n
 | 0,_=>by simp[acH]
 | n+1,hn=>by
  have ih:=Gf h (n:=n) (by omega);obtain⟨e,he,hb⟩:=h p.aaw[n] (List.getElem_mem _);rw[Bv (by omega),List.length_append]
  have:(p0 p p.aaw[n]).length<=2^28:=by
   unfold p0;rw[he,List.length_map];have h1:=Lib.compact_length_le (jW (ck false e));have h2:=adM (ck false e);have h3:=sB false e;show (du false e).length<=_;unfold du;omega
  omega
theorem SU (G:ao) (p:PgP) (hnl:p.names.length < 2^62) (dZ:p.aaw.length<=100) (hg:∀ r∈p.aaw,∃ e,r.cond=some e/\bE e<=2^28):ar prog G 65 [dPg p] (.sl none ((Lib.compact (kW (acH p p.aaw.length))).map fun x=>[.v (.int .i64 x)])):=by
 have bD:=fun s=>su G p hnl s;have hlen:=fun n hn=>Gf (n:=n) hg hn;have hL:=hlen _ (Nat.le_refl _);have r3:=Xk G 300 3 (acH p p.aaw.length) (by omega);have lM:=Nr G 300 3 (kW (acH p p.aaw.length)) (by rw[xv];omega);rw[xv]at lM;have hcl:=Lib.compact_length_le (kW (acH p p.aaw.length));rw[xv]at hcl;generalize Ph:acH p p.aaw.length=l at r3 lM hcl hL ⊢;generalize kW l=z at r3 lM hcl ⊢
 have cy:List.take (Lib.compact z).length ((Lib.compact z ++ List.replicate (l.length - (Lib.compact z).length) 0).map fun s=>[D.v (.int .i64 s)])=(Lib.compact z).map fun s=>[D.v (.int .i64 s)]:=by
  rw[List.map_append,List.take_append_of_le_length (by simp),List.take_of_length_le (by simp)]
 have Df:(Lib.compact z ++ List.replicate (l.length - (Lib.compact z).length) 0).length=l.length:=by simp;omega
 generalize Lib.compact z ++ List.replicate (l.length - (Lib.compact z).length) 0=y at lM cy Df;generalize Lib.compact z=c at lM hcl cy ⊢;simp only[dPg,ey,bK,dr,dS]at bD ⊢;refine ar.aC (aay _) func65 rfl rfl (rs:=[.tmp 2]) results65 (by simp[ntmps65]) fun X=>?_;simp only[ntmps65,List.map];have fw:=@ab.eq_1;refine rgq fw [1] [1] ?_;refine aa1 fw 1 ?_;refine rgq fw [1,3] [] ?_;refine ae fun K1 au=>?_;refine rgq fw [1,3,9,10,11] [] ?_;refine bZ (S:=Nat) (fun i=>i<=p.aaw.length) (fun i=>⟨lst [(1,.d (.ip [.sl none (p.names.map aW),.sl none (p.aaw.map b7)])),(3,.own 300 0 (acH p i).length),(9,.d (.sl none (p.aaw.map b7))),(10,int p.aaw.length),(11,int i)],ak [(300,.sl 3 1 ((acH p i).map fun x=>[.v (.int .i64 x)]))]⟩) (fun i=>p.aaw.length - i) 0 ?_ (by simp) ?_
 .refine (aB.iH 3 300 3 1 rfl rfl).trans ?_;refine aX (Aq fw (Aq @acH.eq_1 @acH.eq_2))
 .intro i hi;have yB:=hlen i hi
  have hE2:(acH p i).length < 2^40:=by omega
  have nj:=fun h=>Bv (p:=p) (i:=i) h
  have qa:i=p.aaw.length->acH p i=l:=fun h=>by rw[h];exact Ph
  generalize GO:acH p i=E at hE2 nj qa ⊢;refine rgq fw [1,3,9,10,11,12] [300] ?_;refine ae fun K2 aa=>?_;refine dw (b:=i < p.aaw.length) (by simp[D.le,D.le.go,aaA,ab]) (fun hc=>?_) (fun hc=>?_)
  .have ay:=hc;obtain⟨e,he,hb⟩:=hg _ (List.getElem_mem ay);have hs2:=nj ay;have fV:b7 p.aaw[i]=[.v (.int .i64 p.aaw[i].kind),.v (.string (bs p.aaw[i].name)),dC p.aaw[i].cond]:=rfl;have hed:=NW G e hb
   have HH:(du false e).length<=2^28:=by
    have h1:=Lib.compact_length_le (jW (ck false e));have h2:=adM (ck false e);have h3:=sB false e;unfold du;omega
   unfold p0 at hs2;rw[he]at hs2 fV;simp only[dC,dS]at hs2 fV hed;obtain⟨ta,ca,mo⟩:=ach e;rw[mo]at fV hed;generalize du false e=ns at hs2 hed HH;generalize p.aaw[i].kind=kd at fV;generalize p.aaw[i].name=nm at fV;refine ah (aa _ ?_);refine ae fun K3 aH=>?_;refine aU ?_;have qf:=(Aq fw (Aq @ay @fV));refine al [1,3,5,9,10,11] [300,5] ?_;refine aa1 fw 5 ?_;refine aR fw hed [1,3,9,10,11,17,18,19] [300] ?_;obtain⟨AA,tv⟩:∃ f:Nat->List Int,f=fun j=>E ++ (ns.take j).map (aaL p):=⟨_,rfl⟩
   have BO:AA 0=E:=by rw[tv];simp
   have O1:AA ns.length=E ++ ns.map (aaL p):=by rw[tv];simp
   have O3:∀ j (h:j < ns.length),AA (j+1)=AA j ++ [aaL p ns[j]]:=fun j h=>by rw[tv];dsimp only;rw[List.take_succ_eq_append_getElem h,List.map_append,List.append_assoc];rfl
   have O2:∀ j,(AA j).length < 2^41:=fun j=>by rw[tv];dsimp only;rw[List.length_append,List.length_map,List.length_take];omega
   clear tv;refine bZ (S:=Nat) (fun j=>j<=ns.length) (fun j=>⟨lst [(1,.d (.ip [.sl none (p.names.map aW),.sl none (p.aaw.map b7)])),(3,.own 300 0 (AA j).length),(9,.d (.sl none (p.aaw.map b7))),(10,int p.aaw.length),(11,int i),(17,.d (.sl none (ns.map fun s=>[.v (.string (bs s))]))),(18,int ns.length),(19,int j)],ak [(300,.sl 3 1 ((AA j).map fun x=>[.v (.int .i64 x)]))]⟩) (fun j=>ns.length - j) 0 ?_ (by simp) ?_
   .refine aX (Aq fw @BO)
   .intro j hj;have tw:=O3 j;have GI:=O2 j
    have GH:j=ns.length->E ++ ns.map (aaL p)=AA j:=fun h=>by rw[h,O1]
    generalize tv:AA j=A at tw GI GH ⊢;refine rgq fw [1,3,9,10,11,17,18,19,20] [300] ?_;refine ae fun K4 hK4=>?_;refine dw (b:=j < ns.length) (by simp[D.le,D.le.go,aaA,ab]) (fun hc=>?_) (fun hc=>?_)
    .have jL:=hc;have yz:=tw jL;have HF:=bD ns[j];generalize aaL p ns[j]=z2 at yz HF;refine ah (hK4 _ ?_);refine ae fun K5 bN=>?_;refine aU ?_;have qf:=(Aq fw @jL);refine al [1,3,7,9,10,11,17,18,19] [300] ?_;refine abl (aay _) fun K' af=>?_;(repeat (refine sxn fun K2 aa=>?_;simp[ab,List.take_of_length_le];(repeat (refine⟨by omega,?_⟩));refine aa _ ?_;clear aa K2));refine sxn fun K2 aa=>?_;simp[ab,List.take_of_length_le];refine aaT.data (HF) (by simp;rfl) (by first | exact D.aaE _ | simp[aaA,List.map_map,Function.comp_def,D.le,D.le.go,D.le_refl,D.aaE,ab,List.take_of_length_le]) ?_;refine aa _ ?_;clear aa K2;simp only[aD,cu];(repeat (refine sxn fun K2 aa=>?_;simp[ab,List.take_of_length_le];(repeat (refine⟨by omega,?_⟩));refine aa _ ?_;clear aa K2));refine sxz (af _ ?_);clear af K';refine bN _ (AW.norm [1,3,9,10,11,17,18,19] [300] (fun _ _=>trivial) (AW.st (by simp[ab,List.take_of_length_le];rfl) ?_));refine bO fw ?_;(try simp only[aM,aP]);refine aV.mk (j+1) (by omega) (by omega) ?_;refine aX (Aq fw @yz)
    .obtain rfl:j=ns.length:=by omega
     rw[GH rfl]at hs2;refine bG (aH _ ?_);refine bO fw ?_;(try simp only[aM,aP]);refine aV.mk (i+1) (by omega) (by omega) ?_;refine aX (Aq fw @hs2)
  .obtain rfl:=qa (by omega);refine bG (au _ ?_);refine rgm fw r3 [3] [300] ?_;refine rgm fw lM [2] [300] ?_
   have hle:c.length<=y.length:=by omega
   by_cases oY:c.length=y.length
   .have lS:(y.map fun s=>[D.v (.int .i64 s)])=c.map fun s=>[D.v (.int .i64 s)]:=by rw[<- cy,oY,List.take_of_length_le (by simp)]
    refine AW.imp (aB.freeze 300 trivial) ?_;refine AW.st (by simp[ab,oY,hle,lS];rfl) ?_;exact aG (Aq fw (Aq @oY @lS))
   .refine AW.imp (aB.freeze 300 trivial) ?_;refine AW.st (by simp[ab,oY,hle,cy];rfl) ?_;exact aG (Aq fw @cy)
theorem Yy (G:ao) (hM:acb G) (p:PgP) (hnl:p.names.length < 2^40) (kL:∀ n∈p.names,n.name≠[]) (dZ:p.aaw.length<=100) (hg:∀ r∈p.aaw,∃ e,r.cond=some e/\bE e<=2^28):ar prog G 124 [cE p] (.sl none ((ew p p.names.length).map fun x=>[.v (.int .i64 x)])):=by
 simp only[cE,dM,bK];refine ar.aC (aay _) func124 rfl rfl (rs:=[.tmp 2]) results124 (by simp[ntmps124]) fun X=>?_;simp only[ntmps124,List.map];have fw:=@ab.eq_1;refine rgq fw [1] [1] ?_;refine aa1 fw 1 ?_;refine rgq fw [1,3] [] ?_;refine ae fun K1 au=>?_;refine rgq fw [1,3,9,10,11] [] ?_;refine bZ (S:=Nat) (fun i=>i<=p.names.length) (fun i=>⟨lst [(1,.d (.ip [.sl none (p.names.map aW),.sl none (p.aaw.map cM)])),(3,.own 300 0 (ew p i).length),(9,.d (.sl none (p.names.map aW))),(10,int p.names.length),(11,int i)],ak [(300,.sl 3 1 ((ew p i).map fun x=>[.v (.int .i64 x)]))]⟩) (fun i=>p.names.length - i) 0 ?_ (by simp) ?_
 .refine (aB.iH 3 300 3 1 rfl rfl).trans ?_;refine aX (Aq fw (Aq @ew.eq_1 @ew.eq_2))
 .intro i hi;have hE2:=afo p i;have nj:=fun h=>LB (p:=p) (i:=i) h;generalize GO:ew p i=E at hE2 nj ⊢;refine rgq fw [1,3,9,10,11,12] [300] ?_;refine ae fun K2 aa=>?_;refine dw (b:=i < p.names.length) (by simp[D.le,D.le.go,aaA,ab]) (fun hc=>?_) (fun hc=>?_)
  .have ay:=hc;have hs2:=nj ay;have aO:=kL _ (List.getElem_mem ay);have fK:aW p.names[i]=[.v (.string (bs p.names[i].name)),.v (.int .i64 p.names[i].kind),.v (.int .i64 p.names[i].count)]:=rfl;generalize p.names[i].name=nm at fK hs2 aO;generalize p.names[i].kind=kd at fK;generalize p.names[i].count=ct at fK;refine ah (aa _ ?_);refine ae fun K3 aH=>?_;refine aU ?_;have qf:=(Aq fw (Aq @ay @fK));refine al [1,3,4,5,9,10,11] [300,5] ?_;refine aa1 fw 5 ?_;refine rgq fw [1,3,4,5,9,10,11,17,18,19] [300] ?_;refine bZ (S:=Nat) (fun j=>j<=p.aaw.length/\∀ k (hk:k < p.aaw.length),k < j->ac3 nm p.aaw[k]=false) (fun j=>⟨lst [(1,.d (.ip [.sl none (p.names.map aW),.sl none (p.aaw.map cM)])),(3,.own 300 0 E.length),(4,int i),(5,.d (.ip [.v (.string (bs nm)),.v (.int .i64 kd),.v (.int .i64 ct)])),(9,.d (.sl none (p.names.map aW))),(10,int p.names.length),(11,int i),(17,.d (.sl none (p.aaw.map cM))),(18,int p.aaw.length),(19,int j)],ak [(300,.sl 3 1 (E.map fun x=>[.v (.int .i64 x)]))]⟩) (fun j=>p.aaw.length - j) 0 ?_ (by simp) ?_
   .refine aX fw
   .rintro j ⟨hj,fD⟩;refine rgq fw [1,3,4,5,9,10,11,17,18,19,20] [300] ?_;refine ae fun K4 hK4=>?_;refine dw (b:=j < p.aaw.length) (by simp[D.le,D.le.go,aaA,ab]) (fun hc=>?_) (fun hc=>?_)
    .have jL:=hc;obtain⟨e,he,hb⟩:=hg _ (List.getElem_mem jL);have fV:cM p.aaw[j]=[.v (.int .i64 p.aaw[j].kind),.v (.string (bs p.aaw[j].name)),iK p.aaw[j].cond]:=rfl
     have nN:ac3 nm p.aaw[j]=false->∀ k (hk:k < p.aaw.length),k < j+1->ac3 nm p.aaw[k]=false:=fun h0 k hk hkj=>by
      by_cases h:k=j
      .subst h;exact h0
      .exact fD k hk (by omega)
     have Hr:ac3 nm p.aaw[j]=true->p.aaw.any (ac3 nm)=true:=fun h=>List.any_eq_true.2 ⟨_,List.getElem_mem jL,h⟩
     have acS:ac3 nm p.aaw[j]=decide (0<=idx (fun x=>x == nm) (du false e)):=by unfold ac3;rw[he]
     have hed:=Wi G hM e hb
     have HH:(du false e).length<=2^28:=by
      have h1:=Lib.compact_length_le (jW (ck false e));have h2:=adM (ck false e);have h3:=sB false e;unfold du;omega
     have eZ:=DC G none (du false e) nm aO (by omega);rw[he]at fV;simp only[iK]at fV;obtain⟨ec,Cl⟩:∃ c,dR e = .ip c:=⟨_,nF e⟩;rw[Cl]at fV hed;generalize du false e=ns at hed eZ acS;generalize idx (fun x=>x == nm) ns=ix at eZ acS;generalize ac3 nm p.aaw[j]=hv at nN Hr acS;simp only[dS,ab]at hed eZ;generalize p.aaw[j].kind=Zp at fV;generalize p.aaw[j].name=Zw at fV;refine ah (hK4 _ ?_);refine ae fun K5 bN=>?_;refine aU ?_;have qf:=(Aq fw (Aq @jL @fV));refine al [1,3,4,5,7,9,10,11,17,18,19] [300,7] ?_;refine aa1 fw 7 ?_;refine l6 (aay _) (by kernel_rfl) [1,3,4,5,9,10,11,17,18,19,29] [300] (fun _ _=>trivial) (by kernel_rfl) fun K' af=>?_;(repeat (refine cH fun K2 aa=>?_;simp[ab];(repeat (refine⟨by omega,?_⟩));refine aa _ ?_;clear aa K2));refine cH fun K2 aa=>?_;simp[ab];refine gp.data (hed) (by simp;rfl) (by simp;rfl) (by first | exact D.aaE _ | simp[aaA,List.map_map,Function.comp_def,D.le,D.le.go,D.le_refl,D.aaE,ab]) ?_;refine aa _ ?_;clear aa K2;simp only[aD,cu];(repeat (refine cH fun K2 aa=>?_;simp[ab];(repeat (refine⟨by omega,?_⟩));refine aa _ ?_;clear aa K2));refine cH fun K2 aa=>?_;simp[ab];refine gp.data (eZ) (by simp;rfl) (by simp;rfl) (by first | exact D.aaE _ | simp[aaA,List.map_map,Function.comp_def,D.le,D.le.go,D.le_refl,D.aaE,ab]) ?_;refine aa _ ?_;clear aa K2;simp only[aD,cu];(repeat (refine cH fun K2 aa=>?_;simp[ab];(repeat (refine⟨by omega,?_⟩));refine aa _ ?_;clear aa K2));refine jh (af _ ?_);refine AW.st (by simp[ab];rfl) ?_;clear af K';by_cases h0:0<=ix
     .have fM:hv=true:=by rw[acS];simpa using h0
      rw[if_pos (Hr fM)]at hs2;refine aax (by simp[h0]) ?_;refine rg [1,3,9,10,11] [300] (fun _ _=>trivial) fun K' af=>?_;(repeat (refine sxn fun K2 aa=>?_;simp[ab,List.take_of_length_le];(repeat (refine⟨by omega,?_⟩));refine aa _ ?_;clear aa K2));refine sxz (af _ (AW.st (by simp[ab,List.take_of_length_le];rfl) ?_));clear af K';refine bG (aH _ ?_);refine bO fw ?_;(try simp only[aM,aP]);refine aV.mk (i+1) (by omega) (by omega) ?_;refine aX (Aq fw @hs2)
     .have fM:hv=false:=by rw[acS];simpa using h0
      refine ag (by simp[h0]) ?_;refine ah (bN _ ?_);refine bO fw ?_;(try simp only[aM,aP]);refine aV.mk (j+1) ⟨by omega,nN fM⟩ (by omega) ?_;refine aX fw
    .have p8:p.aaw.any (ac3 nm)=false:=by
      rw[List.any_eq_false];intro r hr;obtain⟨k,hk,rfl⟩:=List.mem_iff_getElem.1 hr;simpa using fD k hk (by omega)
     rw[p8,if_neg (by decide),List.append_nil]at hs2;refine bG (aH _ ?_);refine bO fw ?_;(try simp only[aM,aP]);refine aV.mk (i+1) (by omega) (by omega) ?_;refine aX (Aq fw @hs2)
  .obtain rfl:i=p.names.length:=by omega
   refine bG (au _ ?_);refine AW.imp (aB.freeze 300 trivial) ?_;refine AW.st (by simp[ab,List.take_of_length_le];rfl) ?_;refine rgq fw [2] [] ?_;exact aG (Aq fw @GO)
def u9 (G:ao):Prop:=G 1=some (.ip [.sl none [[.v (.string (bs []))],[.v (.string (bs [105,110,112,117,116]))],[.v (.string (bs [99,111,105,108]))],[.v (.string (bs [116,105,109,101,114]))],[.v (.string (bs [99,111,117,110,116,101,114]))]]])
def va (G:ao):Prop:=G 0=some (.ip [.sl none [[.v (.string (bs []))],[.v (.string (bs []))],[.v (.string (bs [115,101,116]))],[.v (.string (bs [114,101,115,101,116]))],[.v (.string (bs [114,117,110]))],[.v (.string (bs [99,111,117,110,116]))],[.v (.string (bs [122,101,114,111]))]]])
theorem Bf {p:PgP} {c:Int} {o:Option Nat} (h:cf p=some (c,o)):c≠0:=by
 unfold cf at h;split at h
 .simp only[Option.some.injEq,Prod.mk.injEq]at h;omega
 split at h
 .rename_i hf;simp only[Option.some.injEq,Prod.mk.injEq]at h;have:=(vz hf).2.2;rw[<- h.1];exact this
 split at h
 .rename_i hf;simp only[Option.some.injEq,Prod.mk.injEq]at h;have:=(vz hf).2.2;rw[<- h.1];exact this
 .cases h
theorem UY {s:Tx} (h:gb s=true):s≠[]/\s.length<=8:=by
 unfold gb at h;simp only[Bool.and_eq_true,decide_eq_true_eq]at h;exact⟨h.1,h.2.1⟩
theorem SX {s:Tx} {r:fI} (h:abD s = .lv r):∃ e,r.cond=some e/\fi e/\pX e<=20/\bE e<=10000:=by
 unfold abD at h;split at h
 .obtain⟨k,nm,hm,hr⟩:=afO h;obtain⟨e,he,hp,_,hn,_⟩:=KM hr;exact⟨e,he,(Ea hp).1,(Ea hp).2,JL hp⟩
 .exact absurd h Jf
def acZ (r:fI):Prop:=∃ e,r.cond=some e/\fi e/\pX e<=20/\bE e<=10000
theorem JT {l:List Tx}:∀ {k:Nat} {s:PrS},eE l k = .inr s->∀ r∈s.aaw,acZ r
 | 0,s,h=>by
  simp only[eE,Sum.inr.injEq]at h;subst h;simp[lr]
 | k+1,s,h=>by
  rw[eE]at h
  cases hk:eE l k with
  | inl e=>rw[hk]at h;cases h
  | inr s0=>
   rw[hk]at h;dsimp only at h;have ih:=JT hk;unfold ij at h;split at h
   .simp only[Sum.inr.injEq]at h;subst h;exact ih
   .split at h
    .cases h
    .cases h
    .split at h
     .simp only[Sum.inr.injEq]at h;subst h;exact ih
     .cases h
    .rename_i r hr;simp only[Sum.inr.injEq]at h;subst h;intro r' hr'
     rcases List.mem_append.1 hr' with h1 | h1
     .exact ih r' h1
     .obtain rfl:=List.mem_singleton.1 h1;exact SX hr
theorem JM {t:Tx} {p:PgP} (h:gD t=(none,p)):cf p=none/\∀ r∈p.aaw,acZ r:=by
 unfold gD at h;split at h
 .cases h
 .split at h
  .cases h
  .rename_i s hs;split at h
   .rename_i hc;simp only[Prod.mk.injEq,true_and]at h;subst h;exact⟨hc,JT hs⟩
   .cases h
   .cases h
theorem VA {t:Tx} {e:Int×Option Nat} (h:(gD t).1=some e):(gD t).2=⟨[],[]⟩:=by
 by_cases h1:20000 < t.length
 .unfold gD;rw[if_pos h1]
 .cases hs:eE (abe 10 t) (abe 10 t).length with
  | inl ci=>obtain⟨c,i⟩:=ci;rw[D7 (by omega) hs]
  | inr s=>
   rw[D8 (by omega) hs]at h ⊢
   cases hc:cf ⟨s.names,s.aaw⟩ with
   | none=>rw[hc]at h;cases h
   | some co=>
    obtain⟨c,o⟩:=co;cases o<;>rfl
theorem YB:(⟨#[32]⟩:ByteArray)=bs [32]:=rfl
theorem Aw:(⟨#[]⟩:ByteArray)=bs []:=rfl
def mf (l:List Tx):List (List D):=(l.filter fun w=>decide (w≠[])).map fun s=>[dS s]
theorem Gx:mf []=[]:=rfl
theorem OJ (l:List Tx) (n:Nat) (h:n < l.length):mf (l.take (n+1))=if l[n]=[] then mf (l.take n) else mf (l.take n) ++ [[dS l[n]]]:=by
 unfold mf;rw[List.take_succ_eq_append_getElem h,List.filter_append,List.map_append];by_cases h0:l[n]=[]
 .simp[h0]
 .simp[h0]
theorem LH (G:ao) (hM:acb G) (t:Tx) (ht:t.length < 2^30):ar prog G 115 [dS t] (.sl none ((fy t).map fun s=>[dS s])):=by
 have pf:=KZ G hM t 32 ht
 have RM:(fy t).map (fun s=>[dS s])=mf (abe 32 t):=by
  unfold mf fy abe;rw[<- Ay]
 rw[RM];have rT:=x8 32 t;simp only[dS]at pf;generalize abe 32 t=l at *;refine ar.aC (aay _) func115 rfl rfl (rs:=[.tmp 2]) results115 (by simp[ntmps115]) fun X=>?_;simp only[ntmps115,List.map];have fw:=@ab.eq_1;refine rgq fw [0] [] ?_;refine rgq fw [0,3] [] ?_;refine ae fun K1 au=>?_;have qf:=(Aq fw @YB);refine dv pf [3,7,8,9] [] ?_;refine AW.imp (aB.iH 3 300 9 1 rfl rfl) ?_;refine bZ (S:=Nat) (fun n=>n<=l.length) (fun n=>⟨lst [(3,.own 300 0 (mf (l.take n)).length),(7,.d (.sl (some true) (l.map fun s=>[dS s]))),(8,int l.length),(9,int n)],ak [(300,.sl 9 1 (mf (l.take n)))]⟩) (fun n=>l.length - n) 0 ?_ (by omega) ?_
 .refine aB.dK (fun _ _=>trivial) (by simp[ab,Gx,dS]) (by simp[ab,Gx,dS])
 .intro n hn;refine rgq fw [3,7,8,9,10] [300] ?_;refine ae fun K2 aa=>?_;by_cases ay:n < l.length
  .refine aax (by simp;omega) ?_;have hs:=OJ l n ay;generalize Hb:mf (l.take (n+1))=W2 at hs;generalize hW:mf (l.take n)=W at *
   have Y5:W.length<=2^40:=by
    rw[<- hW];unfold mf;rw[List.length_map];have h1:=List.length_filter_le (fun w=>decide (w≠[])) (l.take n);have h2:=List.length_take_le n l;omega
   refine ah (aa _ ?_);refine ae fun K3 aH=>?_;refine aU ?_;simp only[dS]at hs;have qf:=(Aq fw (Aq @ay @dS.eq_1));refine al [3,5,7,8,9] [300] ?_;by_cases hx:l[n]=[]
   .rw[if_pos hx]at hs;refine rg [3,5,7,8,9,14] [300] (fun _ _=>trivial) fun K' af=>?_;(repeat (refine sxn fun K2 aa=>?_;simp[ab,Aw,aS,aZ,hx];(repeat (refine⟨by omega,?_⟩));refine aa _ ?_;clear aa K2));refine sxz (af _ (AW.st (by simp[ab,Aw,aS,aZ,hx];rfl) ?_));clear af K';refine ag (by simp[hx]) ?_;refine ah (aH _ ?_);refine bO fw ?_;(try simp only[aM,aP]);refine aV.mk (n+1) (by omega) (by omega) ?_;refine aX (Aq fw (Aq @Hb (Aq @hs @dS.eq_1)))
   .rw[if_neg hx]at hs
    have lU:l[n].isEmpty=false:=by rw[List.isEmpty_eq_false_iff];exact hx
    refine rg [3,5,7,8,9,14] [300] (fun _ _=>trivial) fun K' af=>?_;(repeat (refine sxn fun K2 aa=>?_;simp[ab,Aw,aS,aZ,hx];(repeat (refine⟨by omega,?_⟩));refine aa _ ?_;clear aa K2));refine sxz (af _ (AW.st (by simp[ab,Aw,aS,aZ,hx];rfl) ?_));clear af K';refine aax (by simp[hx]) ?_;refine abl (aay _) fun K' af=>?_;(repeat (refine sxn fun K2 aa=>?_;simp[ab,List.take_of_length_le];(repeat (refine⟨by omega,?_⟩));refine aa _ ?_;clear aa K2));refine sxz (af _ ?_);clear af K';refine aH _ (AW.norm [3,7,8,9] [300] (fun _ _=>trivial) (AW.st (by simp[ab,List.take_of_length_le];rfl) ?_));refine bO fw ?_;(try simp only[aM,aP]);refine aV.mk (n+1) (by omega) (by omega) ?_;refine aX (Aq fw (Aq @Hb (Aq @hs @dS.eq_1)))
  .obtain rfl:n=l.length:=by omega
   refine ag (by simp) ?_;rw[List.take_length];refine bG (au _ ?_);refine AW.imp (aB.freeze 300 trivial) ?_;refine AW.st (by simp[ab];rfl) ?_;refine rgq fw [2] [] ?_;exact aG fw
def dNr:Option Int->D
 | some v=>.tup [.v (.int .i64 v),.v (.bool true)]
 | none=>.tup [.v (.int .i64 0),.v (.bool false)]
theorem WG (G:ao) (hP:ny G) {es er:Value} (hE:adQ G es er) (s:Tx) (hs:s.length < 2^40):ar prog G 118 [dS s] (dNr (qE s)):=by
 have nQ:=Vy G hE s hs
 have bD:qE s=match Lib.atoiAll s with
  | .ok v=>if Lib.itoa v=s then some v else none
  | _=>none:=rfl
 unfold aed at nQ;refine ar.aC (aay _) func118 rfl rfl (rs:=[.tmp 2,.tmp 3]) results118 (by simp[ntmps118]) fun X=>?_;simp only[ntmps118,List.map];have fw:=@dS.eq_1;refine rgq fw [0] [] ?_
 cases hn:Lib.atoiAll s with
 | ok v=>
  rw[hn]at nQ bD;dsimp only at nQ bD;obtain⟨v0,v1⟩:=Lib.atoiAll_bounds hn;have hit:=OH G hP v v0 v1;simp only[dS]at hit;generalize Lib.itoa v=iv at hit bD;refine aR fw nQ [0,4,5] [] ?_;refine ae fun K1 au=>?_;by_cases hc:iv=s
  .rw[if_pos hc]at bD;subst hc;refine rg [4,18] [] (fun _ _=>trivial) fun K' af=>?_;(repeat (refine sxn fun K2 aa=>?_;simp[dS,aS,aZ];(repeat (refine⟨by omega,?_⟩));refine aa _ ?_;clear aa K2));refine sxn fun K2 aa=>?_;simp[dS,aS,aZ];refine aaT.data (hit) (by simp;rfl) (by first | exact D.aaE _ | simp[aaA,List.map_map,Function.comp_def,D.le,D.le.go,D.le_refl,D.aaE,dS,aS,aZ]) ?_;refine aa _ ?_;clear aa K2;simp only[aD,cu];(repeat (refine sxn fun K2 aa=>?_;simp[dS,aS,aZ];(repeat (refine⟨by omega,?_⟩));refine aa _ ?_;clear aa K2));refine sxz (af _ (AW.st (by simp[dS,aS,aZ];rfl) ?_));clear af K';refine ag rfl ?_;refine ah (au _ ?_);refine rgq fw [2,3] [] ?_;refine bn ?_;simp[D.le,D.le.go,aaA,dS,bD,dNr]
  .rw[if_neg hc]at bD;refine rg [4,18] [] (fun _ _=>trivial) fun K' af=>?_;(repeat (refine sxn fun K2 aa=>?_;simp[dS,aS,aZ,hc];(repeat (refine⟨by omega,?_⟩));refine aa _ ?_;clear aa K2));refine sxn fun K2 aa=>?_;simp[dS,aS,aZ,hc];refine aaT.data (hit) (by simp;rfl) (by first | exact D.aaE _ | simp[aaA,List.map_map,Function.comp_def,D.le,D.le.go,D.le_refl,D.aaE,dS,aS,aZ,hc]) ?_;refine aa _ ?_;clear aa K2;simp only[aD,cu];(repeat (refine sxn fun K2 aa=>?_;simp[dS,aS,aZ,hc];(repeat (refine⟨by omega,?_⟩));refine aa _ ?_;clear aa K2));refine sxz (af _ (AW.st (by simp[dS,aS,aZ,hc];rfl) ?_));clear af K';refine aax (by simp[hc]) ?_;refine rgq fw [2,3] [] ?_;refine bn ?_;simp[D.le,D.le.go,aaA,dS,bD,dNr]
 | range=>
  rw[hn]at nQ bD;dsimp only[oD]at nQ bD;refine aR fw nQ [0,4,5] [] ?_;refine ae fun K1 au=>?_;refine rgq fw [4,18] [] ?_;refine aax rfl ?_;refine rgq fw [2,3] [] ?_;refine bn ?_;simp[D.le,D.le.go,aaA,dS,bD,dNr]
 | _=>
  rw[hn]at nQ bD;dsimp only[oD]at nQ bD;refine aR fw nQ [0,4,5] [] ?_;refine ae fun K1 au=>?_;refine rgq fw [4,18] [] ?_;refine aax rfl ?_;refine rgq fw [2,3] [] ?_;refine bn ?_;simp[D.le,D.le.go,aaA,dS,bD,dNr]
def tu (l:List Tx) (n:Nat):PrS:=match eE l n with
 | .inr s=>s
 | .inl _=>lr
theorem yo {l:List Tx} {n:Nat} {s:PrS} (h:eE l n = .inr s):tu l n=s:=by unfold tu;rw[h]
theorem YG {t:Tx}:∀ w∈fy t,w≠[]:=by
 intro w h;unfold fy at h;rw[<- Ay]at h;have:=(List.mem_filter.1 h).2;simpa using this
theorem Iz {l:List Tx} {s:Tx} {k:Nat} (hk:k < l.length) (h0:l[k]≠s):ixW l s≠k:=by
 intro e
 have h1:¬ ixW l s < 0:=by omega
 unfold ixW at e h1;obtain⟨j,hj,he,hs⟩:=po h1;rw[he]at e
 have:j=k:=by omega
 subst this;exact h0 (by simpa using hs)
theorem NJ {t:Tx} (h:(61:UInt8)∈t):(cutAt 61 t).1.length+1+(cutAt 61 t).2.length=t.length/\(bs t).extract 0 (cutAt 61 t).1.length=bs (cutAt 61 t).1/\(bs t).extract ((cutAt 61 t).1.length+1) t.length=bs (cutAt 61 t).2:=by
 obtain⟨a,b,rfl,ha⟩:=List.eq_append_cons_of_mem h;rw[aeu ha];refine⟨by simp;omega,?_,?_⟩
 .rw[Lib.extract_eq];simp[bs]
 .rw[Lib.extract_eq]
  have:(a ++ 61 :: b).drop (a.length+1)=b:=by
   rw[show a.length+1=(a ++ [(61:UInt8)]).length by simp,show a ++ (61:UInt8) :: b=(a ++ [61]) ++ b by simp,List.drop_left]
  simp only[bs];rw[this,List.take_of_length_le (by simp;omega)]
theorem S9:(61:UInt8).toNat=61:=rfl
theorem WM (G:ao) (hF:pK G) (hM:acb G) (hP:ny G) {es er:Value} (hE:adQ G es er) (mh:u9 G) (mj:va G) (t:Tx):ar prog G 59 [dS t] (.tup [cE (gD t).2,aa0 (gD t).1]):=by
 have Hg:=xV G 4;simp only[ab]at Hg;have GR:G 2=some (.ip [.v (.int .i64 0),.v (.int .i64 (-1))]):=hF;unfold u9 at mh;unfold va at mj;refine ar.aC (aay _) func59 rfl rfl (rs:=[.cell 2 29,.cell 3 124]) results59 (by simp[ntmps59]) fun X=>?_;simp only[ntmps59,List.map];have fw:=(Aq @ab.eq_1 @dS.eq_1);refine rgq fw [0,2,3] [2,3] ?_;refine ae fun K1 au=>?_;by_cases ht:20000 < t.length
 .have iX:(t.length:Int) > 20000:=by omega
  have hp:gD t=(some (4,none),⟨[],[]⟩):=by unfold gD;rw[if_pos ht]
  have qf:=(Aq fw (Aq @bl @iX));refine al [0,2,3,23] [2,3] ?_;refine aax (by simp[iX]) ?_;refine aR fw Hg [2,3] [2,3] ?_;exact aG (Aq fw (Aq @hp (Aq @cE.eq_1 (Aq @dM.eq_1 (Aq @bK.eq_1 (Aq @aa0.eq_1 (Aq @codeF.eq_1 (Aq @codeF.eq_2 (Aq @bx.eq_1 @bx.eq_2)))))))))
 have iX:¬ (t.length:Int) > 20000:=by omega
 have qf:=(Aq fw (Aq @bl @iX));refine al [0,2,3,23] [2,3] ?_;refine ag (by simp[iX]) ?_;refine ah (au _ ?_);refine rgq fw [0,2,3,4] [2,3,4] ?_;refine rgq fw [0,2,3,4,5,6] [2,3,4] ?_;refine rgq fw [0,2,3,4,5,6,7] [2,3,4] ?_;refine ae fun K2 aa=>?_;have pf:=KZ G hM t 10 (by omega);obtain⟨l,hl⟩:∃ l,l=abe 10 t:=⟨_,rfl⟩;have CH:=x8 10 t;rw[<- hl]at pf CH;simp only[dS]at pf;have qf:=(Aq fw @I0);refine dv pf [2,3,4,5,6,7,27,28,29] [2,3,4] ?_;refine AW.imp (aB.iH 5 803 3 1 rfl rfl) ?_;refine AW.st (by simp;rfl) ?_;refine AW.imp (aB.iH 6 804 3 1 rfl rfl) ?_;refine AW.st (by simp;rfl) ?_;refine AW.imp (aB.mL 4 0 801 140 3 rfl rfl rfl) ?_;refine AW.st (by simp;rfl) ?_;refine AW.imp (aB.mL 4 1 802 142 3 rfl rfl rfl) ?_;refine AW.st (by simp;rfl) ?_;obtain⟨NN,p7⟩:∃ f:Nat->List (List D),f=fun n=>(tu l n).names.map aW:=⟨_,rfl⟩;obtain⟨RR,oO⟩:∃ f:Nat->List (List D),f=fun n=>(tu l n).aaw.map cM:=⟨_,rfl⟩;obtain⟨NA,hNA⟩:∃ f:Nat->List (List D),f=fun n=>cD (tu l n).gB:=⟨_,rfl⟩;obtain⟨RA,hRA⟩:∃ f:Nat->List (List D),f=fun n=>cD (tu l n).gF:=⟨_,rfl⟩;obtain⟨PL,G1⟩:∃ f:Nat->Int,f=fun n=>(gE l n:Int):=⟨_,rfl⟩
 have vJ:∀ n s,eE l n = .inr s->NN n=s.names.map aW:=fun n s h=>by rw[p7];dsimp only;rw[yo h]
 have vO:∀ n s,eE l n = .inr s->RR n=s.aaw.map cM:=fun n s h=>by rw[oO];dsimp only;rw[yo h]
 have vH:∀ n s,eE l n = .inr s->NA n=cD s.gB:=fun n s h=>by rw[hNA];dsimp only;rw[yo h]
 have vM:∀ n s,eE l n = .inr s->RA n=cD s.gF:=fun n s h=>by rw[hRA];dsimp only;rw[yo h]
 have BW:∀ n,PL n=(gE l n:Int):=fun n=>by rw[G1]
 have z1:NN 0=[]:=vJ 0 lr rfl;have z2:RR 0=[]:=vO 0 lr rfl;have z3:NA 0=[]:=vH 0 lr rfl;have z4:RA 0=[]:=vM 0 lr rfl;have z5:PL 0=0:=BW 0;clear p7 oO hNA hRA G1;refine bZ (S:=Nat) (fun n=>n<=l.length/\∃ s,eE l n = .inr s) (fun n=>⟨lst [(2,.ref 2 0 0),(3,.ref 3 0 0),(4,.ref 4 0 0),(5,.own 803 0 (NA n).length),(6,.own 804 0 (RA n).length),(7,int (PL n)),(27,.d (.sl (some true) (l.map fun s=>[.v (.string (bs s))]))),(28,int l.length),(29,int n)],ak [(2,.box 29 [.d n7,.d n7]),(3,.box 124 [.d (.v (.int .i64 0)),.d (.v (.int .i64 0))]),(4,.box 29 [.own 801 0 (NN n).length,.own 802 0 (RR n).length]),(801,.sl 140 3 (NN n)),(802,.sl 142 3 (RR n)),(803,.sl 3 1 (NA n)),(804,.sl 3 1 (RA n))]⟩) (fun n=>l.length - n) 0 ?_ ⟨by omega,lr,rfl⟩ ?_
 .refine aB.dK (fun _ _=>trivial) (by simp[ab,dS,z1,z2,z3,z4,z5,n7]) (by simp[ab,dS,z1,z2,z3,z4,z5,n7])
 .rintro n ⟨o9,s,hs⟩;refine rgq fw [2,3,4,5,6,7,27,28,29,30] [2,3,4,801,802,803,804] ?_;refine ae fun K3 aH=>?_;by_cases ay:n < l.length
  .refine aax (by simp[ay]) ?_;refine ah (aH _ ?_);refine ae fun K4 hK4=>?_;refine aU ?_
   have Rb:gE l n+l[n].length<=t.length:=by subst hl;exact Ef ay
   have de:PL (n+1)=(gE l n:Int)+((l[n].length:Int)+1):=by rw[BW,Eg ay];omega
   have bJ:=xj (t:=t) (by omega) (Nat.le_of_lt (hl ▸ ay)) (hl ▸ hs);have eI:∀ s',ij s (gE l n) l[n] = .inr s'->eE l (n+1) = .inr s':=fun s' h=>JV ay hs h;have acw:∀ c i,ij s (gE l n) l[n] = .inl (c,i)->gD t=(some (c,some i),⟨[],[]⟩):=fun c i h=>D7 (by omega) (hl ▸ JU ay hs h);obtain⟨hnl,dZ,dX,_,_⟩:=bJ
   have hN2:(NN n).length=s.names.length:=by rw[vJ n s hs];simp
   have Pv:(RR n).length=s.aaw.length:=by rw[vO n s hs];simp
   have Po:(NA n).length=s.names.length:=by rw[vH n s hs];simp[cD,hnl]
   have ru:(RA n).length=s.aaw.length:=by rw[vM n s hs];simp[cD,dZ]
   have vI:=fun s' h=>vJ (n+1) s' h;have vN:=fun s' h=>vO (n+1) s' h;have vG:=fun s' h=>vH (n+1) s' h;have vL:=fun s' h=>vM (n+1) s' h;have b1:=(vJ n s hs).symm;have b2:=(vO n s hs).symm;have b3:=(vH n s hs).symm;have b4:=(vM n s hs).symm;rw[BW n];have uc:=LH G hM l[n] (by omega);have P7:=fun c=>Xe G l[n] c
   have ld:∀ x,x=l[n]->x.length<=20000:=fun x h=>by rw[h];omega
   have qf:=(Aq fw @ay);refine al [2,3,4,5,6,7,9,27,28,29] [2,3,4,801,802,803,804] ?_;generalize Ze:l[n]=ln at *;generalize tV:gE l n=pk at *;generalize NN n=N1 at *;generalize RR n=R1 at *;generalize NA n=A1 at *;generalize RA n=A2 at *;refine rgq fw [2,3,4,5,6,7,9,10,27,28,29] [2,3,4,801,802,803,804] ?_;have qf:=(Aq fw @bl);refine al [2,3,4,5,6,7,9,10,27,28,29] [2,3,4,801,802,803,804] ?_;refine ae fun K5 bN=>?_;have wL:=fun w h=>AB (t:=ln) (w:=w) h;have jS:=afp ln;by_cases h0:fy ln=[]
   .have cZ:ij s pk ln = .inr s:=by unfold ij;rw[if_pos h0]
    have hn:=eI _ cZ;rw[h0]at uc;simp only[dS]at uc;refine aR fw uc [2,3,4,5,6,7,9,10,27,28,29,42] [2,3,4,801,802,803,804] ?_;refine aax rfl ?_;refine bG (hK4 _ ?_);refine bO fw ?_;(try simp only[aM,aP]);refine aV.mk (n+1) ⟨by omega,s,hn⟩ (by omega) ?_;have e1:=vI _ hn;have e2:=vN _ hn;have e3:=vG _ hn;have e4:=vL _ hn;rw[b1]at e1;rw[b2]at e2;rw[b3]at e3;rw[b4]at e4;refine aB.dK (fun _ _=>trivial) (by simp[ab,dS,e1,e2,e3,e4,de]) (by simp[ab,dS,e1,e2,e3,e4,de])
   have eC:ij s pk ln=match abD ln with
    | .form=>.inl (3,pk)
    | .bad c off=>.inl (c,pk+off)
    | .name n=>if s.aaw=[] then .inr ⟨s.names ++ [n],s.gB ++ [pk],s.aaw,s.gF⟩ else .inl (3,pk)
    | .lv r=>.inr ⟨s.names,s.gB,s.aaw ++ [r],s.gF ++ [pk]⟩:=by unfold ij;rw[if_neg h0];cases abD ln<;>rfl
   have eB:abD ln=if (61:UInt8)∈ln then l3 (cutAt 61 ln).1 (cutAt 61 ln).2 (fy (cutAt 61 ln).1) else acK (fy ln):=rfl;have Zn:0 < (fy ln).length:=List.length_pos_iff.2 h0;have fJ:=P7 61;simp only[S9,dS,ab]at fJ;generalize jT:fy ln=ws at *
   have Zm:(ws.map fun s=>[dS s]).length=ws.length:=by simp
   have lT:¬ (ws.length:Int)=0:=by omega
   simp only[dS]at uc;have qf:=(Aq fw (Aq @lT @h0));refine dv uc [2,3,4,5,6,7,9,10,27,28,29,42] [2,3,4,801,802,803,804] ?_;refine ag (by simp[lT,h0]) ?_;refine ah (bN _ ?_);by_cases p5:(61:UInt8)∈ln
   .rw[if_pos p5]at eB fJ;have hle:=x7 61 ln;have P3:=NJ p5;have si:=LH G hM (cutAt 61 ln).1 (by omega);have eu:=WK G hF (cutAt 61 ln).2 (by omega);have RL:=YG (t:=(cutAt 61 ln).1);generalize (cutAt 61 ln).1=hd at *;generalize (cutAt 61 ln).2=rest at *;obtain⟨hcl,y8,lU⟩:=P3
    have yX:¬ (-1:Int) > 0:=by omega
    simp only[dS]at si eu;refine aR fw fJ [2,3,4,5,6,7,9,10,11,27,28,29] [2,3,4,801,802,803,804] ?_;refine ae fun K6 hK6=>?_;refine rgq fw [2,3,4,5,6,7,9,10,11,27,28,29,46] [2,3,4,801,802,803,804] ?_;refine aax (by simp) ?_;have qf:=(Aq fw (Aq @bl @y8));refine dv si [2,3,4,5,6,7,9,10,11,12,27,28,29] [2,3,4,801,802,803,804] ?_;refine rgq fw [2,3,4,5,6,7,9,10,11,12,13,27,28,29] [2,3,4,13,801,802,803,804] ?_
    match qq:fy hd,RL with
    | [],_=>
     rw[qq]at eB;simp only[qq,List.map_nil];refine ae fun K7 dW=>?_;refine rgq fw [2,3,4,5,6,7,9,10,11,12,13,27,28,29,53] [2,3,4,13,801,802,803,804] ?_;refine aU ?_;refine rgq fw [2,3,4,5,6,7,9,10,11,12,13,27,28,29,53,54] [2,3,4,13,801,802,803,804] ?_;refine ag rfl ?_;refine rgq fw [2,3,4,5,6,7,9,10,11,12,13,27,28,29,60] [2,3,4,13,801,802,803,804] ?_;refine ag rfl ?_;refine ah (dW _ ?_);have hp:=acw 3 pk (by rw[eC,eB];try rfl);refine ae fun K8 ez=>?_;have qf:=(Aq fw @hcl);refine al [2,3,4,5,6,7,9,10,11,13,27,28,29,84] [2,3,4,13,801,802,803,804] ?_;refine aax (by simp[hcl]) ?_;refine rgq fw [2,3] [2,3] ?_;exact aG (Aq fw (Aq @hp (Aq @cE.eq_1 (Aq @dM.eq_1 (Aq @bK.eq_1 (Aq @aa0.eq_1 (Aq @codeF.eq_1 (Aq @codeF.eq_2 (Aq @bx.eq_1 @bx.eq_2)))))))))
    | [a],_=>
     rw[qq]at eB;have bg:True:=trivial;simp only[qq,List.map_nil,List.map_cons];refine ae fun K7 dW=>?_;refine rgq fw [2,3,4,5,6,7,9,10,11,12,13,27,28,29,53] [2,3,4,13,801,802,803,804] ?_;refine aU ?_;refine rgq fw [2,3,4,5,6,7,9,10,11,12,13,27,28,29,53,54] [2,3,4,13,801,802,803,804] ?_;refine aax rfl ?_;refine reK fw dW [2,3,4,5,6,7,9,10,11,12,13,27,28,29] [2,3,4,13,801,802,803,804] ?_;refine ae fun K8 ez=>?_;have qf:=(Aq fw @bg);refine al [2,3,4,5,6,7,9,10,11,13,27,28,29,84] [2,3,4,13,801,802,803,804] ?_;refine ag (by simp[bg]) ?_;refine ah (ez _ ?_);have dZ:abD ln=jC 1 a hd rest:=eB;unfold jC at dZ
     cases dI:(fF rest).2 with
     | some ci=>
      obtain⟨c,o⟩:=ci;have hU:=D9 dI
      have fk:¬ c=0:=by omega
      rw[dI]at eu dZ;dsimp only at dZ;have hp:=acw c (pk+(hd.length+1+o.getD 0)) (by rw[eC,dZ])
      cases o with
      | none=>
       simp only[aa0,codeF,bx,ab]at eu
       have hcs:((pk+(hd.length+1+(none:Option Nat).getD 0):Nat):Int)=(pk:Int)+(hd.length:Int)+1:=by simp;omega
       rw[show (some (pk+(hd.length+1+(none:Option Nat).getD 0)))=some (pk+(hd.length+1+(none:Option Nat).getD 0)) from rfl]at hp;have qf:=(Aq fw (Aq @bl @lU));refine dv eu [2,3,4,5,6,7,10,11,13,14,15,27,28,29] [2,3,4,13,15,801,802,803,804] ?_;refine ae fun K9 hK9=>?_;have qf:=(Aq fw @fk);refine al [2,3,4,5,6,7,10,11,13,14,15,27,28,29,98] [2,3,4,13,15,801,802,803,804] ?_;refine aax (by simp[fk]) ?_;refine kY (aay _) (by kernel_rfl) [(2,15),(8,15),(12,2),(13,3)] [2,3] [2,3,13,15] (fun _ _=>trivial) (by kernel_rfl) fun K' af=>?_;(repeat (refine gk fun K2 aa=>?_;simp[ab,dS,yX];(repeat (refine⟨by omega,?_⟩));refine aa _ ?_;clear aa K2));refine ab8 (af _ ?_);refine AW.st (by simp[ab,dS,yX];rfl) ?_;clear af K';refine bn ?_;simp[D.le,D.le.go,aaA,ab,dS,hp,cE,dM,bK,aa0,codeF,bx,hcs];omega
      | some o=>
       have hob:=xc dI;simp only[aa0,codeF,bx,ab]at eu
       have hcs:((pk+(hd.length+1+(some o).getD 0):Nat):Int)=(pk:Int)+(hd.length:Int)+1+(o:Int):=by simp;omega
       have aeZ:¬ (o:Int) < 0:=by omega
       have qf:=(Aq fw (Aq @bl @lU));refine dv eu [2,3,4,5,6,7,10,11,13,14,15,27,28,29] [2,3,4,13,15,801,802,803,804] ?_;refine ae fun K9 hK9=>?_;have qf:=(Aq fw @fk);refine al [2,3,4,5,6,7,10,11,13,14,15,27,28,29,98] [2,3,4,13,15,801,802,803,804] ?_;refine aax (by simp[fk]) ?_;refine kY (aay _) (by kernel_rfl) [(2,15),(8,15),(12,2),(13,3)] [2,3] [2,3,13,15] (fun _ _=>trivial) (by kernel_rfl) fun K' af=>?_;(repeat (refine gk fun K2 aa=>?_;simp[ab,dS,aeZ];(repeat (refine⟨by omega,?_⟩));refine aa _ ?_;clear aa K2));refine ab8 (af _ ?_);refine AW.st (by simp[ab,dS,aeZ];rfl) ?_;clear af K';refine bn ?_;simp[D.le,D.le.go,aaA,ab,dS,hp,cE,dM,bK,aa0,codeF,bx,hcs];split<;>omega
     | none=>
      rw[dI]at eu dZ;dsimp only at dZ;obtain⟨e,tU⟩:=xd dI;rw[tU]at eu dZ;have hn:=eI _ (by rw[eC,dZ])
      have gA:(s.aaw ++ [(⟨1,a,some e⟩:fI)]).map cM=R1 ++ [[.v (.int .i64 1),.v (.string (bs a)),dR e]]:=by rw[List.map_append,b2];rfl
      have dB:cD (s.gF ++ [pk])=A2 ++ [[.v (.int .i64 pk)]]:=by rw[aex,b4];rfl
      obtain⟨cs,Ci⟩:=aey e;simp only[aa0,codeF,bx,ab,iK]at eu;rw[Ci]at eu gA;have qf:=(Aq fw (Aq @bl @lU));refine dv eu [2,3,4,5,6,7,10,11,13,14,15,27,28,29] [2,3,4,13,15,801,802,803,804] ?_;refine ae fun K9 hK9=>?_;refine rgq fw [2,3,4,5,6,7,10,11,13,14,15,27,28,29,98] [2,3,4,13,15,801,802,803,804] ?_;refine ag rfl ?_;refine ah (hK9 _ ?_);refine rgq fw [2,3,4,5,6,7,10,13,27,28,29] [2,3,4,13,801,802,803,804] ?_;refine rg [2,3,4,5,6,7,27,28,29] [2,3,4,801,802,803,804] (fun _ _=>trivial) fun K' af=>?_;(repeat (refine sxn fun K2 aa=>?_;simp[ab,dS,List.take_of_length_le];(repeat (refine⟨by omega,?_⟩));refine aa _ ?_;clear aa K2));refine sxz (af _ (AW.st (by simp[ab,dS,List.take_of_length_le];rfl) ?_));clear af K';refine bG (hK4 _ ?_);refine bO fw ?_;(try simp only[aM,aP]);refine aV.mk (n+1) ⟨by omega,_,hn⟩ (by omega) ?_;have e1:=vI _ hn;have e2:=vN _ hn;have e3:=vG _ hn;have e4:=vL _ hn
      try dsimp only at e1 e2 e3 e4
      rw[b1]at e1;rw[gA]at e2;rw[b3]at e3;rw[dB]at e4;refine aB.dK (fun _ _=>trivial) (by simp[ab,dS,e1,e2,e3,e4,de]) (by simp[ab,dS,e1,e2,e3,e4,de])
    | [a,b],B3=>
     rw[qq]at eB;simp only[qq,List.map_nil,List.map_cons];have ha:=B3 a (by simp);have eZ:ar prog G 117 [.sl none [[.v (.string (bs []))],[.v (.string (bs []))],[.v (.string (bs [115,101,116]))],[.v (.string (bs [114,101,115,101,116]))],[.v (.string (bs [114,117,110]))],[.v (.string (bs [99,111,117,110,116]))],[.v (.string (bs [122,101,114,111]))]],.v (.string (bs a))] (.v (.int .i64 (ixW kwR a))):=DC G none kwR a ha (by decide);have Zh:ixW kwR a≠0:=Iz (l:=kwR) (k:=0) (by decide) (fun h=>ha h.symm);have Zi:ixW kwR a≠1:=Iz (l:=kwR) (k:=1) (by decide) (fun h=>ha h.symm);have k8:=zh kwR a;refine ae fun K7 dW=>?_;refine rgq fw [2,3,4,5,6,7,9,10,11,12,13,27,28,29,53] [2,3,4,13,801,802,803,804] ?_;refine aU ?_;refine rgq fw [2,3,4,5,6,7,9,10,11,12,13,27,28,29,53,54] [2,3,4,13,801,802,803,804] ?_;refine ag rfl ?_;refine rgq fw [2,3,4,5,6,7,9,10,11,12,13,27,28,29,60] [2,3,4,13,801,802,803,804] ?_;refine aax rfl ?_;refine adE (aay _) (by kernel_rfl) [(2,999),(3,999),(6,999),(7,999),(9,13),(11,13)] (by kernel_rfl) fun K' af=>?_;(repeat (refine gk fun K2 aa=>?_;simp[ab,dS,mj];(repeat (refine⟨by omega,?_⟩));refine aa _ ?_;clear aa K2));refine gk fun K2 aa=>?_;simp[ab,dS,mj];refine gp.data (eZ) (by simp;rfl) (by simp;rfl) (by first | exact D.aaE _ | simp[aaA,List.map_map,Function.comp_def,D.le,D.le.go,D.le_refl,D.aaE,ab,dS,mj]) ?_;refine aa _ ?_;clear aa K2;simp only[aD,cu];(repeat (refine gk fun K2 aa=>?_;simp[ab,dS,mj];(repeat (refine⟨by omega,?_⟩));refine aa _ ?_;clear aa K2));refine ab8 (af _ ?_);clear af K';refine dW _ (AW.norm [2,3,4,5,6,7,9,10,11,12,13,27,28,29] [2,3,4,13,801,802,803,804] (fun _ _=>trivial) (AW.st (by simp[ab,dS,mj];rfl) ?_));simp only[l3]at eB;generalize ixW kwR a=kk at *;by_cases hk2:kk < 2
     .rw[if_pos hk2]at eB
      have bg:kk < 1:=by omega
      have hp:=acw 3 pk (by rw[eC,eB];try rfl);refine ae fun K8 ez=>?_;have qf:=(Aq fw @bg);refine al [2,3,4,5,6,7,9,10,11,13,27,28,29,84] [2,3,4,13,801,802,803,804] ?_;refine aax (by simp[bg]) ?_;refine rgq fw [2,3] [2,3] ?_;exact aG (Aq fw (Aq @hp (Aq @cE.eq_1 (Aq @dM.eq_1 (Aq @bK.eq_1 (Aq @aa0.eq_1 (Aq @codeF.eq_1 (Aq @codeF.eq_2 (Aq @bx.eq_1 @bx.eq_2)))))))))
     .rw[if_neg hk2]at eB
      have bg:¬ kk < 1:=by omega
      refine ae fun K8 ez=>?_;have qf:=(Aq fw @bg);refine al [2,3,4,5,6,7,9,10,11,13,27,28,29,84] [2,3,4,13,801,802,803,804] ?_;refine ag (by simp[bg]) ?_;refine ah (ez _ ?_);have dZ:abD ln=jC kk b hd rest:=eB;unfold jC at dZ
      cases dI:(fF rest).2 with
      | some ci=>
       obtain⟨c,o⟩:=ci;have hU:=D9 dI
       have fk:¬ c=0:=by omega
       rw[dI]at eu dZ;dsimp only at dZ;have hp:=acw c (pk+(hd.length+1+o.getD 0)) (by rw[eC,dZ])
       cases o with
       | none=>
        simp only[aa0,codeF,bx,ab]at eu
        have hcs:((pk+(hd.length+1+(none:Option Nat).getD 0):Nat):Int)=(pk:Int)+(hd.length:Int)+1:=by simp;omega
        rw[show (some (pk+(hd.length+1+(none:Option Nat).getD 0)))=some (pk+(hd.length+1+(none:Option Nat).getD 0)) from rfl]at hp;have qf:=(Aq fw (Aq @bl @lU));refine dv eu [2,3,4,5,6,7,10,11,13,14,15,27,28,29] [2,3,4,13,15,801,802,803,804] ?_;refine ae fun K9 hK9=>?_;have qf:=(Aq fw @fk);refine al [2,3,4,5,6,7,10,11,13,14,15,27,28,29,98] [2,3,4,13,15,801,802,803,804] ?_;refine aax (by simp[fk]) ?_;refine kY (aay _) (by kernel_rfl) [(2,15),(8,15),(12,2),(13,3)] [2,3] [2,3,13,15] (fun _ _=>trivial) (by kernel_rfl) fun K' af=>?_;(repeat (refine gk fun K2 aa=>?_;simp[ab,dS,yX];(repeat (refine⟨by omega,?_⟩));refine aa _ ?_;clear aa K2));refine ab8 (af _ ?_);refine AW.st (by simp[ab,dS,yX];rfl) ?_;clear af K';refine bn ?_;simp[D.le,D.le.go,aaA,ab,dS,hp,cE,dM,bK,aa0,codeF,bx,hcs];omega
       | some o=>
        have hob:=xc dI;simp only[aa0,codeF,bx,ab]at eu
        have hcs:((pk+(hd.length+1+(some o).getD 0):Nat):Int)=(pk:Int)+(hd.length:Int)+1+(o:Int):=by simp;omega
        have aeZ:¬ (o:Int) < 0:=by omega
        have qf:=(Aq fw (Aq @bl @lU));refine dv eu [2,3,4,5,6,7,10,11,13,14,15,27,28,29] [2,3,4,13,15,801,802,803,804] ?_;refine ae fun K9 hK9=>?_;have qf:=(Aq fw @fk);refine al [2,3,4,5,6,7,10,11,13,14,15,27,28,29,98] [2,3,4,13,15,801,802,803,804] ?_;refine aax (by simp[fk]) ?_;refine kY (aay _) (by kernel_rfl) [(2,15),(8,15),(12,2),(13,3)] [2,3] [2,3,13,15] (fun _ _=>trivial) (by kernel_rfl) fun K' af=>?_;(repeat (refine gk fun K2 aa=>?_;simp[ab,dS,aeZ];(repeat (refine⟨by omega,?_⟩));refine aa _ ?_;clear aa K2));refine ab8 (af _ ?_);refine AW.st (by simp[ab,dS,aeZ];rfl) ?_;clear af K';refine bn ?_;simp[D.le,D.le.go,aaA,ab,dS,hp,cE,dM,bK,aa0,codeF,bx,hcs];split<;>omega
      | none=>
       rw[dI]at eu dZ;dsimp only at dZ;obtain⟨e,tU⟩:=xd dI;rw[tU]at eu dZ;have hn:=eI _ (by rw[eC,dZ])
       have gA:(s.aaw ++ [(⟨kk,b,some e⟩:fI)]).map cM=R1 ++ [[.v (.int .i64 kk),.v (.string (bs b)),dR e]]:=by rw[List.map_append,b2];rfl
       have dB:cD (s.gF ++ [pk])=A2 ++ [[.v (.int .i64 pk)]]:=by rw[aex,b4];rfl
       obtain⟨cs,Ci⟩:=aey e;simp only[aa0,codeF,bx,ab,iK]at eu;rw[Ci]at eu gA;have qf:=(Aq fw (Aq @bl @lU));refine dv eu [2,3,4,5,6,7,10,11,13,14,15,27,28,29] [2,3,4,13,15,801,802,803,804] ?_;refine ae fun K9 hK9=>?_;refine rgq fw [2,3,4,5,6,7,10,11,13,14,15,27,28,29,98] [2,3,4,13,15,801,802,803,804] ?_;refine ag rfl ?_;refine ah (hK9 _ ?_);refine rgq fw [2,3,4,5,6,7,10,13,27,28,29] [2,3,4,13,801,802,803,804] ?_;refine rg [2,3,4,5,6,7,27,28,29] [2,3,4,801,802,803,804] (fun _ _=>trivial) fun K' af=>?_;(repeat (refine sxn fun K2 aa=>?_;simp[ab,dS,List.take_of_length_le];(repeat (refine⟨by omega,?_⟩));refine aa _ ?_;clear aa K2));refine sxz (af _ (AW.st (by simp[ab,dS,List.take_of_length_le];rfl) ?_));clear af K';refine bG (hK4 _ ?_);refine bO fw ?_;(try simp only[aM,aP]);refine aV.mk (n+1) ⟨by omega,_,hn⟩ (by omega) ?_;have e1:=vI _ hn;have e2:=vN _ hn;have e3:=vG _ hn;have e4:=vL _ hn
       try dsimp only at e1 e2 e3 e4
       rw[b1]at e1;rw[gA]at e2;rw[b3]at e3;rw[dB]at e4;refine aB.dK (fun _ _=>trivial) (by simp[ab,dS,e1,e2,e3,e4,de]) (by simp[ab,dS,e1,e2,e3,e4,de])
    | a :: b :: c :: r,_=>
     rw[qq]at eB;simp only[qq,List.map_cons]
     have hq1:¬ ((r.length:Int)+1+1+1=1):=by omega
     have dY:¬ ((r.length:Int)+1+1+1=2):=by omega
     have nR:¬ ((r.length:Int)+1+1+1 < 1):=by omega
     have pd:(r.length:Int)+1+1+1 > 2:=by omega
     refine ae fun K7 dW=>?_;refine rgq fw [2,3,4,5,6,7,9,10,11,12,13,27,28,29,53] [2,3,4,13,801,802,803,804] ?_;refine aU ?_;have qf:=(Aq fw @hq1);refine al [2,3,4,5,6,7,9,10,11,12,13,27,28,29,53,54] [2,3,4,13,801,802,803,804] ?_;refine ag (by simp[hq1]) ?_;have qf:=(Aq fw @dY);refine al [2,3,4,5,6,7,9,10,11,12,13,27,28,29,60] [2,3,4,13,801,802,803,804] ?_;refine ag (by simp[dY]) ?_;refine ah (dW _ ?_);have hp:=acw 3 pk (by rw[eC,eB];try rfl);refine ae fun K8 ez=>?_;have qf:=(Aq fw (Aq @nR @pd));refine al [2,3,4,5,6,7,9,10,11,13,27,28,29,84] [2,3,4,13,801,802,803,804] ?_;refine aax (by simp[nR,pd]) ?_;refine rgq fw [2,3] [2,3] ?_;exact aG (Aq fw (Aq @hp (Aq @cE.eq_1 (Aq @dM.eq_1 (Aq @bK.eq_1 (Aq @aa0.eq_1 (Aq @codeF.eq_1 (Aq @codeF.eq_2 (Aq @bx.eq_1 @bx.eq_2)))))))))
   .rw[if_neg p5]at eB fJ;refine aR fw fJ [2,3,4,5,6,7,9,10,11,27,28,29] [2,3,4,801,802,803,804] ?_;refine ae fun K6 hK6=>?_;refine rgq fw [2,3,4,5,6,7,9,10,11,27,28,29,46] [2,3,4,801,802,803,804] ?_;refine ag rfl ?_;refine ah (hK6 _ ?_);refine aR fw uc [2,3,4,5,6,7,10,16,27,28,29] [2,3,4,801,802,803,804] ?_
    obtain⟨a,r,rfl⟩:∃ a r,ws=a :: r:=by
     cases ws with
     | nil=>exact absurd rfl h0
     | cons a r=>exact⟨a,r,rfl⟩
    have ha:=(wL a (by simp)).1;have eZ:ar prog G 117 [.sl none [[.v (.string (bs []))],[.v (.string (bs [105,110,112,117,116]))],[.v (.string (bs [99,111,105,108]))],[.v (.string (bs [116,105,109,101,114]))],[.v (.string (bs [99,111,117,110,116,101,114]))]],.v (.string (bs a))] (.v (.int .i64 (ixW nY a))):=DC G none nY a ha (by decide);have k8:=zh nY a;simp only[acK]at eB;generalize ixW nY a=kk at *;simp only[List.map_cons];refine kY (aay _) (by kernel_rfl) [(2,999),(3,999),(7,17)] [2,3,4,5,6,7,10,16,17,27,28,29] [2,3,4,17,801,802,803,804] (fun _ _=>trivial) (by kernel_rfl) fun K' af=>?_;(repeat (refine gk fun K2 aa=>?_;simp[ab,dS,mh];(repeat (refine⟨by omega,?_⟩));refine aa _ ?_;clear aa K2));refine gk fun K2 aa=>?_;simp[ab,dS,mh];refine gp.data (eZ) (by simp;rfl) (by simp;rfl) (by first | exact D.aaE _ | simp[aaA,List.map_map,Function.comp_def,D.le,D.le.go,D.le_refl,D.aaE,ab,dS,mh]) ?_;refine aa _ ?_;clear aa K2;simp only[aD,cu];(repeat (refine gk fun K2 aa=>?_;simp[ab,dS,mh];(repeat (refine⟨by omega,?_⟩));refine aa _ ?_;clear aa K2));refine ab8 (af _ ?_);refine AW.st (by simp[ab,dS,mh];rfl) ?_;clear af K'
    have dZ:((r.map fun s=>[D.v (.string (bs s))]).length:Int)=(r.length:Int):=by simp
    by_cases k1:kk < 1
    .have iU:abD ln = .form:=by
      rw[eB]
      match r with
      | []=>rfl
      | [b]=>rw[abB,if_neg (by omega)]
      | [b,c]=>rw[abB,if_neg (by omega)]
      | b :: c :: d :: r=>rfl
     have hp:=acw 3 pk (by rw[eC,iU]);refine ae fun kZ dz=>?_;have qf:=(Aq fw @k1);refine al [2,3,4,5,6,7,10,16,17,27,28,29,153] [2,3,4,17,801,802,803,804] ?_;refine aax (by simp[k1]) ?_;refine rgq fw [2,3] [2,3] ?_;exact aG (Aq fw (Aq @hp (Aq @cE.eq_1 (Aq @dM.eq_1 (Aq @bK.eq_1 (Aq @aa0.eq_1 (Aq @codeF.eq_1 (Aq @codeF.eq_2 (Aq @bx.eq_1 @bx.eq_2)))))))))
    by_cases k3:kk < 3
    .have ga:¬ kk >= 3:=by omega
     match r,eB with
     | [b],eB=>
      have iU:abD ln = .name ⟨b,kk,0⟩:=by rw[eB,abB,if_pos (by omega)]
      simp only[List.map_cons,List.map_nil];refine ae fun kZ dz=>?_;have qf:=(Aq fw (Aq @k1 (Aq @k3 @ga)));refine al [2,3,4,5,6,7,10,16,17,27,28,29,153] [2,3,4,17,801,802,803,804] ?_;refine ag (by simp[k1,k3,ga]) ?_;refine ah (dz _ ?_);refine rgq fw [2,3,4,5,6,7,10,16,17,27,28,29] [2,3,4,17,801,802,803,804] ?_;refine ae fun pL j8=>?_;have qf:=(Aq fw (Aq @k1 (Aq @k3 @ga)));refine al [2,3,4,5,6,7,10,16,17,27,28,29,163] [2,3,4,17,801,802,803,804] ?_;refine ag (by simp[ga]) ?_;refine ah (j8 _ ?_);refine ae fun j0 eW=>?_;by_cases jy:s.aaw=[]
      .have hn:=eI _ (by rw[eC,iU];exact if_pos jy);have lh:A2=[]:=List.length_eq_zero_iff.1 (by rw[ru,jy];rfl)
       have gA:(s.names ++ [(⟨b,kk,0⟩:eM)]).map aW=N1 ++ [[.v (.string (bs b)),.v (.int .i64 kk),.v (.int .i64 0)]]:=by rw[List.map_append,b1];rfl
       have dB:cD (s.gB ++ [pk])=A1 ++ [[.v (.int .i64 pk)]]:=by rw[aex,b3];rfl
       subst lh;refine rgq fw [2,3,4,5,6,7,10,17,27,28,29,180] [2,3,4,17,801,802,803,804] ?_;refine ag rfl ?_;refine ah (eW _ ?_);refine abl (aay _) fun K' af=>?_;(repeat (refine sxn fun K2 aa=>?_;simp[ab,dS,List.take_of_length_le];(repeat (refine⟨by omega,?_⟩));refine aa _ ?_;clear aa K2));refine sxz (af _ ?_);clear af K';refine hK4 _ (AW.norm [2,3,4,5,6,7,27,28,29] [2,3,4,801,802,803,804] (fun _ _=>trivial) (AW.st (by simp[ab,dS,List.take_of_length_le];rfl) ?_));refine bO fw ?_;(try simp only[aM,aP]);refine aV.mk (n+1) ⟨by omega,_,hn⟩ (by omega) ?_;have e1:=vI _ hn;have e2:=vN _ hn;have e3:=vG _ hn;have e4:=vL _ hn
       try dsimp only at e1 e2 e3 e4
       rw[gA]at e1;rw[b2]at e2;rw[dB]at e3;rw[b4]at e4;refine aB.dK (fun _ _=>trivial) (by simp[ab,dS,e1,e2,e3,e4,de]) (by simp[ab,dS,e1,e2,e3,e4,de])
      .have hp:=acw 3 pk (by rw[eC,iU];exact if_neg jy)
       have lh:0 < A2.length:=by rw[ru];exact List.length_pos_iff.2 jy
       have qf:=(Aq fw @lh);refine al [2,3,4,5,6,7,10,17,27,28,29,180] [2,3,4,17,801,802,803,804] ?_;refine aax (by simp[lh]) ?_;refine rgq fw [2,3] [2,3] ?_;exact aG (Aq fw (Aq @hp (Aq @cE.eq_1 (Aq @dM.eq_1 (Aq @bK.eq_1 (Aq @aa0.eq_1 (Aq @codeF.eq_1 (Aq @codeF.eq_2 (Aq @bx.eq_1 @bx.eq_2)))))))))
     | [],eB=>
      have iU:abD ln = .form:=eB;simp only[List.map_nil];have hp:=acw 3 pk (by rw[eC,iU]);refine ae fun kZ dz=>?_;have qf:=(Aq fw (Aq @k1 @k3));refine al [2,3,4,5,6,7,10,16,17,27,28,29,153] [2,3,4,17,801,802,803,804] ?_;refine aax (by simp[k1,k3]) ?_;refine rgq fw [2,3] [2,3] ?_;exact aG (Aq fw (Aq @hp (Aq @cE.eq_1 (Aq @dM.eq_1 (Aq @bK.eq_1 (Aq @aa0.eq_1 (Aq @codeF.eq_1 (Aq @codeF.eq_2 (Aq @bx.eq_1 @bx.eq_2)))))))))
     | b :: c :: r,eB=>
      have iU:abD ln = .form:=by
       rw[eB]
       match r with
       | []=>rw[abB,if_neg (by omega)]
       | d :: r=>rfl
      have hq:¬ ((r.length:Int)+1+1+1=2):=by omega
      simp only[List.map_cons];have hp:=acw 3 pk (by rw[eC,iU]);refine ae fun kZ dz=>?_;have qf:=(Aq fw (Aq @k1 (Aq @k3 @hq)));refine al [2,3,4,5,6,7,10,16,17,27,28,29,153] [2,3,4,17,801,802,803,804] ?_;refine aax (by simp[k1,k3,hq]) ?_;refine rgq fw [2,3] [2,3] ?_;exact aG (Aq fw (Aq @hp (Aq @cE.eq_1 (Aq @dM.eq_1 (Aq @bK.eq_1 (Aq @aa0.eq_1 (Aq @codeF.eq_1 (Aq @codeF.eq_2 (Aq @bx.eq_1 @bx.eq_2)))))))))
    have ga:kk >= 3:=by omega
    match r,eB with
    | [b,c],eB=>
     have hcl:c.length<=20000:=by have:=(wL c (by simp)).2;omega
     have kJ:=WG G hP hE c (by omega);simp only[dS]at kJ;simp only[abB,if_pos ga]at eB;simp only[List.map_cons,List.map_nil];refine ae fun kZ dz=>?_;have qf:=(Aq fw (Aq @k1 (Aq @k3 @ga)));refine al [2,3,4,5,6,7,10,16,17,27,28,29,153] [2,3,4,17,801,802,803,804] ?_;refine ag (by simp[k1,k3,ga]) ?_;refine ah (dz _ ?_);refine rgq fw [2,3,4,5,6,7,10,16,17,27,28,29] [2,3,4,17,801,802,803,804] ?_;refine ae fun pL j8=>?_;have qf:=(Aq fw (Aq @k1 (Aq @k3 @ga)));refine al [2,3,4,5,6,7,10,16,17,27,28,29,163] [2,3,4,17,801,802,803,804] ?_;refine aax (by simp[ga]) ?_
     cases tS:qE c with
     | none=>
      rw[tS]at kJ eB;simp only[dNr]at kJ;have iU:abD ln = .form:=eB;have hp:=acw 3 pk (by rw[eC,iU]);refine aR fw kJ [2,3,4,5,6,7,10,17,18,19,27,28,29] [2,3,4,17,801,802,803,804] ?_;refine ae fun s3 acs=>?_;refine rgq fw [2,3,4,5,6,7,10,17,18,27,28,29,172] [2,3,4,17,801,802,803,804] ?_;refine aax rfl ?_;refine rgq fw [2,3] [2,3] ?_;exact aG (Aq fw (Aq @hp (Aq @cE.eq_1 (Aq @dM.eq_1 (Aq @bK.eq_1 (Aq @aa0.eq_1 (Aq @codeF.eq_1 (Aq @codeF.eq_2 (Aq @bx.eq_1 @bx.eq_2)))))))))
     | some v=>
      rw[tS]at kJ eB;simp only[dNr]at kJ;have iU:abD ln = .name ⟨b,kk,v⟩:=eB;refine aR fw kJ [2,3,4,5,6,7,10,17,18,19,27,28,29] [2,3,4,17,801,802,803,804] ?_;refine ae fun s3 acs=>?_;refine rgq fw [2,3,4,5,6,7,10,17,18,27,28,29,172] [2,3,4,17,801,802,803,804] ?_;refine ag rfl ?_;refine ah (acs _ ?_);refine reK fw j8 [2,3,4,5,6,7,10,17,27,28,29] [2,3,4,17,801,802,803,804] ?_;refine ae fun j0 eW=>?_;by_cases jy:s.aaw=[]
      .have hn:=eI _ (by rw[eC,iU];exact if_pos jy);have lh:A2=[]:=List.length_eq_zero_iff.1 (by rw[ru,jy];rfl)
       have gA:(s.names ++ [(⟨b,kk,v⟩:eM)]).map aW=N1 ++ [[.v (.string (bs b)),.v (.int .i64 kk),.v (.int .i64 v)]]:=by rw[List.map_append,b1];rfl
       have dB:cD (s.gB ++ [pk])=A1 ++ [[.v (.int .i64 pk)]]:=by rw[aex,b3];rfl
       subst lh;refine rgq fw [2,3,4,5,6,7,10,17,27,28,29,180] [2,3,4,17,801,802,803,804] ?_;refine ag rfl ?_;refine ah (eW _ ?_);refine abl (aay _) fun K' af=>?_;(repeat (refine sxn fun K2 aa=>?_;simp[ab,dS,List.take_of_length_le];(repeat (refine⟨by omega,?_⟩));refine aa _ ?_;clear aa K2));refine sxz (af _ ?_);clear af K';refine hK4 _ (AW.norm [2,3,4,5,6,7,27,28,29] [2,3,4,801,802,803,804] (fun _ _=>trivial) (AW.st (by simp[ab,dS,List.take_of_length_le];rfl) ?_));refine bO fw ?_;(try simp only[aM,aP]);refine aV.mk (n+1) ⟨by omega,_,hn⟩ (by omega) ?_;have e1:=vI _ hn;have e2:=vN _ hn;have e3:=vG _ hn;have e4:=vL _ hn
       try dsimp only at e1 e2 e3 e4
       rw[gA]at e1;rw[b2]at e2;rw[dB]at e3;rw[b4]at e4;refine aB.dK (fun _ _=>trivial) (by simp[ab,dS,e1,e2,e3,e4,de]) (by simp[ab,dS,e1,e2,e3,e4,de])
      .have hp:=acw 3 pk (by rw[eC,iU];exact if_neg jy)
       have lh:0 < A2.length:=by rw[ru];exact List.length_pos_iff.2 jy
       have qf:=(Aq fw @lh);refine al [2,3,4,5,6,7,10,17,27,28,29,180] [2,3,4,17,801,802,803,804] ?_;refine aax (by simp[lh]) ?_;refine rgq fw [2,3] [2,3] ?_;exact aG (Aq fw (Aq @hp (Aq @cE.eq_1 (Aq @dM.eq_1 (Aq @bK.eq_1 (Aq @aa0.eq_1 (Aq @codeF.eq_1 (Aq @codeF.eq_2 (Aq @bx.eq_1 @bx.eq_2)))))))))
    | [],eB=>
     have iU:abD ln = .form:=eB;simp only[List.map_nil];have hp:=acw 3 pk (by rw[eC,iU]);refine ae fun kZ dz=>?_;have qf:=(Aq fw (Aq @k1 (Aq @k3 @ga)));refine al [2,3,4,5,6,7,10,16,17,27,28,29,153] [2,3,4,17,801,802,803,804] ?_;refine aax (by simp[k1,k3,ga]) ?_;refine rgq fw [2,3] [2,3] ?_;exact aG (Aq fw (Aq @hp (Aq @cE.eq_1 (Aq @dM.eq_1 (Aq @bK.eq_1 (Aq @aa0.eq_1 (Aq @codeF.eq_1 (Aq @codeF.eq_2 (Aq @bx.eq_1 @bx.eq_2)))))))))
    | [b],eB=>
     have iU:abD ln = .form:=by rw[eB,abB,if_neg (by omega)]
     simp only[List.map_cons,List.map_nil];have hp:=acw 3 pk (by rw[eC,iU]);refine ae fun kZ dz=>?_;have qf:=(Aq fw (Aq @k1 (Aq @k3 @ga)));refine al [2,3,4,5,6,7,10,16,17,27,28,29,153] [2,3,4,17,801,802,803,804] ?_;refine aax (by simp[k1,k3,ga]) ?_;refine rgq fw [2,3] [2,3] ?_;exact aG (Aq fw (Aq @hp (Aq @cE.eq_1 (Aq @dM.eq_1 (Aq @bK.eq_1 (Aq @aa0.eq_1 (Aq @codeF.eq_1 (Aq @codeF.eq_2 (Aq @bx.eq_1 @bx.eq_2)))))))))
    | b :: c :: d :: r,eB=>
     have iU:abD ln = .form:=eB
     have hq:¬ ((r.length:Int)+1+1+1+1=3):=by omega
     simp only[List.map_cons];have hp:=acw 3 pk (by rw[eC,iU]);refine ae fun kZ dz=>?_;have qf:=(Aq fw (Aq @k1 (Aq @k3 (Aq @ga @hq))));refine al [2,3,4,5,6,7,10,16,17,27,28,29,153] [2,3,4,17,801,802,803,804] ?_;refine aax (by simp[k1,k3,ga,hq]) ?_;refine rgq fw [2,3] [2,3] ?_;exact aG (Aq fw (Aq @hp (Aq @cE.eq_1 (Aq @dM.eq_1 (Aq @bK.eq_1 (Aq @aa0.eq_1 (Aq @codeF.eq_1 (Aq @codeF.eq_2 (Aq @bx.eq_1 @bx.eq_2)))))))))
  .obtain rfl:n=l.length:=by omega
   refine ag (by simp) ?_;have dI:=D8 (s:=s) (by omega) (hl ▸ hs);have bJ:=xj (t:=t) (by omega) (Nat.le_refl _) (hl ▸ hs);have tZ:=JZ bJ (by rw[<- hl];omega);have gU:=SR G hF hM ⟨s.names,s.aaw⟩ tZ;obtain⟨hnl,dZ,dX,_,_⟩:=bJ;rw[<- hl]at dX;have b1:=vJ _ s hs;have b2:=vO _ s hs;have b3:=vH _ s hs;have b4:=vM _ s hs;simp only[cE,dM,bK]at gU;rw[<- b1,<- b2]at gU
   have YX:(NA l.length).length=s.names.length:=by rw[b3];simp[cD,hnl]
   have YY:(RA l.length).length=s.aaw.length:=by rw[b4];simp[cD,dZ]
   have jq:=fun i h=>Gy (s.gB ++ s.gF) i h;rw[aex,<- b3,<- b4]at jq;have q1:(∀ el∈RA l.length,el.length=1)=True:=eq_true (by rw[b4];simp[cD]);have q2:(∀ el∈RA l.length,∀ c∈el,c.one=true)=True:=eq_true (by rw[b4];simp[cD,ab,D.one])
   have CW:cE ⟨s.names,s.aaw⟩ = .agg [.sl none (NN l.length),.sl none (RR l.length)]:=by rw[b1,b2];rfl
   have PZ:=fun c o=>Bf (p:=⟨s.names,s.aaw⟩) (c:=c) (o:=o)
   have CU:∀ c i,cf ⟨s.names,s.aaw⟩=some (c,some i)->i < (s.gB ++ s.gF).length:=fun c i h=>by have:=FU h;simp at this ⊢;omega
   refine bG (aa _ ?_);generalize NN l.length=N1 at *;generalize RR l.length=R1 at *;generalize NA l.length=A1 at *;generalize RA l.length=A2 at *;refine AW.imp (aB.freeze 801 trivial) ?_;refine AW.st (by simp[ab,dS];rfl) ?_;refine AW.imp (aB.freeze 802 trivial) ?_;refine AW.st (by simp[ab,dS];rfl) ?_;refine AW.imp (aB.freeze 804 trivial) ?_;refine AW.st (by simp[ab,dS];rfl) ?_
   cases aN:cf ⟨s.names,s.aaw⟩ with
   | none=>
    rw[aN]at gU dI;dsimp only at dI;simp only[aa0,codeF,bx,ab]at gU;refine aR fw gU [2,3,4,5,6,20] [2,3,4,20,803] ?_;refine ae fun vb oM=>?_;refine rgq fw [2,3,4,5,6,20,199] [2,3,4,20,803] ?_;refine ag rfl ?_;refine ah (oM _ ?_);refine kY (aay _) (by kernel_rfl) [(0,4),(2,2),(3,3)] [2,3] [2,3] (fun _ _=>trivial) (by kernel_rfl) fun K' af=>?_;(repeat (refine gk fun K2 aa=>?_;simp[ab,dS,GR];(repeat (refine⟨by omega,?_⟩));refine aa _ ?_;clear aa K2));refine ab8 (af _ ?_);refine AW.st (by simp[ab,dS,GR];rfl) ?_;clear af K';exact aG (Aq fw (Aq @dI (Aq @CW (Aq @aa0.eq_1 (Aq @codeF.eq_1 (Aq @codeF.eq_2 (Aq @bx.eq_1 @bx.eq_2)))))))
   | some ci=>
    obtain⟨c,o⟩:=ci;have hU:=PZ c o aN;rw[aN]at gU dI
    cases o with
    | none=>
     dsimp only at dI;simp only[aa0,codeF,bx,ab]at gU;refine aR fw gU [2,3,4,5,6,20] [2,3,4,20,803] ?_;refine ae fun vb oM=>?_;have qf:=(Aq fw @hU);refine al [2,3,4,5,6,20,199] [2,3,4,20,803] ?_;refine aax (by simp[hU]) ?_;refine ae fun AJ rm=>?_;refine rgq fw [2,3,5,6,20,202] [2,3,4,20,803] ?_;refine ag rfl ?_;refine ah (rm _ ?_);refine kY (aay _) (by kernel_rfl) [(1,20),(2,2),(3,3)] [2,3] [2,3] (fun _ _=>trivial) (by kernel_rfl) fun K' af=>?_;(repeat (refine gk fun K2 aa=>?_;simp[ab,dS];(repeat (refine⟨by omega,?_⟩));refine aa _ ?_;clear aa K2));refine ab8 (af _ ?_);refine AW.st (by simp[ab,dS];rfl) ?_;clear af K';exact aG (Aq fw (Aq @dI (Aq @cE.eq_1 (Aq @dM.eq_1 (Aq @bK.eq_1 (Aq @aa0.eq_1 (Aq @codeF.eq_1 (Aq @codeF.eq_2 (Aq @bx.eq_1 @bx.eq_2)))))))))
    | some i=>
     dsimp only at dI;have hi:=CU c i aN;obtain⟨c6,ke⟩:=List.getElem?_eq_some_iff.1 (jq i hi);clear jq
     have Ht:i < A1.length+A2.length:=by simpa using c6
     have tL:(i:Int) < (A1.length:Int)+(A2.length:Int):=by omega
     simp only[aa0,codeF,bx,ab]at gU ke;generalize (s.gB ++ s.gF).getD i 0=pl at ke dI;refine aR fw gU [2,3,4,5,6,20] [2,3,4,20,803] ?_;refine ae fun vb oM=>?_;have qf:=(Aq fw @hU);refine al [2,3,4,5,6,20,199] [2,3,4,20,803] ?_;refine aax (by simp[hU]) ?_;refine ae fun AJ rm=>?_;refine rgq fw [2,3,5,6,20,202] [2,3,4,20,803] ?_;refine aax (by simp) ?_;refine pI (aay _) (by kernel_rfl) ([(2,(803,803))]) ([(3,[803]),(4,[803]),(7,[803])]) ([0,1,3,4,2,5,6,7,8]) (by kernel_rfl) fun K' af=>?_;(repeat (refine pF rfl fun K2 aa=>?_;simp[ab,dS,vx,q1,q2,c6,Ht,tL,ke,List.take_of_length_le];(repeat (refine⟨by omega,?_⟩));refine aa _ ?_;clear aa K2));refine pG (af _ ?_);clear af K';refine rm _ (AW.norm [2,3,20] [2,3,4,20] (fun _ _=>trivial) (AW.st (by simp[ab,dS,vx,q1,q2,c6,Ht,tL,ke,List.take_of_length_le];rfl) ?_));refine kY (aay _) (by kernel_rfl) [(1,20),(2,2),(3,3)] [2,3] [2,3] (fun _ _=>trivial) (by kernel_rfl) fun K' af=>?_;(repeat (refine gk fun K2 aa=>?_;simp[ab,dS];(repeat (refine⟨by omega,?_⟩));refine aa _ ?_;clear aa K2));refine ab8 (af _ ?_);refine AW.st (by simp[ab,dS];rfl) ?_;clear af K';exact aG (Aq fw (Aq @dI (Aq @cE.eq_1 (Aq @dM.eq_1 (Aq @bK.eq_1 (Aq @aa0.eq_1 (Aq @codeF.eq_1 (Aq @codeF.eq_2 (Aq @bx.eq_1 @bx.eq_2)))))))))
theorem KL {k:Int} {nm hd rest:Tx} {c:Int} {o:Nat} (h:jC k nm hd rest = .bad c o):c≠0:=by
 unfold jC at h;split at h
 .rename_i c' o' he;simp only[mJ.bad.injEq]at h;have:=D9 he;omega
 .cases h
theorem W0 {hd rest:Tx} {l:List Tx} {c:Int} {o:Nat} (h:l3 hd rest l = .bad c o):c≠0:=by
 unfold l3 at h;split at h
 .exact KL h
 .split at h
  .cases h
  .exact KL h
 .cases h
theorem UZ {l:List Tx} {c:Int} {o:Nat} (h:acK l = .bad c o):c≠0:=by
 unfold acK at h;split at h
 .unfold abB at h;split at h
  .split at h<;>cases h
  .split at h
   .split at h<;>cases h
   .cases h
  .cases h
 .cases h
theorem SZ {s:Tx} {c:Int} {o:Nat} (h:abD s = .bad c o):c≠0:=by
 unfold abD at h;split at h
 .exact W0 h
 .exact UZ h
theorem JS {l:List Tx}:∀ {k:Nat} {c:Int} {i:Nat},eE l k = .inl (c,i)->c≠0
 | 0,c,i,h=>by cases h
 | k+1,c,i,h=>by
  rw[eE]at h
  cases hk:eE l k with
  | inl e=>
   rw[hk]at h;obtain⟨c',i'⟩:=e;simp only[Sum.inl.injEq,Prod.mk.injEq]at h;have:=JS hk;omega
  | inr s0=>
   rw[hk]at h;dsimp only at h;unfold ij at h;split at h
   .cases h
   .split at h
    .simp only[Sum.inl.injEq,Prod.mk.injEq]at h;omega
    .rename_i hb;simp only[Sum.inl.injEq,Prod.mk.injEq]at h;have:=SZ hb;omega
    .split at h
     .cases h
     .simp only[Sum.inl.injEq,Prod.mk.injEq]at h;omega
    .cases h
theorem Vz {t:Tx} {c:Int} {o:Option Nat} (h:(gD t).1=some (c,o)):c≠0:=by
 unfold gD at h;split at h
 .simp only[Option.some.injEq,Prod.mk.injEq]at h;omega
 .split at h
  .rename_i c' i' hp;simp only[Option.some.injEq,Prod.mk.injEq]at h;have:=JS hp;omega
  .split at h
   .cases h
   .rename_i c' hc;simp only[Option.some.injEq,Prod.mk.injEq]at h;have:=Bf hc;omega
   .rename_i c' i' hc;simp only[Option.some.injEq,Prod.mk.injEq]at h;have:=Bf hc;omega
end Go.Proofs.YtdigkhaofjmgkaaGreatDoor
namespace Go.Av
section
variable {P:Program} {T:Ty} {Mv X:Nat->Prop} {G:ao} {N:Fr} {w:World} {μ:Mu} {a:Act} {σ:St} {ops:Array Oper}
def patch (R:List Nat) (H0 H2:Heap):Heap:=fun q=>if R.contains q then H0 q else H2 q
def oo (R:List Nat) (H:Heap):Prop:=∀ q,R.contains q=true->H q=none\/∃ (t:TypeId) (cs:List D),H q=some (.box t (cs.map AV.d))
def ad4 (R:List Nat) (H0 H:Heap):Prop:=∀ q,R.contains q=false->H0 q=H q
def uD (R:List Nat):AV->Bool
 | .ref r _ _=>!R.contains r
 | _=>true
def qX (P:Program) (G:ao) (mvd R:List Nat) (g:FuncId) (xs:List AV) (H:Heap) (y:AV) (H2:Heap):Prop:=
 oo R H/\(∀ q,R.contains q=true->H2 q=H q)/\∀ H0,oo R H0->ad4 R H0 H->HC P G mvd g xs H0 y (patch R H0 H2)
theorem Ee {R:List Nat} {H H2:Heap} (h:∀ q,R.contains q=true->H2 q=H q):patch R H H2=H2:=by
 funext q;unfold patch;split
 .rename_i hq;exact (h q hq).symm
 .rfl
theorem qX.hc {mvd R:List Nat} {g:FuncId} {xs:List AV} {H H2:Heap} {y:AV} (h:qX P G mvd R g xs H y H2):HC P G mvd g xs H y H2:=by
 have:=h.2.2 H h.1 fun _ _=>rfl
 rwa [Ee h.2.1]at this
theorem qX.swap {mvd R:List Nat} {g:FuncId} {xs:List AV} {H H2 H':Heap} {y:AV} (h:qX P G mvd R g xs H y H2) (hc:oo R H') (ho:ad4 R H' H):qX P G mvd R g xs H' y (patch R H' H2):=by
 refine⟨hc,fun q hq=>by unfold patch;rw[if_pos hq],fun H0 h0 wA=>?_⟩
 have e:patch R H0 (patch R H' H2)=patch R H0 H2:=by
  funext q;unfold patch;split
  .rfl
  .rfl
 rw[e];exact h.2.2 H0 h0 fun q hq=>(wA q hq).trans (ho q hq)
theorem gJ.swap {R:List Nat} {H H2 H':Heap} {p:Nat×AV} (h:gJ T ops H H2 p) (hp:uD R p.2=true) (ho:ad4 R H' H):gJ T ops H' (patch R H' H2) p:=by
 obtain⟨k,v⟩:=p;unfold gJ at h ⊢;dsimp only at h hp ⊢
 cases he:ops[k]? with
 | none=>rw[he]at h;exact h.elim
 | some o=>
  rw[he]at h;dsimp only at h ⊢
  split at h<;>try exact h.elim
  cases v with
  | ref r e j=>
   simp only[uD,Bool.not_eq_true']at hp;have e1:=ho r hp
   have e2:patch R H' H2 r=H2 r:=by unfold patch;rw[if_neg (by rw[hp];decide)]
   unfold ko at h ⊢;dsimp only at h ⊢;rw[e1,e2];exact h
  | d x=>cases x<;>rfl
  | _=>rfl
theorem Nj {R:List Nat} {H:Heap} {d:Nat} {t:TypeId} {cs:List D} (h:oo R H):oo R (aL H d (.box t (cs.map AV.d))):=fun q hq=>by
 unfold aL;split
 .exact .inr ⟨t,cs,rfl⟩
 .exact h q hq
theorem Nk {R:List Nat} {H:Heap} {d:Nat} {b:Row} (h:oo R (aL H d b)) (hd:H d=none):oo R H:=fun q hq=>by
 by_cases e:q=d
 .subst e;exact .inl hd
 .have:=h q hq;unfold aL at this
  rwa [if_neg e]at this
theorem D5 {R:List Nat} {H:Heap} {d:Nat} {b:Row} (hd:R.contains d=true):ad4 R (aL H d b) H:=fun q hq=>by
 unfold aL;rw[if_neg (fun e=>by subst e;rw[hd]at hq;cases hq)]
theorem ad4.symm {R:List Nat} {H H':Heap} (h:ad4 R H H'):ad4 R H' H:=fun q hq=>(h q hq).symm
theorem JQ {R:List Nat} {H H2:Heap} {d:Nat} {b:Row} (hd:R.contains d=true):aL (patch R H H2) d b=patch R (aL H d b) H2:=by
 funext q;unfold aL patch;by_cases e:q=d
 .subst e;simp only[if_true,hd]
 .simp only[if_neg e]
theorem VD {R:List Nat} {H H2:Heap} {d:Nat} {b:Row} (hd:R.contains d=true) (h:∀ q,R.contains q=true->H2 q=H q):patch R (aL H d b) H2=aL H2 d b:=by
 rw[<- JQ hd,Ee h]
def so (R:List Nat) (o:Oper):Bool:=match o.op,o.dst with
 | .alloc _,some d=>R.contains d
 | _,_=>false
theorem Ma {R:List Nat} {o:Oper} (h:so R o=true):∃ t d,o.op = .alloc t/\o.dst=some d/\R.contains d=true:=by
 unfold so at h;split at h
 .rename_i t d h1 h2;exact⟨t,d,h1,h2,h⟩
 .cases h
theorem Fy {R:List Nat} {o:Oper} (h:so R o=true) {e:Env} {H H':Heap} {x:AV} (hx:Ex P T Mv G o e H x H'):∃ (d:Nat) (t:TypeId) (cs:List D),R.contains d=true/\H d=none/\H'=aL H d (.box t (cs.map AV.d))/\∀ e2 H2,H2 d=none->Ex P T Mv G o e2 H2 x (aL H2 d (.box t (cs.map AV.d))):=by
 obtain⟨t,d,h1,h2,h3⟩:=Ma h;obtain⟨dst,op,type,pos,after,guard⟩:=o;dsimp only at h1 h2;subst h1 h2;unfold Ex at hx ⊢;simp only[cz,eD,if_true]at hx ⊢;obtain⟨c,hw,hc⟩:=hx;unfold wr at hw ⊢;dsimp only at hw ⊢
 cases hT:T t with
 | none=>rw[hT]at hw;cases hw
 | some ti=>
  rw[hT]at hw;dsimp only at hw;simp only[Option.some.injEq,Prod.mk.injEq,St.mk.injEq]at hw;obtain⟨rfl,rfl,_,rfl⟩:=hw;exact⟨d,t,ab9 ti.zero,h3,hc,rfl,fun e2 H2 hn=>⟨_,rfl,hn⟩⟩
def LM (P:Program) (T:Ty) (Mv:Nat->Prop) (G:ao) (mvd R:List Nat) (ops:Array Oper) (ex:List (Nat×AV)) (o:Oper) (σ aw:St):Prop:=∃ c g xs y H2,cz o.op=some c/\tgt G σ.env c=some (g,xs)/\(∀ r∈mvd,Mv r)/\qX P G mvd R g xs σ.H y H2/\(∀ p∈ex,gJ T ops σ.H H2 p/\uD R p.2=true)/\acd mvd y/\aw=⟨aD σ.env o.dst y,H2⟩
def sX (P:Program) (T:Ty) (Mv:Nat->Prop) (G:ao) (N:Fr) (mvd R db hv:List Nat) (ex:List (Nat×AV)) (ops:Array Oper) (i:Nat) (o:Oper) (σ aw:St):Prop:=
 abF N o/\o.guard=none/\lE mvd σ.env/\((db.contains i=true/\∃ c y,ky T G σ.env o=some (c,y)/\c/\aw=⟨aD σ.env o.dst (.d y),σ.H⟩)\/
  (db.contains i=false/\hv.contains i=true/\LM P T Mv G mvd R ops ex o σ aw)\/
  (db.contains i=false/\hv.contains i=false/\kindOf o.op≠9/\lX G ex i o σ.env/\∃ x H',Ex P T Mv G o σ.env σ.H x H'/\acd mvd x/\aw=⟨aD σ.env o.dst x,H'⟩))
theorem af7 {mvd R db hv:List Nat} {ex:List (Nat×AV)} {i:Nat} {o:Oper} {σ aw:St} (h:sX P T Mv G N mvd R db hv ex ops i o σ aw):qY P T Mv G N mvd db hv ex ops i o σ aw:=by
 obtain⟨h1,h2,h3,h⟩:=h;refine⟨h1,h2,h3,?_⟩
 rcases h with h | ⟨b,v,c,g,xs,y,H2,hc,ht,hm,hh,hl,ho,e⟩ | h
 .exact .inl h
 .exact .inr (.inl ⟨b,v,c,g,xs,y,H2,hc,ht,hm,hh.hc,fun p hp=>(hl p hp).1,ho,e⟩)
 .exact .inr (.inr h)
theorem MJ (hg:Good P T) (mvd R db hv:List Nat) (ex:List (Nat×AV)):Sound P X G N Mv (sX P T Mv G N mvd R db hv ex ops) ops:=fun i o ho σ aw h=>Je hg mvd db hv ex i o ho σ aw (af7 h)
def afa (R db hv:List Nat) (ex:List (Nat×AV)) (ops:Array Oper) (i j:Nat) (oi oj:Oper):Bool:=oi.apart ops oj && (db.contains i || db.contains j ||
 (if hv.contains i then !hv.contains j && (kindOf oj.op == 0 || (ex.lookup j).isSome || so R oj) else if hv.contains j then kindOf oi.op == 0 || (ex.lookup i).isSome || so R oi else pr (kindOf oi.op) (kindOf oj.op)))
theorem MK (mvd R db hv:List Nat) (ex:List (Nat×AV)):s5 (sX P T Mv G N mvd R db hv ex ops) (afa R db hv ex ops) ops:=fun i j oi oj b5 bw hc σ aI eL h1 h2=>by
 simp only[afa,Bool.and_eq_true]at hc;obtain⟨eX,fX⟩:=hc;obtain⟨di,gi,oE,h1⟩:=h1;obtain⟨dj,gj,_,h2⟩:=h2;have agj:∀ v,fA oj.op (aD σ.env oi.dst v) σ.env:=fun v t ht=>(ace eX (e:=σ.env) (v:=v)).1 t (iF ht);have eT:∀ v,fA oi.op σ.env (aD σ.env oj.dst v):=fun v t ht=>((ace eX (e:=σ.env) (v:=v)).2.1 t (iF ht)).symm;have aO:=(ace eX (e:=σ.env) (v:=cC)).2.2;have tg:∀ {o:Oper} {c:Call} {e e':Env},cz o.op=some c->fA o.op e e'->tgt G e c=tgt G e' c:=fun {o c e e'} hc ha=>uX fun t ht=>ha t (by rw[(qt hc).1];exact ht)
 have lY:∀ {k:Nat} {o:Oper} {e e':Env},fA o.op e e'->lX G ex k o e->lX G ex k o e':=fun {k o e e'} ha h=>by
  unfold lX at h ⊢;split
  .rename_i pv hl;simp only[hl]at h;split
   .rename_i t x hop;simp only[hop]at h;rw[<- abj (x:=x) fun t' qo=>ha t' (by rw[hop,qo];simp[Op.operands])];exact h
   .rename_i fD;split at h
    .rename_i t x hop;exact absurd hop (fD t x)
    .exact h
  .trivial
 rcases h1 with⟨bi,c,y,e1,c1,rfl⟩ | ⟨bi,vi,c,g,xs,y,H2,fJ,ti,eH,hcl,gW,oy,rfl⟩ | ⟨bi,vi,k1,l1,x,H',e1,ox,rfl⟩
 .-- data first
  rcases h2 with⟨bj,c',z,e2,c2,rfl⟩ | ⟨bj,vj,c',g,xs,z,H2,k9,tj,eH,hcl,gW,oz,rfl⟩ | ⟨bj,vj,k2,l2,z,H2,e2,oz,rfl⟩
  .rw[j5 (agj _)]at e2;refine⟨⟨aD σ.env oj.dst (.d z),σ.H⟩,⟨dj,gj,oE,.inl ⟨bj,c',z,e2,c2,rfl⟩⟩,di,gi,oE.put (acd.d _ _) _,.inl ⟨bi,c,y,?_,c1,?_⟩⟩
   .rw[<- j5 (eT _)];exact e1
   .rw[fG aO]
  .rw[tg k9 (agj _)]at tj;refine⟨⟨aD σ.env oj.dst z,H2⟩,⟨dj,gj,oE,.inr (.inl ⟨bj,vj,c',g,xs,z,H2,k9,tj,eH,hcl,gW,oz,rfl⟩)⟩,di,gi,oE.put oz _,.inl ⟨bi,c,y,?_,c1,?_⟩⟩
   .rw[<- j5 (eT _)];exact e1
   .rw[fG aO]
  .refine⟨⟨aD σ.env oj.dst z,H2⟩,⟨dj,gj,oE,.inr (.inr ⟨bj,vj,k2,lY (agj _) l2,z,H2,e2.congr k2 (agj _),oz,rfl⟩)⟩,di,gi,oE.put oz _,.inl ⟨bi,c,y,?_,c1,?_⟩⟩
   .rw[<- j5 (eT _)];exact e1
   .rw[fG aO]
 .-- a call first
  rcases h2 with⟨bj,c',z,e2,c2,rfl⟩ | ⟨bj,vj,_⟩ | ⟨bj,vj,k2,l2,z,H3,e2,oz,rfl⟩
  .rw[j5 (agj _)]at e2;refine⟨⟨aD σ.env oj.dst (.d z),σ.H⟩,⟨dj,gj,oE,.inl ⟨bj,c',z,e2,c2,rfl⟩⟩,di,gi,oE.put (acd.d _ _) _,.inr (.inl ⟨bi,vi,c,g,xs,y,H2,fJ,?_,eH,hcl,gW,oy,?_⟩)⟩
   .rw[<- tg fJ (eT _)];exact ti
   .rw[fG aO]
  .rw[bi,bj,vi]at fX;simp[vj]at fX
   simp_all
  .rw[bi,bj]at fX;have pZ:=e2.congr k2 (agj _);have l2':=lY (agj _) l2
   have hp:(kindOf oj.op=0\/(ex.lookup j).isSome=true)\/so R oj=true:=by
    simp only[Bool.false_or,vi,vj,if_true,Bool.not_false,Bool.true_and]at fX;simpa[or_assoc]using fX
   rcases hp with hp | hp
   .have hq:H3=H2/\Ex P T Mv G oj σ.env σ.H z σ.H:=by
     rcases hp with hp | hp
     .exact⟨pZ.keeps (by omega),pZ.free hp σ.H⟩
     .obtain⟨pv,jx⟩:=Option.isSome_iff_exists.1 hp;have hs:=(gW _ (zx jx)).1;refine aeK bw jx l2' ?_ pZ;unfold gJ at hs ⊢;simp only[bw]at hs ⊢;split<;>simp_all
    obtain⟨rfl,e3⟩:=hq;refine⟨⟨aD σ.env oj.dst z,σ.H⟩,⟨dj,gj,oE,.inr (.inr ⟨bj,vj,k2,l2',z,σ.H,e3,oz,rfl⟩)⟩,di,gi,oE.put oz _,.inr (.inl ⟨bi,vi,c,g,xs,y,H3,fJ,?_,eH,hcl,gW,oy,?_⟩)⟩
    .rw[<- tg fJ (eT _)];exact ti
    .rw[fG aO]
   .obtain⟨d,t,cs,hd,hn,rfl,iW⟩:=Fy hp pZ
    have wu:σ.H d=none:=by rw[<- hcl.2.1 d hd];exact hn
    refine⟨⟨aD σ.env oj.dst z,aL σ.H d (.box t (cs.map AV.d))⟩,⟨dj,gj,oE,.inr (.inr ⟨bj,vj,k2,l2',z,_,iW _ _ wu,oz,rfl⟩)⟩,di,gi,oE.put oz _,.inr (.inl ⟨bi,vi,c,g,xs,y,patch R (aL σ.H d (.box t (cs.map AV.d))) H2,fJ,?_,eH,hcl.swap (Nj hcl.1) (D5 hd),fun p hp=>⟨(gW p hp).1.swap (gW p hp).2 (D5 hd),(gW p hp).2⟩,oy,?_⟩)⟩
    .rw[<- tg fJ (eT _)];exact ti
    .rw[fG aO,VD hd hcl.2.1]
 .rcases h2 with⟨bj,c',z,e2,c2,rfl⟩ | ⟨bj,vj,c',g,xs,z,H2,k9,tj,eH,hcl,gW,oz,rfl⟩ | ⟨bj,vj,k2,l2,z,H2,e2,oz,rfl⟩
  .rw[j5 (agj _)]at e2;refine⟨⟨aD σ.env oj.dst (.d z),σ.H⟩,⟨dj,gj,oE,.inl ⟨bj,c',z,e2,c2,rfl⟩⟩,di,gi,oE.put (acd.d _ _) _,.inr (.inr ⟨bi,vi,k1,lY (eT _) l1,x,H',e1.congr k1 (eT _),ox,?_⟩)⟩;rw[fG aO]
  .rw[tg k9 (agj _)]at tj;rw[bi,bj]at fX
   have hp:(kindOf oi.op=0\/(ex.lookup i).isSome=true)\/so R oi=true:=by
    simp only[Bool.false_or,vi,vj,if_true,Bool.false_eq_true,if_false]at fX;simpa[or_assoc]using fX
   have tm:=e1.congr k1 (eT z);have qw:=lY (eT z) l1
   rcases hp with (hp | hp) | hp
   .obtain rfl:=e1.keeps (by omega);refine⟨⟨aD σ.env oj.dst z,H2⟩,⟨dj,gj,oE,.inr (.inl ⟨bj,vj,c',g,xs,z,H2,k9,tj,eH,hcl,gW,oz,rfl⟩)⟩,di,gi,oE.put oz _,.inr (.inr ⟨bi,vi,k1,qw,x,H2,tm.free hp H2,ox,?_⟩)⟩;rw[fG aO]
   .obtain⟨pv,jx⟩:=Option.isSome_iff_exists.1 hp;have hs:=(gW _ (zx jx)).1;have hH:H'=σ.H:=(aeK (H2:=σ.H) b5 jx l1 (by unfold gJ;simp only[b5];unfold gJ at hs;simp only[b5]at hs;split<;>simp_all) e1).1;subst hH;obtain⟨_,e3⟩:=aeK b5 jx qw hs tm;refine⟨⟨aD σ.env oj.dst z,H2⟩,⟨dj,gj,oE,.inr (.inl ⟨bj,vj,c',g,xs,z,H2,k9,tj,eH,hcl,gW,oz,rfl⟩)⟩,di,gi,oE.put oz _,.inr (.inr ⟨bi,vi,k1,qw,x,H2,e3,ox,?_⟩)⟩;rw[fG aO]
   .obtain⟨d,t,cs,hd,hn,rfl,iW⟩:=Fy hp tm;have hO:=D5 (H:=σ.H) (b:=.box t (cs.map AV.d)) hd;have PY:=hcl.swap (Nk hcl.1 hn) hO.symm
    have kh:patch R σ.H H2 d=none:=by unfold patch;rw[if_pos hd];exact hn
    refine⟨⟨aD σ.env oj.dst z,patch R σ.H H2⟩,⟨dj,gj,oE,.inr (.inl ⟨bj,vj,c',g,xs,z,patch R σ.H H2,k9,tj,eH,PY,fun p hp=>⟨(gW p hp).1.swap (gW p hp).2 hO.symm,(gW p hp).2⟩,oz,rfl⟩)⟩,di,gi,oE.put oz _,.inr (.inr ⟨bi,vi,k1,qw,x,_,iW _ _ kh,ox,?_⟩)⟩;rw[fG aO,JQ hd,Ee hcl.2.1]
  .rw[bi,bj]at fX
   have bW:acf ops oi oj=true:=by simp only[acf,Bool.and_eq_true];simp only[Bool.false_or,vi,vj,Bool.false_eq_true,if_false]at fX;exact⟨eX,fX⟩
   obtain⟨H3,f1,f2⟩:=aes (N:=N) bW ⟨di,.inl ⟨ik gi,e1⟩⟩ ⟨dj,.inl ⟨ik gj,e2⟩⟩ k1 k2
   have un:∀ {o:Oper} {e:Env} {H H':Heap} {x:AV},o.guard=none->Sx P T Mv G N ops o e H x H'->Ex P T Mv G o e H x H':=fun hgu h=>by
    rcases h.2 with⟨_,h⟩ | ⟨hw,_⟩
    .exact h
    .rw[ik hgu]at hw;cases hw
   refine⟨⟨aD σ.env oj.dst z,H3⟩,⟨dj,gj,oE,.inr (.inr ⟨bj,vj,k2,lY (agj _) l2,z,H3,un gj f1,oz,rfl⟩)⟩,di,gi,oE.put oz _,.inr (.inr ⟨bi,vi,k1,lY (eT _) l1,x,H2,un gi f2,ox,?_⟩)⟩;rw[fG aO]
def vT (P:Program) (T:Ty) (Mv:Nat->Prop) (G:ao) (mvd R:List Nat) (ops:Array Oper) (ex:List (Nat×AV)) (g:FuncId) (xs:List AV) (σ:St) (dst:Option Tmp) (K:St->Prop):Prop:=∃ y H2,(∀ r∈mvd,Mv r)/\qX P G mvd R g xs σ.H y H2/\(∀ p∈ex,gJ T ops σ.H H2 p/\uD R p.2=true)/\acd mvd y/\K ⟨aD σ.env dst y,H2⟩
theorem X3 (o f:Nat->Nat->Nat->AV) (t:TypeId) (cs:List D):Row.tr o f (.box t (cs.map AV.d)) = .box t (cs.map AV.d):=by
 simp[Row.tr,AV.tr,Function.comp_def]
theorem QS {l:List (Nat×Row)} {q:Nat} (h:(ak l q).isSome=true):∃ p∈l,p.1=q:=by
 induction l with
 | nil=>simp[ak]at h
 | cons p l ih=>
  simp only[ak,List.lookup]at h
  cases lg:(q == p.1) with
  | true=>exact⟨p,by simp,by simpa using (beq_iff_eq.1 lg).symm⟩
  | false=>
   rw[lg]at h;obtain⟨p',h1,h2⟩:=ih h;exact⟨p',by simp[h1],h2⟩
theorem vT.mc {mvd R:List Nat} {ex:List (Nat×AV)} {dst:Option Tmp} {K:St->Prop} {fx:List Nat} {g:FuncId} {jZ xs:List AV} {aaO ek:List (Nat×Row)} {y:AV} (hc:MC P G fx g xs (ak aaO) y (ak ek)) (hx:jZ.map (AV.tr (dD (aaO.map (·.1))) (abk (aaO.map (·.1))))=xs)
  (hR:∀ r∈R,(aaO.map (·.1)).contains r=false/\(ek.map (·.1)).contains r=false/\(σ.H r=none\/∃ (t:TypeId) (cs:List D),σ.H r=some (.box t (cs.map AV.d))))
  (hH:∀ p∈aaO,(σ.H p.1).map (Row.tr (dD (aaO.map (·.1))) (abk (aaO.map (·.1))))=ak aaO p.1) (hd:∀ p∈ek,(aaO.map (·.1)).contains p.1=true\/σ.H p.1=none) (hm:∀ r∈aaO.map (·.1),fx.contains r=false->r∈mvd) (eH:∀ r∈mvd,Mv r) (ho:∀ r∈mvd,y.kill r=y)
  (hl:∀ p∈ex,gJ T ops σ.H (jM (ak ek) (trH (ea (aaO.map (·.1))) (jg (aaO.map (·.1)) fx) (jf (aaO.map (·.1)) fx) σ.H)) p/\uD R p.2=true)
  (h:K ⟨aD σ.env dst y,jM (ak ek) (trH (ea (aaO.map (·.1))) (jg (aaO.map (·.1)) fx) (jf (aaO.map (·.1)) fx) σ.H)⟩):vT P T Mv G mvd R ops ex g jZ σ dst K:=by
 have aF:∀ q,R.contains q=true->q∈R:=fun q hq=>List.contains_iff_mem.1 hq;have hcl:oo R σ.H:=fun q hq=>(hR q (aF q hq)).2.2
 have cZ:∀ (H0:Heap),oo R H0->∀ q,R.contains q=true->jM (ak ek) (trH (ea (aaO.map (·.1))) (jg (aaO.map (·.1)) fx) (jf (aaO.map (·.1)) fx) H0) q=H0 q:=fun H0 hU q hq=>by
  obtain⟨a1,a2,_⟩:=hR q (aF q hq)
  have e1:ak ek q=none:=by
   cases he:ak ek q with
   | none=>rfl
   | some r=>
    obtain⟨p,hp,rfl⟩:=QS (l:=ek) (q:=q) (by rw[he];rfl);have:(ek.map (·.1)).contains p.1=true:=List.contains_iff_mem.2 (List.mem_map.2 ⟨p,hp,rfl⟩);rw[this]at a2;cases a2
  unfold jM;rw[e1];dsimp only;unfold trH ea;rw[a1];simp only[Bool.not_false,if_true]
  rcases hU q hq with h0 | ⟨t,cs,h0⟩
  .rw[h0];rfl
  .rw[h0,Option.map_some,X3]
 refine⟨y,_,eH,⟨hcl,cZ σ.H hcl,fun H0 hU wA=>?_⟩,hl,ho,h⟩
 have sE:∀ p∈aaO,R.contains p.1=false:=fun p hp=>by
  cases he:R.contains p.1 with
  | false=>rfl
  | true=>
   have h1:=(hR p.1 (aF _ he)).1;have:(aaO.map (·.1)).contains p.1=true:=List.contains_iff_mem.2 (List.mem_map.2 ⟨p,hp,rfl⟩);rw[this]at h1;cases h1
 have zL:∀ p∈ek,R.contains p.1=false:=fun p hp=>by
  cases he:R.contains p.1 with
  | false=>rfl
  | true=>
   have h1:=(hR p.1 (aF _ he)).2.1;have:(ek.map (·.1)).contains p.1=true:=List.contains_iff_mem.2 (List.mem_map.2 ⟨p,hp,rfl⟩);rw[this]at h1;cases h1
 have key:=HC.mc (mvd:=mvd) (H:=H0) hc hx (fun p hp=>by rw[wA p.1 (sE p hp)];exact hH p hp) (fun p hp=>by rw[wA p.1 (zL p hp)];exact hd p hp) hm
 have e:patch R H0 (jM (ak ek) (trH (ea (aaO.map (·.1))) (jg (aaO.map (·.1)) fx) (jf (aaO.map (·.1)) fx) σ.H))=jM (ak ek) (trH (ea (aaO.map (·.1))) (jg (aaO.map (·.1)) fx) (jf (aaO.map (·.1)) fx) H0):=by
  funext q;unfold patch;split
  .rename_i hq;exact (cZ H0 hU q hq).symm
  .rename_i hq
   have hq':R.contains q=false:=by simpa using hq
   unfold jM trH;rw[wA q hq']
 rw[e];exact key
def Ah (P:Program) (T:Ty) (Mv:Nat->Prop) (G:ao) (N:Fr) (mvd R db hv:List Nat) (ex:List (Nat×AV)) (ops:Array Oper) (i:Nat) (o:Oper) (σ:St) (K:St->Prop):Prop:=abF N o/\o.guard=none/\
 if db.contains i=true then (match ky T G σ.env o with
  | some (c,y)=>c/\K ⟨aD σ.env o.dst (.d y),σ.H⟩
  | none=>False)
 else if hv.contains i=true then (match cz o.op with
  | some c=>match tgt G σ.env c with
   | some (g,xs)=>vT P T Mv G mvd R ops ex g xs σ o.dst K
   | none=>False
  | none=>False)
 else kindOf o.op≠9/\lX G ex i o σ.env/\match cz o.op with
  | some c=>mM P G c σ.env o.dst σ.H [] [] K
  | none=>xg T G Mv mvd o σ K
def pC (P:Program) (T:Ty) (Mv:Nat->Prop) (G:ao) (N:Fr) (mvd R db hv:List Nat) (ex:List (Nat×AV)) (ops:Array Oper) (K:St->Prop):List (Nat×Oper)->St->Prop
 | [],σ=>K σ
 | (i,o) :: rest,σ=>Ah P T Mv G N mvd R db hv ex ops i o σ (pC P T Mv G N mvd R db hv ex ops K rest)
theorem XB {mvd R db hv:List Nat} {ex:List (Nat×AV)} {K:St->Prop}:∀ (l:List Nat) (σ:St),(∀ i∈l,i < ops.size)->lE mvd σ.env->pC P T Mv G N mvd R db hv ex ops K (aaV ops l) σ->∃ σn,K σn/\Go.Av.gP (sX P T Mv G N mvd R db hv ex ops) ops l σ σn:=by
 intro l
 induction l with
 | nil=>intro σ _ _ h;exact⟨σ,h,rfl⟩
 | cons i l ih=>
  intro σ hl gz h;have hi:=hl i (by simp)
  have ho:ops[i]? = some ops[i]:=by simp[hi]
  simp only[aaV,ho]at h;generalize ops[i]=o at ho h;simp only[pC,Ah]at h;obtain⟨hd,hgu,h⟩:=h
  have fin:∀ aI,sX P T Mv G N mvd R db hv ex ops i o σ aI->lE mvd aI.env->pC P T Mv G N mvd R db hv ex ops K (aaV ops l) aI->∃ σn,K σn/\Go.Av.gP (sX P T Mv G N mvd R db hv ex ops) ops (i :: l) σ σn:=fun aI hs hE h1=>by
   obtain⟨σn,hk,hr⟩:=ih aI (fun j hj=>hl j (by simp[hj])) hE h1;exact⟨σn,hk,o,ho,aI,hs,hr⟩
  split at h
  .rename_i hb;split at h
   .rename_i c y hw;obtain⟨hc,h⟩:=h;exact fin _ ⟨hd,hgu,gz,.inl ⟨hb,c,y,hw,hc,rfl⟩⟩ (gz.put (acd.d _ _) _) h
   .exact h.elim
  .rename_i hb
   have hb:db.contains i=false:=by simpa using hb
   split at h
   .rename_i fM;split at h
    .rename_i c hc;split at h
     .rename_i g xs ht;obtain⟨y,H2,h0,h1,h2,h3,h⟩:=h;exact fin _ ⟨hd,hgu,gz,.inr (.inl ⟨hb,fM,c,g,xs,y,H2,hc,ht,h0,h1,h2,h3,rfl⟩)⟩ (gz.put h3 _) h
     .exact h.elim
    .exact h.elim
   .rename_i fM
    have fM:hv.contains i=false:=by simpa using fM
    obtain⟨hk,kH,h⟩:=h;split at h
    .rename_i c hc;obtain⟨y,g,ds,ht,hp,abL,h⟩:=h;refine fin _ ⟨hd,hgu,gz,.inr (.inr ⟨hb,fM,hk,kH,.d y,σ.H,?_,acd.d _ _,rfl⟩)⟩ (gz.put (acd.d _ _) _) h;unfold Ex;simp only[hc];exact⟨y,⟨g,_,ht,.inl ⟨ds,rfl,hp⟩⟩,rfl,trivial⟩
    .rename_i hc;unfold xg at h;split at h
     .rename_i hw;split at h
      .rename_i c x aI h1;obtain⟨bW,abL,h⟩:=h;have he:=aeP hk h1;obtain⟨e,H⟩:=σ;obtain⟨e1,H1⟩:=aI;dsimp only at he;subst he;refine fin _ ⟨hd,hgu,gz,.inr (.inr ⟨hb,fM,hk,kH,x,H1,?_,abL,rfl⟩)⟩ (gz.put abL _) h;unfold Ex;simp only[hc];rw[if_pos hw];exact⟨c,h1,bW⟩
      .exact h.elim
     .rename_i hw;split at h
      .rename_i c x h1;obtain⟨bW,abL,h⟩:=h;refine fin _ ⟨hd,hgu,gz,.inr (.inr ⟨hb,fM,hk,kH,x,σ.H,?_,abL,rfl⟩)⟩ (gz.put abL _) h;unfold Ex;simp only[hc];rw[if_neg hw];exact⟨c,h1,bW,trivial⟩
      .exact h.elim
theorem LV (hg:Good P T) (hm:P.follows .mixedOrders=true) (mvd R db hv:List Nat) (ex:List (Nat×AV)) (ord:List Nat) {id:Nat} (bJ:qG (afa R db hv ex ops) ord ops=true) (gz:lE mvd σ.env) {Q:Exit->St->Prop} (h:pC P T Mv G N mvd R db hv ex ops (fun aw=>Q .normal aw) (aaV ops ord) σ):AW P Mv X G N (.region id ops true) Q σ:=
 Fl hm (MJ hg mvd R db hv ex) (MK mvd R db hv ex) ord bJ fun ay=>XB ord σ ay gz h
theorem LS (hg:Good P T) (hm:P.follows .mixedOrders=true) (mvd R db hv:List Nat) (ex:List (Nat×AV)) (ord:List Nat) (l ns:List Nat) (hM:∀ r,ns.contains r=false->Mv r) {id:Nat} (bJ:qG (afa R db hv ex ops) ord ops=true) (gz:lE mvd σ.env) {y:Code} {Q:Exit->St->Prop}
  (h:∀ K:St->Prop,(∀ τ:St,AW P Mv X G N y Q (τ.norm l ns)->K τ)->pC P T Mv G N mvd R db hv ex ops K (aaV ops ord) σ):AW P Mv X G N (.seq (.region id ops true) y) Q σ:=
 adP (LV hg hm mvd R db hv ex ord bJ gz (h _ fun _ h=>h.norm l ns hM))
theorem xD {mvd R db hv:List Nat} {ex:List (Nat×AV)} {K:St->Prop} {i:Nat} {l:List Nat} {o:Oper} (ho:ops[i]? = some o) (h:∀ K':St->Prop,(∀ τ,pC P T Mv G N mvd R db hv ex ops K (aaV ops l) τ->K' τ)->Ah P T Mv G N mvd R db hv ex ops i o σ K'):pC P T Mv G N mvd R db hv ex ops K (aaV ops (i :: l)) σ:=by
 have:aaV ops (i :: l)=(i,o) :: aaV ops l:=by simp[aaV,ho]
 rw[this];exact h _ fun _ h=>h
theorem XA {mvd R db hv:List Nat} {ex:List (Nat×AV)} {K:St->Prop} (h:K σ):pC P T Mv G N mvd R db hv ex ops K (aaV ops []) σ:=h
end
attribute [simp] Ah
attribute [simp] uD
end Go.Av
namespace Go.Proofs.YtdigkhaofjmgkaaGreatDoor
open Go.Av
theorem Vs (l:List Int):(∀ el∈l.map (fun n=>[D.v (.int .i64 n)]),el.length=1)=True:=eq_true (by simp)
theorem one_one (l:List Int):(∀ el∈l.map (fun n=>[D.v (.int .i64 n)]),∀ c∈el,c.one=true)=True:=eq_true (by simp[D.one])
theorem Vm (l:List Bool):(∀ el∈l.map (fun n=>[D.v (.bool n)]),el.length=1)=True:=eq_true fun el h=>by obtain⟨b,_,rfl⟩:=List.mem_map.1 h;rfl
theorem Vn (l:List Bool):(∀ el∈l.map (fun n=>[D.v (.bool n)]),∀ c∈el,c.one=true)=True:=eq_true fun el h c hc=>by
 obtain⟨b,_,rfl⟩:=List.mem_map.1 h;obtain rfl:=List.mem_singleton.1 hc;rfl
theorem Ni (G:ao) (l:List Int) (h:l.length < 2^40):MC prog G [] 131 [.d (eV l)] (ak []) (.own 702 0 l.length) (ak [(702,.sl 3 1 (l.map fun n=>[.v (.int .i64 n)]))]):=by
 have fq:(l.map fun n=>[D.v (.int .i64 n)]).length=l.length:=by simp
 have q1:=Vs l;have q2:=one_one l;simp only[eV];rw[<- fq];rw[<- fq]at h;generalize (l.map fun n=>[D.v (.int .i64 n)])=L at *;refine MC.aC (aay _) func131 rfl rfl (rs:=[.tmp 2]) results131 (by simp[ntmps131]) rfl fun X=>?_;simp only[ntmps131];refine AW.Jr 0 rfl ?_ fun hl=>?_
 .refine aq [0] [] ?_;refine ae fun K1 au=>?_;refine aq [0,4] [] ?_;refine mH false rfl (fun hc=>by cases hc) (fun hc=>?_);refine ah (au _ ?_);have qf:=(Aq @q1 @q2);refine al [2] [5] ?_;refine AW.imp (aB.ren (r:=5) (r':=702) (by decide) (by simp)) ?_;refine AW.st (by simp[abI,abH,Go.Av.ren,mC];rfl) ?_;exact gG
 .subst hl;refine aq [0] [] ?_;refine ae fun K1 au=>?_;refine aq [0,4] [] ?_;refine mH true rfl (fun hc=>?_) (fun hc=>by cases hc);refine aq [2] [] ?_;refine AW.imp (aB.iH 2 702 3 1 rfl rfl) ?_;refine AW.st (by simp;rfl) ?_;exact gG
theorem Nh (G:ao) (l:List Bool) (h:l.length < 2^40):MC prog G [] 130 [.d (dN l)] (ak []) (.own 701 0 l.length) (ak [(701,.sl 4 1 (l.map fun n=>[.v (.bool n)]))]):=by
 have fq:(l.map fun n=>[D.v (.bool n)]).length=l.length:=by simp
 have q1:=Vm l;have q2:=Vn l;simp only[dN];rw[<- fq];rw[<- fq]at h;generalize (l.map fun n=>[D.v (.bool n)])=L at *;refine MC.aC (aay _) func130 rfl rfl (rs:=[.tmp 2]) results130 (by simp[ntmps130]) rfl fun X=>?_;simp only[ntmps130];refine AW.Jr 0 rfl ?_ fun hl=>?_
 .refine aq [0] [] ?_;refine ae fun K1 au=>?_;refine aq [0,4] [] ?_;refine mH false rfl (fun hc=>by cases hc) (fun hc=>?_);refine ah (au _ ?_);have qf:=(Aq @q1 @q2);refine al [2] [5] ?_;refine AW.imp (aB.ren (r:=5) (r':=701) (by decide) (by simp)) ?_;refine AW.st (by simp[abI,abH,Go.Av.ren,mC];rfl) ?_;exact gG
 .subst hl;refine aq [0] [] ?_;refine ae fun K1 au=>?_;refine aq [0,4] [] ?_;refine mH true rfl (fun hc=>?_) (fun hc=>by cases hc);refine aq [2] [] ?_;refine AW.imp (aB.iH 2 701 4 1 rfl rfl) ?_;refine AW.st (by simp;rfl) ?_;exact gG
theorem ae3 {s:Tx} (h:gb s=true):s≠[]:=(U1 h).1
theorem afs {S1 S2:Tx->Prop}:∀ (n:Nat) (e:Ex),SizeOf.sizeOf e<=n->fi e->(∀ s∈ck true e,S1 s)->(∀ s∈ck false e,S2 s)->fH S1 S2 e
 | 0,e,hn,_,_,_=>by cases e<;>simp at hn
 | n+1,e,hn,hw,h1,h2=>by
  have many:∀ l:List Ex,(∀ x∈l,SizeOf.sizeOf x<=n)->(∀ s∈abu true l,S1 s)->(∀ s∈abu false l,S2 s)->(∀ x∈l,fi x)->om S1 S2 l:=by
   intro l
   induction l with
   | nil=>intro _ _ _ _;rw[om];trivial
   | cons x l ih=>
    intro hs h1 h2 h3;simp only[abu,List.mem_append]at h1 h2;rw[om];exact⟨afs n x (hs x (by simp)) (h3 x (by simp)) (fun s h=>h1 s (.inl h)) (fun s h=>h2 s (.inl h)),ih (fun y hy=>hs y (by simp[hy])) (fun s h=>h1 s (.inr h)) (fun s h=>h2 s (.inr h)) (fun y hy=>h3 y (by simp[hy]))⟩
  cases e with
  | cst b=>rw[fH];trivial
  | bit s=>
   rw[fH];rw[fi]at hw;exact h1 s (by simp[ck,nmE,eQ,ae3 hw])
  | abP s=>
   rw[fH];rw[fi]at hw;exact⟨h1 s (by simp[ck,nmE,eQ,ae3 hw]),h2 s (by simp[ck,nmE,eQ,ae3 hw])⟩
  | fS s=>
   rw[fH];rw[fi]at hw;exact⟨h1 s (by simp[ck,nmE,eQ,ae3 hw]),h2 s (by simp[ck,nmE,eQ,ae3 hw])⟩
  | not x=>
   rw[fH];rw[fi]at hw;exact afs n x (by simp at hn;omega) hw (fun s h=>h1 s (by rw[ck];exact h)) (fun s h=>h2 s (by rw[ck];exact h))
  | and l=>
   rw[fH];rw[fi]at hw;exact many l (fun x hx=>by have:=List.sizeOf_lt_of_mem hx;simp only[Ex.and.sizeOf_spec]at hn;omega) (fun s h=>h1 s (by rw[ck];exact h)) (fun s h=>h2 s (by rw[ck];exact h)) ((ad5 l).1 hw.2)
  | or l=>
   rw[fH];rw[fi]at hw;exact many l (fun x hx=>by have:=List.sizeOf_lt_of_mem hx;simp only[Ex.or.sizeOf_spec]at hn;omega) (fun s h=>h1 s (by rw[ck];exact h)) (fun s h=>h2 s (by rw[ck];exact h)) ((ad5 l).1 hw.2)
theorem MG {S1 S2:Tx->Prop} {e:Ex} (hw:fi e) (h1:∀ s∈ck true e,S1 s) (h2:∀ s∈ck false e,S2 s):fH S1 S2 e:=afs _ e (Nat.le_refl _) hw h1 h2
theorem agL (p:PgP) (s t0:StP) {n:Nat} (h:n < p.aaw.length):(p.aaw.take (n+1)).foldl (je p s) t0=je p s ((p.aaw.take n).foldl (je p s) t0) p.aaw[n]:=by
 rw[List.take_succ_eq_append_getElem h,List.foldl_append];rfl
theorem KN {p:PgP} (hc:cf p=none) (hk:∀ r∈p.aaw,acZ r) {r:fI} (hr:r∈p.aaw):∃ e,r.cond=some e/\fH (fun nm=>¬ aaL p nm < 0) (fun nm=>¬ aaL p nm < 0) e/\bE e<=2^28:=by
 obtain⟨e,he,hw,_,hb⟩:=hk r hr;obtain⟨_,_,e',gV,aF⟩:=ad8 hc r hr;rw[he]at gV;obtain rfl:=Option.some.inj gV;refine⟨e,he,MG hw (fun s hs=>aF s (ae4.2 hs)) (fun s hs=>aF s (Jk (ae4.2 hs))),by omega⟩
theorem Gb (G:ao) (p:PgP) (aN:cf p=none) (hk:∀ r∈p.aaw,acZ r) (s:StP) (hs:abr p s) (inn:List Bool) (aF:inn.length=(aQ p).length):ar prog G 66 [dPg p,k7 s,dN inn] (k7 (jF p s inn)):=by
 have hg:=fB aN;have dX:=hg.names;have hrn:=hg.aaw;have cm:=hs.l1;have hs2:=hs.l2;have hkd:=IW G p (by omega) 1;have tG:=Nh G s.is (by omega);have fJ:=Ni G s.ct (by omega);have bD:=fun x=>su G p (by omega) x;have rO:=qv p.names 1 p.names.length;obtain⟨t0,lR,vC⟩:∃ t0,t0=(⟨jV (aQ p) inn s.is (aQ p).length,s.ct⟩:StP)/\abr p t0:=⟨_,rfl,(sH inn hs _ (Nat.le_refl _)).1⟩;obtain⟨T,hT⟩:∃ T:Nat->StP,∀ n,T n=(p.aaw.take n).foldl (je p s) t0:=⟨_,fun _=>rfl⟩;have Pz:T 0=t0:=hT 0
 have PB:∀ n (h:n < p.aaw.length),T (n+1)=je p s (T n) p.aaw[n]:=fun n h=>by rw[hT,hT,agL p s t0 h]
 have ry:T p.aaw.length=jF p s inn:=by rw[hT,List.take_length,lR];rfl
 have tB:∀ n,abr p (T n):=fun n=>by rw[hT];exact (Ad aN s _ (fun r hr=>List.mem_of_mem_take hr) vC).1
 have eY:∀ n (h:n < p.aaw.length),∃ e,p.aaw[n].cond=some e/\ar prog G 51 [dE e,.fn (.func 132) [.ip (j4 (T n)),.ip (ey p)],.fn (.func 133) [.ip (j4 s),.ip (ey p)]] (.v (.bool (da (eN p (T n).is) (eN p s.is) e))):=fun n h=>by
  obtain⟨e,he,ha,hb⟩:=KN aN hk (List.getElem_mem h);exact⟨e,he,Oq G _ _ _ _ _ _ _ _ (ME G p (by omega) (T n) (tB n).l1) (MF G p (by omega) s cm) e ha hb⟩
 clear hT;rw[<- ry];have kM:∀ k,k<=(aQ p).length->(jV (aQ p) inn s.is k).length=p.names.length:=fun k hk=>(sH inn hs k hk).1.l1
 have HN:∀ k (h:k < (aQ p).length) (h2:k < inn.length),∃ i,i < p.names.length/\(aQ p)[k]=(i:Int)/\jV (aQ p) inn s.is (k+1)=(jV (aQ p) inn s.is k).set i inn[k]:=fun k h h2=>by
  obtain⟨i,hi,he,_⟩:=ug h;refine⟨i,hi,he,?_⟩;rw[Ek h he];congr 1;exact fj h2
 have yY:jV (aQ p) inn s.is 0=s.is:=rfl;have dI:t0=⟨jV (aQ p) inn s.is (aQ p).length,s.ct⟩:=lR;clear lR;generalize Pp:jV (aQ p) inn s.is=PI at kM HN yY dI;clear Pp;have iS:fN p.names 1 p.names.length=aQ p:=rfl;rw[iS]at hkd rO;generalize aQ p=KI at *;simp only[dPg,ey,bK,dr,dN,eV,j4]at hkd tG fJ bD eY;simp only[dPg,ey,bK,dr,k7,j4,dN,eV]
 have mi:(p.names.map aW).length=p.names.length:=by simp
 have j9:∀ i (h:i < p.names.length),(p.names.map aW)[i]? = some [.v (.string (bs p.names[i].name)),.v (.int .i64 p.names[i].kind),.v (.int .i64 p.names[i].count)]:=fun i h=>by simp[h,aW,dS]
 have hRl:(p.aaw.map b7).length=p.aaw.length:=by simp
 have mX:∀ i (h:i < p.aaw.length),(p.aaw.map b7)[i]? = some (b7 p.aaw[i]):=fun i h=>by simp[h]
 generalize p.names.map aW=NN at *;generalize p.aaw.map b7=RR at *;refine ar.aC (aay _) func66 rfl rfl (rs:=[.cell 6 68]) results66 (by simp[ntmps66]) fun X=>?_;simp only[ntmps66,List.map];have fw:=@ab.eq_1;refine rgq fw [2,3,4,6] [3,4,6] ?_;refine aa1 fw 3 ?_;refine aa1 fw 4 ?_;refine LS (aay _) (by kernel_rfl) ([]) ([7]) ([]) ([2,5]) ([(1,.d (.ip [.sl none (s.is.map fun b=>[.v (.bool b)]),.sl none (s.ct.map fun n=>[.v (.int .i64 n)])])),(4,.d (.ip [.sl none (s.ct.map fun n=>[.v (.int .i64 n)])]))]) (List.range 9) [2,3,4,6,7] [6,7,701,702] (fun _ _=>trivial) (by kernel_rfl) (by simp[lE]) fun K' af=>?_;(repeat (refine xD rfl fun K2 aa=>?_;simp[ab];(repeat (refine⟨by omega,?_⟩));refine aa _ ?_;clear aa K2));refine xD rfl fun K2 aa=>?_;simp[ab];refine vT.mc (tG) (by simp[ab]) (by simp[ab]) (by simp[ab]) (by simp[ab]) (by simp[ab]) (by simp[ab]) (by simp[ab]) (by simp[gJ,ab]) ?_;simp[ab];refine aa _ ?_;clear aa K2;(repeat (refine xD rfl fun K2 aa=>?_;simp[ab];(repeat (refine⟨by omega,?_⟩));refine aa _ ?_;clear aa K2));refine xD rfl fun K2 aa=>?_;simp[ab];refine vT.mc (fJ) (by simp[ab]) (by simp[ab]) (by simp[ab]) (by simp[ab]) (by simp[ab]) (by simp[ab]) (by simp[ab]) (by simp[gJ,ab]) ?_;simp[ab];refine aa _ ?_;clear aa K2;(repeat (refine xD rfl fun K2 aa=>?_;simp[ab];(repeat (refine⟨by omega,?_⟩));refine aa _ ?_;clear aa K2));refine XA (af _ ?_);refine AW.st (by simp[ab];rfl) ?_;clear af K';refine ae fun K1 au=>?_;refine aR fw hkd [2,3,4,6,7,24,25,26] [6,7,701,702] ?_;refine bZ (S:=Nat) (fun k=>k<=KI.length) (fun k=>⟨lst [(2,.d (.sl none (inn.map fun b=>[.v (.bool b)]))),(3,.d (.ip [.sl none NN,.sl none RR])),(4,.d (.ip [.sl none (s.is.map fun b=>[.v (.bool b)]),.sl none (s.ct.map fun n=>[.v (.int .i64 n)])])),(6,.ref 6 0 0),(7,.ref 7 0 0),(24,.d (.sl none (KI.map fun x=>[.v (.int .i64 x)]))),(25,int KI.length),(26,int k)],ak [(6,.box 68 [.d (.sl (some false) []),.d (.sl (some false) [])]),(7,.box 68 [.own 701 0 (PI k).length,.own 702 0 s.ct.length]),(701,.sl 4 1 ((PI k).map fun b=>[.v (.bool b)])),(702,.sl 3 1 (s.ct.map fun n=>[.v (.int .i64 n)]))]⟩) (fun k=>KI.length - k) 0 ?_ (by omega) ?_
 .rw[yY];refine aX fw
 .intro k iA;have ka:=kM k iA;have yI:=HN k;generalize hPk:PI k=P at ka yI ⊢;refine rgq fw [2,3,4,6,7,24,25,26,27] [6,7,701,702] ?_;refine ae fun K2 aa=>?_;refine dw (b:=k < KI.length) (by simp[D.le,D.le.go,aaA,ab]) (fun hc=>?_) (fun hc=>?_)
  .have ay:=hc
   have hk2:k < inn.length:=by omega
   obtain⟨i,hi,BS,Pt⟩:=yI ay hk2
   have hi2:i < P.length:=by omega
   refine ah (aa _ ?_);refine ae fun K3 aH=>?_;refine aU ?_;have qf:=(Aq fw (Aq @ay @BS));refine al [2,3,4,6,7,8,9,24,25,26] [6,7,701,702] ?_;refine adE (aay _) (by kernel_rfl) [(1,7),(6,999),(7,701),(8,701)] (by kernel_rfl) fun K' af=>?_;(repeat (refine gk fun K2 aa=>?_;simp[ab,hi2,hk2];(repeat (refine⟨by omega,?_⟩));refine aa _ ?_;clear aa K2));refine ab8 (af _ ?_);clear af K';refine aH _ (AW.norm [2,3,4,6,7,24,25,26] [6,7,701,702] (fun _ _=>trivial) (AW.st (by simp[ab,hi2,hk2];rfl) ?_));refine bO fw ?_;(try simp only[aM,aP]);refine aV.mk (k+1) (by omega) (by omega) ?_;rw[Pt];refine aB.dK (fun _ _=>trivial) (by simp[ab,List.map_set]) (by simp[ab,List.map_set])
  .have hke:k=KI.length:=by omega
   refine bG (au _ ?_)
   have Ry:t0=⟨P,s.ct⟩:=by rw[dI,<- hke,hPk]
   refine rgq fw [3,4,6,7,10] [6,7,701,702] ?_;refine rgq fw [3,6,7,10,11] [6,7,701,702] ?_;refine ae fun K4 hK4=>?_;refine rgq fw [3,6,7,10,11,43,44,45] [6,7,701,702] ?_;refine bZ (S:=Nat) (fun n=>n<=p.aaw.length) (fun n=>⟨lst [(3,.d (.ip [.sl none NN,.sl none RR])),(6,.ref 6 0 0),(7,.ref 7 0 0),(10,.fn (.func 132) [.ref 7 0 0,.d (.ip [.sl none NN,.sl none RR])]),(11,.d (.fn (.func 133) [.ip [.sl none (s.is.map fun b=>[.v (.bool b)]),.sl none (s.ct.map fun n=>[.v (.int .i64 n)])],.ip [.sl none NN,.sl none RR]])),(43,.d (.sl none RR)),(44,int RR.length),(45,int n)],ak [(6,.box 68 [.d (.sl (some false) []),.d (.sl (some false) [])]),(7,.box 68 [.own 701 0 (T n).is.length,.own 702 0 (T n).ct.length]),(701,.sl 4 1 ((T n).is.map fun b=>[.v (.bool b)])),(702,.sl 3 1 ((T n).ct.map fun n=>[.v (.int .i64 n)]))]⟩) (fun n=>p.aaw.length - n) 0 ?_ (by omega) ?_
   .rw[Pz,Ry];refine aX fw
   .intro n hn;have tC:=PB n;have qd:=tB n;have tF:=eY n;generalize PA:T n=tn at tC qd tF ⊢;obtain⟨I,C⟩:=tn;have jl:=qd.l1;have O5:=qd.l2;have tZ:=agy aN qd;dsimp only at jl O5 tZ tF ⊢;refine rgq fw [3,6,7,10,11,43,44,45,46] [6,7,701,702] ?_;refine ae fun K5 bN=>?_;by_cases ay:n < p.aaw.length
    .have aaZ:n < RR.length:=by omega
     have ju:(n:Int) < (RR.length:Int):=by omega
     refine aax (by simp[aaZ]) ?_;refine ah (bN _ ?_);refine ae fun K6 hK6=>?_;refine aU ?_;obtain⟨e,he,aJ⟩:=tF ay;obtain⟨i,hi,kK,_,jK⟩:=Ac aN (List.getElem_mem ay);obtain⟨qg,_⟩:=ad8 aN _ (List.getElem_mem ay);have bd:=tC ay;have gx:=mX n ay;have jw:=bD p.aaw[n].name;rw[kK]at jw;unfold je at bd;simp only[kK,Int.toNat_natCast,jK,he,nG]at bd;unfold b7 at gx;rw[he]at gx;generalize p.aaw[n]=r at gx jw qg bd;obtain⟨rk,rn,rc⟩:=r;dsimp only at gx jw qg bd;generalize da (eN p I) (eN p s.is) e=yes at aJ bd;obtain⟨ye,ev,Hl⟩:=ach e;rw[show dC (some e)=dE e from rfl,Hl]at gx;rw[Hl]at aJ;simp only[dS]at jw gx;have rq:=j9 i hi
     have cO:i < I.length:=by omega
     have hi2:i < C.length:=by omega
     have jr:i < NN.length:=by omega
     have iw:NN[i]=[.v (.string (bs p.names[i].name)),.v (.int .i64 p.names[i].kind),.v (.int .i64 p.names[i].count)]:=by
      rw[List.getElem?_eq_getElem jr]at rq;exact Option.some.inj rq
     have yJ:RR[n]=[.v (.int .i64 rk),.v (.string (bs rn)),.bA ye ev]:=by
      rw[List.getElem?_eq_getElem aaZ]at gx;exact Option.some.inj gx
     have bR:=WX G ⟨I,C⟩ i p.names[i].count yes cO hi2 (fun x hx=>by have:=tZ x hx;omega);generalize p.names[i].count=m at iw bd bR;generalize p.names[i].name=Zx at iw;generalize p.names[i].kind=Zq at iw;have qf:=(Aq fw (Aq @aaZ (Aq @ju @yJ)));refine al [3,6,7,10,11,13,43,44,45] [6,7,701,702,13] ?_;refine aa1 fw 13 ?_;refine aR fw jw [3,6,7,10,11,13,14,43,44,45] [6,7,701,702] ?_;refine rg [3,6,7,10,11,13,14,15,43,44,45] [6,7,701,702] (fun _ _=>trivial) fun K' af=>?_;(repeat (refine sxn fun K2 aa=>?_;simp[ab];(repeat (refine⟨by omega,?_⟩));refine aa _ ?_;clear aa K2));refine sxn fun K2 aa=>?_;simp[ab];refine aaT.mw (aJ) (by simp;rfl) (by first | exact D.aaE _ | simp[aaA,List.map_map,Function.comp_def,D.le,D.le.go,D.le_refl,D.aaE,ab]) (by simp[D.scalar]) ?_;refine aa _ ?_;clear aa K2;simp only[aD,cu];(repeat (refine sxn fun K2 aa=>?_;simp[ab];(repeat (refine⟨by omega,?_⟩));refine aa _ ?_;clear aa K2));refine sxz (af _ (AW.st (by simp[ab];rfl) ?_));clear af K';refine rgq fw [3,6,7,10,11,14,15,43,44,45,59] [6,7,701,702] ?_;refine aU ?_
     have wg:rk=1\/rk=2\/rk=3\/rk=4\/rk=5\/rk=6:=by omega
     rcases wg with rfl | rfl | rfl | rfl | rfl | rfl
     .have bd:=bd;simp at bd;refine rgq fw [3,6,7,10,11,14,15,43,44,45,59,60] [6,7,701,702] ?_;refine aax rfl ?_;have qf:=(Aq fw @cO);refine cT hK6 [3,6,7,10,11,43,44,45] [6,7,701,702] ?_;refine bO fw ?_;(try simp only[aM,aP]);refine aV.mk (n+1) (by omega) (by omega) ?_;rw[bd];refine aB.dK (fun _ _=>trivial) (by simp[ab,List.map_set]) (by simp[ab,List.map_set])
     .have bd:=bd;rw[fj cO]at bd;refine rgq fw [3,6,7,10,11,14,15,43,44,45,59,60] [6,7,701,702] ?_;refine ag rfl ?_;refine rgq fw [3,6,7,10,11,14,15,43,44,45,59,67] [6,7,701,702] ?_;refine aax rfl ?_
      cases hIb:I[i] with
      | true=>
       rw[hIb]at bd;simp at bd;refine adE (aay _) (by kernel_rfl) [(1,7),(4,7),(6,701),(7,701),(11,701),(12,701)] (by kernel_rfl) fun K' af=>?_;(repeat (refine gk fun K2 aa=>?_;simp[ab,cO,hIb];(repeat (refine⟨by omega,?_⟩));refine aa _ ?_;clear aa K2));refine ab8 (af _ ?_);clear af K';refine hK6 _ (AW.norm [3,6,7,10,11,43,44,45] [6,7,701,702] (fun _ _=>trivial) (AW.st (by simp[ab,cO,hIb];rfl) ?_));refine bO fw ?_;(try simp only[aM,aP]);refine aV.mk (n+1) (by omega) (by omega) ?_;rw[bd];refine aB.dK (fun _ _=>trivial) (by simp[ab,List.map_set]) (by simp[ab,List.map_set])
      | false=>
       rw[hIb]at bd;simp at bd;refine adE (aay _) (by kernel_rfl) [(1,7),(4,7),(6,701),(7,701),(11,701),(12,701)] (by kernel_rfl) fun K' af=>?_;(repeat (refine gk fun K2 aa=>?_;simp[ab,cO,hIb];(repeat (refine⟨by omega,?_⟩));refine aa _ ?_;clear aa K2));refine ab8 (af _ ?_);clear af K';refine hK6 _ (AW.norm [3,6,7,10,11,43,44,45] [6,7,701,702] (fun _ _=>trivial) (AW.st (by simp[ab,cO,hIb];rfl) ?_));refine bO fw ?_;(try simp only[aM,aP]);refine aV.mk (n+1) (by omega) (by omega) ?_;rw[bd];refine aB.dK (fun _ _=>trivial) (by simp[ab,List.map_set]) (by simp[ab,List.map_set])
     .have bd:=bd;rw[fj cO]at bd;refine rgq fw [3,6,7,10,11,14,15,43,44,45,59,60] [6,7,701,702] ?_;refine ag rfl ?_;refine rgq fw [3,6,7,10,11,14,15,43,44,45,59,67] [6,7,701,702] ?_;refine ag rfl ?_;refine rgq fw [3,6,7,10,11,14,15,43,44,45,59,81] [6,7,701,702] ?_;refine aax rfl ?_
      cases hIb:I[i] with
      | true=>
       rw[hIb]at bd;simp at bd;refine adE (aay _) (by kernel_rfl) [(1,7),(4,7),(6,701),(7,701),(12,701),(13,701)] (by kernel_rfl) fun K' af=>?_;(repeat (refine gk fun K2 aa=>?_;simp[ab,cO,hIb];(repeat (refine⟨by omega,?_⟩));refine aa _ ?_;clear aa K2));refine ab8 (af _ ?_);clear af K';refine hK6 _ (AW.norm [3,6,7,10,11,43,44,45] [6,7,701,702] (fun _ _=>trivial) (AW.st (by simp[ab,cO,hIb];rfl) ?_));refine bO fw ?_;(try simp only[aM,aP]);refine aV.mk (n+1) (by omega) (by omega) ?_;rw[bd];refine aB.dK (fun _ _=>trivial) (by simp[ab,List.map_set]) (by simp[ab,List.map_set])
      | false=>
       rw[hIb]at bd;simp at bd;refine adE (aay _) (by kernel_rfl) [(1,7),(4,7),(6,701),(7,701),(12,701),(13,701)] (by kernel_rfl) fun K' af=>?_;(repeat (refine gk fun K2 aa=>?_;simp[ab,cO,hIb];(repeat (refine⟨by omega,?_⟩));refine aa _ ?_;clear aa K2));refine ab8 (af _ ?_);clear af K';refine hK6 _ (AW.norm [3,6,7,10,11,43,44,45] [6,7,701,702] (fun _ _=>trivial) (AW.st (by simp[ab,cO,hIb];rfl) ?_));refine bO fw ?_;(try simp only[aM,aP]);refine aV.mk (n+1) (by omega) (by omega) ?_;rw[bd];refine aB.dK (fun _ _=>trivial) (by simp[ab,List.map_set]) (by simp[ab,List.map_set])
     .have bd:=bd;simp at bd;refine rgq fw [3,6,7,10,11,14,15,43,44,45,59,60] [6,7,701,702] ?_;refine ag rfl ?_;refine rgq fw [3,6,7,10,11,14,15,43,44,45,59,67] [6,7,701,702] ?_;refine ag rfl ?_;refine rgq fw [3,6,7,10,11,14,15,43,44,45,59,81] [6,7,701,702] ?_;refine ag rfl ?_;refine rgq fw [3,6,7,10,11,14,15,43,44,45,59,96] [6,7,701,702] ?_;refine aax rfl ?_;obtain⟨I2,C2,BQ,O8,O4⟩:∃ I2 C2,gP ⟨I,C⟩ i m yes=⟨I2,C2⟩/\I2.length=I.length/\C2.length=C.length:=⟨_,_,rfl,by simp,by simp⟩;rw[BQ]at bR bd;simp only[xz,ab]at bR
      have ia:i < I2.length:=by omega
      have hj2:i < C2.length:=by omega
      have qf:=(Aq fw (Aq @jr @iw));refine ab6 bR [3,6,7,10,11,14,15,43,44,45] [6,7,701,702] ?_;refine rgq fw [3,6,7,10,11,14,43,44,45,108] [6,7,701,702] ?_
      cases yes with
      | true=>
       simp only[if_true]at bd;refine ag rfl ?_;refine ah ?_;refine hK6 _ (AW.norm [3,6,7,10,11,43,44,45] [6,7,701,702] (fun _ _=>trivial) (AW.st (by simp[ab];rfl) ?_));refine bO fw ?_;(try simp only[aM,aP]);refine aV.mk (n+1) (by omega) (by omega) ?_;rw[bd];refine aB.dK (fun _ _=>trivial) (by simp[ab,List.map_set]) (by simp[ab,List.map_set])
      | false=>
       simp only[Bool.false_eq_true,if_false,oh]at bd;refine aax rfl ?_;have qf:=(Aq fw (Aq @ia @hj2));refine cT hK6 [3,6,7,10,11,43,44,45] [6,7,701,702] ?_;refine bO fw ?_;(try simp only[aM,aP]);refine aV.mk (n+1) (by omega) (by omega) ?_;rw[bd];refine aB.dK (fun _ _=>trivial) (by simp[ab,List.map_set]) (by simp[ab,List.map_set])
     .have bd:=bd;simp at bd;refine rgq fw [3,6,7,10,11,14,15,43,44,45,59,60] [6,7,701,702] ?_;refine ag rfl ?_;refine rgq fw [3,6,7,10,11,14,15,43,44,45,59,67] [6,7,701,702] ?_;refine ag rfl ?_;refine rgq fw [3,6,7,10,11,14,15,43,44,45,59,81] [6,7,701,702] ?_;refine ag rfl ?_;refine rgq fw [3,6,7,10,11,14,15,43,44,45,59,96] [6,7,701,702] ?_;refine ag rfl ?_;refine rgq fw [3,6,7,10,11,14,15,43,44,45,59,117] [6,7,701,702] ?_;refine aax rfl ?_;obtain⟨I2,C2,BQ,O8,O4⟩:∃ I2 C2,gP ⟨I,C⟩ i m yes=⟨I2,C2⟩/\I2.length=I.length/\C2.length=C.length:=⟨_,_,rfl,by simp,by simp⟩;rw[BQ]at bR bd;simp only[xz,ab]at bR;refine abl (aay _) fun K' af=>?_;(repeat (refine sxn fun K2 aa=>?_;simp[ab,jr,iw];(repeat (refine⟨by omega,?_⟩));refine aa _ ?_;clear aa K2));refine sxn fun K2 aa=>?_;simp[ab,jr,iw];refine aaT.mc (bR) ?_ ?_ ?_ ?_ ?_<;>simp[ab,jr,iw];refine aa _ ?_;clear aa K2;(repeat (refine sxn fun K2 aa=>?_;simp[ab,jr,iw];(repeat (refine⟨by omega,?_⟩));refine aa _ ?_;clear aa K2));refine sxz (af _ ?_);clear af K';refine hK6 _ (AW.norm [3,6,7,10,11,43,44,45] [6,7,701,702] (fun _ _=>trivial) (AW.st (by simp[ab,jr,iw];rfl) ?_));refine bO fw ?_;(try simp only[aM,aP]);refine aV.mk (n+1) (by omega) (by omega) ?_;rw[bd];refine aB.dK (fun _ _=>trivial) (by simp[ab,List.map_set]) (by simp[ab,List.map_set])
     .have bd:=bd;simp at bd;refine rgq fw [3,6,7,10,11,14,15,43,44,45,59,60] [6,7,701,702] ?_;refine ag rfl ?_;refine rgq fw [3,6,7,10,11,14,15,43,44,45,59,67] [6,7,701,702] ?_;refine ag rfl ?_;refine rgq fw [3,6,7,10,11,14,15,43,44,45,59,81] [6,7,701,702] ?_;refine ag rfl ?_;refine rgq fw [3,6,7,10,11,14,15,43,44,45,59,96] [6,7,701,702] ?_;refine ag rfl ?_;refine rgq fw [3,6,7,10,11,14,15,43,44,45,59,117] [6,7,701,702] ?_;refine ag rfl ?_;refine rgq fw [3,6,7,10,11,14,15,43,44,45,128] [6,7,701,702] ?_;refine aax rfl ?_;refine rgq fw [3,6,7,10,11,14,43,44,45,130] [6,7,701,702] ?_
      cases yes with
      | true=>
       simp only[if_true,oh]at bd;refine aax rfl ?_;have qf:=(Aq fw (Aq @cO @hi2));refine cT hK6 [3,6,7,10,11,43,44,45] [6,7,701,702] ?_;refine bO fw ?_;(try simp only[aM,aP]);refine aV.mk (n+1) (by omega) (by omega) ?_;rw[bd];refine aB.dK (fun _ _=>trivial) (by simp[ab,List.map_set]) (by simp[ab,List.map_set])
      | false=>
       simp only[Bool.false_eq_true,if_false]at bd;refine ag rfl ?_;refine ah ?_;refine hK6 _ (AW.norm [3,6,7,10,11,43,44,45] [6,7,701,702] (fun _ _=>trivial) (AW.st (by simp[ab];rfl) ?_));refine bO fw ?_;(try simp only[aM,aP]);refine aV.mk (n+1) (by omega) (by omega) ?_;rw[bd];refine aB.dK (fun _ _=>trivial) (by simp[ab,List.map_set]) (by simp[ab,List.map_set])
    .have ju:¬ (n:Int) < (RR.length:Int):=by omega
     have aO:n=p.aaw.length:=by omega
     refine ag (by simp;omega) ?_;refine bG (hK4 _ ?_)
     have vQ:T p.aaw.length=⟨I,C⟩:=by rw[<- aO];exact PA
     refine rgq fw [6] [6,7,701,702] ?_;exact aG (Aq fw @vQ)
theorem Xj {p:PgP} (aN:cf p=none) (hk:∀ r∈p.aaw,acZ r):xO p:=by
 have hg:=fB aN;have dX:=hg.names;have hrn:=hg.aaw;refine⟨by omega,by omega,fun n hn=>?_,fun r hr e he=>?_⟩
 .have:=UY (hg.name n hn).1;omega
 .obtain⟨e',gV,_,_,hb⟩:=hk r hr;rw[he]at gV;obtain rfl:=Option.some.inj gV;have h1:=Lib.compact_length_le (jW (ck true e));have h2:=adM (ck true e);have h3:=sB true e;refine⟨by omega,?_⟩;unfold du;omega
def inB (x:Int) (k:Nat):Bool:=adF .and .i64 (x.fdiv (2 ^ (min k IntKind.i64.bits))) 1 == 1
def aaY (x:Int):Nat->List Bool
 | 0=>[]
 | k+1=>aaY x k ++ [inB x k]
theorem nW (x:Int):∀ k,(aaY x k).length=k
 | 0=>rfl
 | k+1=>by rw[aaY,List.length_append,nW x k];rfl
def sI (t:Tx):Option PgP:=if 1500 < t.length then none else match gD t with
 | (none,p)=>some p
 | (some _,_)=>none
theorem J8 {t:Tx} {p:PgP} (h:sI t=some p):gD t=(none,p):=by
 unfold sI at h;split at h
 .cases h
 .split at h
  .rename_i q hq;obtain rfl:=Option.some.inj h;exact hq
  .cases h
def aev:Option PgP->D
 | none=>.tup [dPg ⟨[],[]⟩,cE ⟨[],[]⟩,.v (.bool false)]
 | some p=>.tup [dPg p,cE p,.v (.bool true)]
theorem Bp:dPg ⟨[],[]⟩ = .agg [.sl none [],.sl none []]:=rfl
theorem Bq:cE ⟨[],[]⟩ = .agg [.sl none [],.sl none []]:=rfl
structure fh where
 nm:Nat
 most:Int
 far:Bool
def gS (p:PgP) (n:eM):Bool:=p.aaw.any (ac3 n.name)
def partOf (n:eM) (ed:Bool) (i:Nat):List fh:=if n.kind=2\/(n.kind=1/\ed=true) then [⟨i,2,false⟩] else if n.kind≠1 then [⟨i,n.count+1,true⟩] else []
def eb (p:PgP):Nat->List fh
 | 0=>[]
 | i+1=>eb p i ++ partOf (p.names.getD i ⟨[],0,0⟩) (gS p (p.names.getD i ⟨[],0,0⟩)) i
def bh (p:PgP):List fh:=eb p p.names.length
theorem xe {p:PgP} {i:Nat} (h:i < p.names.length):eb p (i+1)=eb p i ++ partOf p.names[i] (gS p p.names[i]) i:=by
 rw[eb,fj h]
def bq:List fh->Int
 | []=>1
 | x :: l=>x.most * bq l
def kz (x:fh) (s:StP):Int:=if x.far then s.ct.getD x.nm 0 else if s.is.getD x.nm false then 1 else 0
def nrP:List fh->StP->Int
 | [],_=>0
 | x :: l,s=>kz x s+x.most * nrP l s
def acp (x:fh) (k:Int) (s:StP):StP:=if x.far then ⟨s.is.set x.nm (decide (k=x.most - 1)),s.ct.set x.nm k⟩ else ⟨s.is.set x.nm (decide (k=1)),s.ct⟩
def stN:List fh->Int->StP->StP
 | [],_,s=>s
 | x :: l,n,s=>stN l (n / x.most) (acp x (n % x.most) s)
structure pJ (p:PgP) (x:fh):Prop where
 lt:x.nm < p.names.length
 fa:x.far=true->3<=p.names[x.nm].kind/\x.most=p.names[x.nm].count+1
 ne:x.far=false->x.most=2/\p.names[x.nm].kind < 3
 m2:2<=x.most
 m8:x.most<=8
theorem Ec {n:eM} {ed:Bool} {i:Nat} {x:fh} (h:x∈partOf n ed i):x.nm=i/\((x.far=false/\x.most=2/\(n.kind=2\/(n.kind=1/\ed=true)))\/(x.far=true/\x.most=n.count+1/\n.kind≠1/\n.kind≠2)):=by
 unfold partOf at h;split at h
 .rename_i h1;rw[List.mem_singleton]at h;subst h;exact⟨rfl,.inl ⟨rfl,rfl,h1⟩⟩
 .rename_i h1;split at h
  .rename_i h2;rw[List.mem_singleton]at h;subst h;exact⟨rfl,.inr ⟨rfl,rfl,h2,fun e=>h1 (.inl e)⟩⟩
  .cases h
theorem Ed {p:PgP} {x:fh}:∀ {n:Nat},n<=p.names.length->(x∈eb p n↔∃ i,∃ hi:i < p.names.length,i < n/\x∈partOf p.names[i] (gS p p.names[i]) i)
 | 0,_=>by simp[eb]
 | n+1,hn=>by
  rw[xe (by omega),List.mem_append,Ed (by omega)];constructor
  .rintro (⟨i,hi,h1,h2⟩ | h)
   .exact⟨i,hi,by omega,h2⟩
   .exact⟨n,by omega,by omega,h⟩
  .rintro⟨i,hi,h1,h2⟩;by_cases e:i=n
   .subst e;exact .inr h2
   .exact .inl ⟨i,hi,by omega,h2⟩
theorem nu {p:PgP} (hg:abT p) {x:fh} (h:x∈bh p):pJ p x:=by
 obtain⟨i,hi,_,h2⟩:=(Ed (Nat.le_refl _)).1 h;obtain⟨rfl,h3⟩:=Ec h2;have h4:=hg.name _ (List.getElem_mem hi);have h5:=hg.count _ (List.getElem_mem hi)
 rcases h3 with⟨e1,e2,e3⟩ | ⟨e1,e2,e3,e4⟩
 .exact⟨hi,(fun h=>by rw[e1]at h;cases h),fun _=>⟨e2,by omega⟩,by omega,by omega⟩
 .exact⟨hi,fun _=>⟨by omega,e2⟩,(fun h=>by rw[e1]at h;cases h),by omega,by omega⟩
theorem JO (p:PgP):∀ {n:Nat},n<=p.names.length->(eb p n).Pairwise (fun x y=>x.nm < y.nm)
 | 0,_=>by simp[eb]
 | n+1,hn=>by
  rw[xe (by omega),List.pairwise_append];refine⟨JO p (by omega),by unfold partOf;split<;>(try split)<;>simp,fun a ha b hb=>?_⟩;obtain⟨i,_,hi,h1⟩:=(Ed (by omega)).1 ha;have:=(Ec h1).1;have:=(Ec hb).1;omega
theorem uL (p:PgP):∀ n,(eb p n).length<=n
 | 0=>Nat.le_refl _
 | n+1=>by
  have:=uL p n;rw[eb,List.length_append];unfold partOf;split<;>(try split)<;>simp<;>omega
theorem px {l:List fh} (h:∀ x∈l,2<=x.most):0 < bq l:=by
 induction l with
 | nil=>decide
 | cons x l ih=>
  have h1:=ih fun y hy=>h y (by simp[hy]);have h2:=h x (by simp);exact Int.mul_pos (by omega) h1
theorem xk:∀ (a b:List fh),bq (a ++ b)=bq a * bq b
 | [],b=>by simp[bq]
 | x :: a,b=>by rw[List.cons_append,bq,bq,xk a b,Int.mul_assoc]
theorem VR {l:List fh} {k:Nat} (h:k < l.length):bq (l.take (k+1))=bq (l.take k) * l[k].most:=by
 rw[List.take_succ_eq_append_getElem h,xk];simp[bq]
theorem VQ {l:List fh} (h:∀ x∈l,2<=x.most):∀ k,bq (l.take k)<=bq l:=by
 intro k
 have e:bq l=bq (l.take k) * bq (l.drop k):=by rw[<- xk,List.take_append_drop]
 have h1:0 < bq (l.take k):=px fun x hx=>h x (List.mem_of_mem_take hx);have h2:0 < bq (l.drop k):=px fun x hx=>h x (List.mem_of_mem_drop hx);rw[e];have:=Int.mul_le_mul_of_nonneg_left (show (1:Int)<=bq (l.drop k) by omega) (Int.le_of_lt h1);omega
theorem Bs {p:PgP} {s:StP} (hs:abr p s) {x:fh} (hx:pJ p x):0<=kz x s/\kz x s < x.most:=by
 unfold kz
 cases hf:x.far with
 | true=>
  have h1:=hs.lo x.nm;have h2:=hs.hi x.nm hx.lt;have h3:=(hx.fa hf).2;simp only[if_true];omega
 | false=>
  have:=(hx.ne hf).1;simp only[Bool.false_eq_true,if_false];split<;>omega
theorem w6 {l:List fh} {s:StP} (h:∀ x∈l,0<=kz x s/\kz x s < x.most):0<=nrP l s/\nrP l s < bq l:=by
 induction l with
 | nil=>exact⟨Int.le_refl 0,(by decide:(0:Int) < 1)⟩
 | cons x l ih=>
  have h1:=ih fun y hy=>h y (by simp[hy]);have h2:=h x (by simp);rw[nrP,bq];have h3:0<=x.most * nrP l s:=Int.mul_nonneg (by omega) h1.1;have h4:x.most * (nrP l s+1)<=x.most * bq l:=Int.mul_le_mul_of_nonneg_left (by omega) (by omega);rw[Int.mul_add,Int.mul_one]at h4;omega
theorem VX (x:fh) (k:Int) (s:StP):(acp x k s).is.length=s.is.length/\(acp x k s).ct.length=s.ct.length:=by
 unfold acp;split<;>simp
theorem VY {x:fh} {k:Int} {s:StP} {i:Nat} (h:x.nm≠i):(acp x k s).is.getD i false=s.is.getD i false/\(acp x k s).ct.getD i 0=s.ct.getD i 0:=by
 unfold acp;split
 .exact⟨fT h,fT h⟩
 .exact⟨fT h,rfl⟩
theorem afV:∀ {l:List fh} {n:Int} {s:StP} {i:Nat},(∀ x∈l,x.nm≠i)->(stN l n s).is.getD i false=s.is.getD i false/\(stN l n s).ct.getD i 0=s.ct.getD i 0
 | [],_,_,_,_=>⟨rfl,rfl⟩
 | x :: l,n,s,i,h=>by
  have h1:=afV (l:=l) (n:=n / x.most) (s:=acp x (n % x.most) s) fun y hy=>h y (by simp[hy]);have h2:=VY (k:=n % x.most) (s:=s) (h x (by simp));exact⟨h1.1.trans h2.1,h1.2.trans h2.2⟩
def A6 (x:fh) (d:Int) (s t:StP):Prop:=t.is.getD x.nm false=(if x.far then decide (d=x.most - 1) else decide (d=1))/\t.ct.getD x.nm 0=(if x.far then d else s.ct.getD x.nm 0)
theorem VU {x:fh} {d:Int} {s:StP} (h1:x.nm < s.is.length) (h2:x.nm < s.ct.length):A6 x d s (acp x d s):=by
 unfold A6 acp
 cases x.far with
 | true=>exact⟨iM h1,iM h2⟩
 | false=>exact⟨iM h1,rfl⟩
theorem NM {x:fh} {d:Int} {s t:StP} (h:A6 x d s t) (h2:x.far=false->x.most=2) (h0:0<=d) (h1:d < x.most):kz x t=d:=by
 obtain⟨a1,a2⟩:=h;unfold kz;rw[a1,a2]
 cases hf:x.far with
 | true=>rfl
 | false=>
  have:=h2 hf;simp only[Bool.false_eq_true,if_false];by_cases e:d=1
  .rw[if_pos (by simpa using e)];exact e.symm
  .rw[if_neg (by simpa using e)];omega
theorem afU:∀ {l:List fh} {n:Int} {s:StP},l.Pairwise (fun x y=>x.nm < y.nm)->(∀ x∈l,x.nm < s.is.length/\x.nm < s.ct.length/\2<=x.most/\(x.far=false->x.most=2))->0<=n->n < bq l->nrP l (stN l n s)=n
 | [],n,s,_,_,h0,h1=>by
  have:n < 1:=h1;rw[nrP];omega
 | x :: l,n,s,hp,hl,h0,h1=>by
  obtain⟨eh,hp2⟩:=List.pairwise_cons.1 hp;have hx:=hl x (by simp);have de:=VX x (n % x.most) s;have lO:0<=n % x.most:=Int.emod_nonneg _ (by omega);have o6:n % x.most < x.most:=Int.emod_lt_of_pos _ (by omega);rw[bq,Int.mul_comm]at h1;rw[stN,nrP,afU hp2 (fun z hz=>by rw[de.1,de.2];exact hl z (by simp[hz])) (Int.ediv_nonneg h0 (by omega)) (Int.ediv_lt_of_lt_mul (by omega) h1)]
  have h2:=afV (l:=l) (n:=n / x.most) (s:=acp x (n % x.most) s) (i:=x.nm) fun z hz=>by have:=eh z hz;omega
  have h3:=VU (x:=x) (d:=n % x.most) hx.1 hx.2.1;rw[NM (t:=stN l (n / x.most) (acp x (n % x.most) s)) (s:=s) ⟨h2.1.trans h3.1,h2.2.trans h3.2⟩ hx.2.2.2 lO o6];exact Int.emod_add_mul_ediv n x.most
def stP (p:PgP) (n:Int):StP:=stN (bh p) n (fP p)
theorem VW {p:PgP} {x:fh} (hx:pJ p x) {s:StP} (hs:abr p s) {d:Int} (h0:0<=d) (h1:d < x.most):abr p (acp x d s):=by
 have ay:=hx.lt;unfold acp
 cases hf:x.far with
 | false=>
  simp only[Bool.false_eq_true,if_false];exact ae6 hs ay (hx.ne hf).2 _
 | true=>
  have Zg:=(hx.fa hf).2;simp only[if_true];refine⟨by simp[hs.l1],by simp[hs.l2],fun k=>?_,fun k hk=>?_,fun k hk h3=>?_⟩
  .show 0<=(s.ct.set x.nm d).getD k 0;by_cases e:x.nm=k
   .subst e;rw[iM (by rw[hs.l2];exact ay)];exact h0
   .rw[fT e];exact hs.lo k
  .show (s.ct.set x.nm d).getD k 0<=_;by_cases e:x.nm=k
   .subst e;rw[iM (by rw[hs.l2];exact ay)];omega
   .rw[fT e];exact hs.hi k hk
  .show (s.is.set x.nm _).getD k false=decide ((s.ct.set x.nm d).getD k 0=_);by_cases e:x.nm=k
   .subst e;rw[iM (by rw[hs.l1];exact ay),iM (by rw[hs.l2];exact ay)];congr 1;exact propext ⟨fun h=>by omega,fun h=>by omega⟩
   .rw[fT e,fT e];exact hs.at' k hk h3
theorem afT {p:PgP}:∀ {l:List fh} {n:Int} {s:StP},(∀ x∈l,pJ p x)->abr p s->abr p (stN l n s)
 | [],_,_,_,hs=>hs
 | x :: l,n,s,hl,hs=>by
  have hx:=hl x (by simp);have:=hx.m2;rw[stN];exact afT (fun y hy=>hl y (by simp[hy])) (VW hx hs (Int.emod_nonneg _ (by omega)) (Int.emod_lt_of_pos _ (by omega)))
theorem lz {p:PgP} (hc:cf p=none) (n:Int):abr p (stP p n):=afT (fun _ hx=>nu (fB hc) hx) (Xt (fB hc))
theorem VC {p:PgP} (hc:cf p=none):∀ x∈bh p,x.nm < (fP p).is.length/\x.nm < (fP p).ct.length/\2<=x.most/\(x.far=false->x.most=2):=fun x hx=>by
 have h:=nu (fB hc) hx;exact⟨by simpa[fP]using h.lt,by simpa[fP]using h.lt,h.m2,fun hf=>(h.ne hf).1⟩
theorem Vb {p:PgP} (hc:cf p=none) {n:Int} (h0:0<=n) (h1:n < bq (bh p)):nrP (bh p) (stP p n)=n:=
 afU (JO p (Nat.le_refl _)) (VC hc) h0 h1
theorem Ox {α:Type} {d:α}:∀ {a b:List α},a.length=b.length->(∀ i,i < a.length->a.getD i d=b.getD i d)->a=b:=fun {a b} hl h=>by
 refine List.ext_getElem hl fun i h1 h2=>?_;have:=h i h1
 rwa [fj h1,fj h2]at this
def adj (p:PgP) (m:Nat) (s:Nat):List Int:=(List.range (2 ^ m)).map fun i:Nat=>nrP (bh p) (jF p (stP p s) (aaY (i:Int) m))
def gO (p:PgP):List (List Int):=(List.range (bq (bh p)).toNat).map (adj p (aQ p).length)
theorem Jp (p:PgP):(gO p).length=(bq (bh p)).toNat:=by simp[gO]
theorem Eu (p:PgP) (m s:Nat):(adj p m s).length=2 ^ m:=by simp[adj]
theorem U5 {p:PgP} {s:Nat} (h:s < (gO p).length):(gO p)[s]=adj p (aQ p).length s:=by simp[gO]
theorem WJ {p:PgP} {m s i:Nat} (h:i < (adj p m s).length):(adj p m s)[i]=nrP (bh p) (jF p (stP p s) (aaY i m)):=by simp[adj]
def b8 (p:PgP) (n:eM):Int:=if 3<=n.kind then n.count+1 else if n.kind=2 then 2 else if n.kind=1/\gS p n=true then 2 else 0
def dk (p:PgP):List Int:=p.names.map (b8 p)
theorem Eb {p:PgP} (hg:abT p) {i:Nat} (hi:i < p.names.length):partOf p.names[i] (gS p p.names[i]) i=if b8 p p.names[i]=0 then [] else [⟨i,b8 p p.names[i],decide (3<=p.names[i].kind)⟩]:=by
 have h4:=hg.name _ (List.getElem_mem hi);have h5:=hg.count _ (List.getElem_mem hi);generalize p.names[i]=n at h4 h5 ⊢;unfold partOf b8;by_cases k3:3<=n.kind
 .have n2:¬ (n.kind=2\/n.kind=1/\gS p n=true):=by omega
  have n1:n.kind≠1:=by omega
  have n0:¬ n.count+1=0:=by omega
  rw[if_neg n2,if_pos n1,if_pos k3,if_neg n0];simp[k3]
 .by_cases k2:n.kind=2
  .rw[if_pos (.inl k2),if_neg k3,if_pos k2];simp[k3]
  .have k1:n.kind=1:=by omega
   rw[if_neg k3,if_neg k2];by_cases he:gS p n=true
   .have e3:n.kind=1/\gS p n=true:=⟨k1,he⟩;have e2:n.kind=2\/n.kind=1/\gS p n=true:=.inr e3;rw[if_pos e2,if_pos e3];simp[k3]
   .have e1:¬ (n.kind=2\/n.kind=1/\gS p n=true):=fun h=>h.elim k2 fun h=>he h.2;have e2:¬ (n.kind=1/\gS p n=true):=fun h=>he h.2;rw[if_neg e1,if_neg (fun h=>h k1),if_neg e2,if_pos rfl]
theorem JP (p:PgP) (n:Nat):∀ d,∃ R,eb p (n+d)=eb p n ++ R
 | 0=>⟨[],by simp⟩
 | d+1=>by
  obtain⟨R,h⟩:=JP p n d;rw[<- Nat.add_assoc,eb,h];exact⟨_,List.append_assoc _ _ _⟩
def abQ (p:PgP) (i:Nat):List fh:=(bh p).drop (eb p i).length
theorem Xc (p:PgP):abQ p 0=bh p:=rfl
theorem KT (p:PgP):abQ p p.names.length=[]:=List.drop_eq_nil_of_le (Nat.le_refl _)
theorem KW {p:PgP} {i:Nat} (hi:i < p.names.length):abQ p i=partOf p.names[i] (gS p p.names[i]) i ++ abQ p (i+1):=by
 obtain⟨R,h⟩:=JP p (i+1) (p.names.length - (i+1));rw[show i+1+(p.names.length - (i+1))=p.names.length by omega]at h;have e:bh p=eb p (i+1) ++ R:=h
 have e1:abQ p (i+1)=R:=by
  unfold abQ;rw[e,List.drop_left]
 have e2:eb p (i+1)=eb p i ++ partOf p.names[i] (gS p p.names[i]) i:=xe hi;rw[e1];unfold abQ;rw[e,e2,List.append_assoc,List.drop_left]
theorem KU {p:PgP} {i:Nat} {x:fh} (h:x∈abQ p i):x∈bh p:=List.mem_of_mem_drop h
theorem KV {p:PgP} (hg:abT p) (s:StP) {i:Nat} (hi:i < p.names.length):nrP (abQ p i) s=if b8 p p.names[i]=0 then nrP (abQ p (i+1)) s else (if 3<=p.names[i].kind then s.ct.getD i 0 else if s.is.getD i false then 1 else 0)+b8 p p.names[i] * nrP (abQ p (i+1)) s:=by
 rw[KW hi,Eb hg hi];by_cases h:b8 p p.names[i]=0
 .rw[if_pos h,if_pos h,List.nil_append]
 .rw[if_neg h,if_neg h,List.singleton_append,nrP];congr 1;unfold kz;by_cases k3:3<=p.names[i].kind
  .simp[k3]
  .simp[k3]
theorem VP {p:PgP} (hg:abT p) {i:Nat} (hi:i < p.names.length):bq (eb p (i+1))=if b8 p p.names[i]=0 then bq (eb p i) else bq (eb p i) * b8 p p.names[i]:=by
 rw[xe hi,xk,Eb hg hi];by_cases h:b8 p p.names[i]=0
 .rw[if_pos h,if_pos h];simp[bq]
 .rw[if_neg h,if_neg h];simp[bq]
theorem Xs {p:PgP} (hg:abT p) (n:Int) (s:StP) {i:Nat} (hi:i < p.names.length):stN (abQ p i) n s=if b8 p p.names[i]=0 then stN (abQ p (i+1)) n s else stN (abQ p (i+1)) (n / b8 p p.names[i]) (acp ⟨i,b8 p p.names[i],decide (3<=p.names[i].kind)⟩ (n % b8 p p.names[i]) s):=by
 rw[KW hi,Eb hg hi];by_cases h:b8 p p.names[i]=0
 .rw[if_pos h,if_pos h,List.nil_append]
 .rw[if_neg h,if_neg h,List.singleton_append,stN]
