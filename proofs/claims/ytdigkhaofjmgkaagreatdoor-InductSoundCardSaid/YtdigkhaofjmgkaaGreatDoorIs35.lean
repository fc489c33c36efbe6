/- Parts. -/
import Derived.Test.YtdigkhaofjmgkaaGreatDoorIs23
import Derived.Test.YtdigkhaofjmgkaaGreatDoorIs28
import Derived.Test.YtdigkhaofjmgkaaGreatDoorIs34
import Derived.Ground.Names8Prog
import Derived.Shelf.Spec.SlicesGrow
set_option linter.unusedSectionVars false
set_option linter.unusedSimpArgs false
set_option linter.unusedVariables false
set_option maxHeartbeats 32000000
set_option maxRecDepth 100000
open Go.Proofs.Tryz
namespace Go.Proofs
open Go.Shelf
def Tryz.Nd:Go.Shelf.Ren:=⟨fun | 4=>178 | n=>n,fun | 22=>46 | 25=>3 | 3=>3 | 4=>4 | 9=>9 | 20=>20 | 0=>0 | n=>n,fun | n=>n⟩
theorem Tryz.Nc:Go.Proofs.Lays8.n4 prog Tryz.Nd:={
 mixed:=by kernel_rfl
 f4:=⟨Tryz.f178.name,by decide,func178.trans (congrArg some (by kernel_rfl))⟩
 t0:=underlying0
 a0:=isAgg0
 z0:=sizeOf0
 v0:=zeroValue0
 t3:=underlying3
 a3:=isAgg3
 z3:=sizeOf3
 v3:=zeroValue3
 t4:=underlying4
 a4:=isAgg4
 z4:=sizeOf4
 v4:=zeroValue4
 t9:=underlying9
 a9:=isAgg9
 z9:=sizeOf9
 v9:=zeroValue9
 t20:=underlying20
 a20:=isAgg20
 z20:=sizeOf20
 v20:=zeroValue20
 t22:=underlying46
 a22:=isAgg46
 z22:=sizeOf46
 v22:=zeroValue46 }
end Go.Proofs
namespace Go.Proofs.YtdigkhaofjmgkaaGreatDoor
open Go.Av Go.Shelf Go.RowKit
theorem VK (n G:Nat) (h:n<=G):(([]:List Value).toArray ++ Builtin.zeroCells (Value.int .i64 0).cells (0+n - 0) ++ Builtin.zeroCells (Value.int .i64 0).cells (G - (0+n))).size=G:=by
 simp[size_zeroCells,Value.cells];omega
theorem Ng (G:YI) (n:Nat) (hn:n<=2^40):MC prog G [] 178 [.d (.sl (some false) []),.d (YG n)] (YH []) (.own 900 0 0) (YH [(900,.sl 3 1 [])]):=by
 refine⟨fo.of func178 rfl rfl,fun X w μ vs hs Y7 aK hv=>?_⟩
 obtain⟨a,b,rfl⟩:∃ a b,vs = #[a,b]:=by
  match vs,aK with
  | ⟨[a,b]⟩,_=>exact⟨a,b,rfl⟩
 obtain rfl:a = .slice none 0 0:=by
  rcases (hv 0 a _ rfl rfl).data.lh with⟨rfl,_⟩ | ⟨_,_,_,hk,_⟩
  .rfl
  .exact absurd rfl hk
 obtain rfl:b = .int .i64 n:=(hv 1 b _ rfl rfl).scalar;have hL:=Tryz.Nc;have ax:In w X G μ ⟨0,[],none⟩ { tmps:=#[],defers:=[] } ⟨fun _=>none,YH []⟩:=⟨hs,⟨rfl,rfl,fun i x h=>by cases h⟩,Y7⟩
 have hH:∀ row,aF (YH []) 900 row=YH [(900,row)]:=fun row=>by
  funext q;by_cases h:q=900
  .subst h;rfl
  .have hq:(q == 900)=false:=by simpa using h
   simp only[aF,if_neg h,YH,List.lookup,hq]
 by_cases h0:n=0
 .subst h0;refine (Any8.slices_Grow_room hL none 0 0 0 w (by omega) (by omega) (by omega) (by omega)).mono fun e w' ⟨he,hw⟩=>?_;subst hw;obtain⟨h1,ev⟩:=ax.alloc (Mv:=eS []) (w':=w') (m:=⟨none,1,0⟩) (d:=900) rfl (bT.refl _) (by simp) (row:=.sl 3 1 []) fun _=>.nil rfl rfl;have h2:=h1.aL;dsimp only at h2;rw[hH]at h2;exact⟨_,_,_,_,he,⟨rfl,rfl⟩,.own (m:=⟨none,1,0⟩) (by simp[Zc]) (.inl ⟨rfl,rfl,rfl,rfl⟩),h2,ev⟩
 .obtain⟨i0,hi,ik,rK,BG⟩:=info_parts (P:=prog) (e:=3) (z:=.int .i64 0) (size:=1) (bytes:=8) (by kernel_rfl);refine (Any8.slices_Grow_grow hL i0 (.int .i64 0) hi ik (by omega) none 0 0 n [] w (by omega) (by omega) (by rw[BG];omega) (by omega) (by simp) (fun _=>rfl) (fun a e=>by cases e)).mono fun e w' ⟨he,hw⟩=>?_
  have mi:n<=grownCap w (0+n) 0 3:=by have:=grownCap_ge w (0+n) 0 3;omega
  have hle:grownCap w (0+n) 0 3<=maxLen:=grownCap_le_maxLen w (0+n) 0 3 (by unfold maxLen;omega);have he:e = .returned (.slice (some ⟨w.heap.size,0,none⟩) 0 (grownCap w (0+n) 0 3)):=he;have hw:w'=w.drew.alloc (.cells (([]:List Value).toArray ++ Builtin.zeroCells (Value.int .i64 0).cells (0+n - 0) ++ Builtin.zeroCells (Value.int .i64 0).cells (grownCap w (0+n) 0 3 - (0+n))) 3):=hw;have aK:=VK n (grownCap w (0+n) 0 3) mi;generalize grownCap w (0+n) 0 3=C at he hw mi hle aK;generalize (([]:List Value).toArray ++ Builtin.zeroCells (Value.int .i64 0).cells (0+n - 0) ++ Builtin.zeroCells (Value.int .i64 0).cells (C - (0+n)))=Z at hw aK;subst hw;have g1:=bT.drew w;have g2:=bT.alloc w.drew (.cells Z 3);have hg:bT w (w.drew.alloc (.cells Z 3)):=⟨Nat.le_trans g1.size g2.size,g2.os.trans g1.os,g2.tape.trans g1.tape,g2.output.trans g1.output,fun b hb=>(g2.same b (Nat.lt_of_lt_of_le hb g1.size)).trans (g1.same b hb)⟩;have iJ:(w.drew.alloc (.cells Z 3)).heap[w.heap.size]? = some (.cells Z 3 (0,0)):=heap_alloc_new w.drew _
  obtain⟨h1,ev⟩:=ax.alloc (Mv:=eS []) (w':=w.drew.alloc (.cells Z 3)) (m:=⟨some w.heap.size,1,C⟩) (d:=900) rfl hg (by rintro b h;injection h with h;omega) (row:=.sl 3 1 []) fun _=>
   .sl (b:=w.heap.size) rfl rfl iJ (by simpa using aK) (by simp) hle (by simp) (by omega) (by simp)
  have h2:=h1.aL;dsimp only at h2;rw[hH]at h2;exact⟨_,_,_,_,he,⟨rfl,rfl⟩,.own (m:=⟨some w.heap.size,1,C⟩) (by simp[Zc]) (.inr ⟨_,rfl,by simp,by simp⟩),h2,ev⟩
def cW (l:List Nat):List (List D):=l.map fun (n:Nat)=>[YG (n:Int)]
theorem Mk (a b:List Nat):cW (a ++ b)=cW a ++ cW b:=by unfold cW;rw[List.map_append]
def gv {α:Type} (a b c:α):Nat->α
 | 0=>a
 | 1=>b
 | _=>c
theorem L2 (G:YI) (a b:List Nat) (ha:a.length<=2^30) (hb:b.length<=2^30):aq prog G 123 [.sl none [[.sl none (cW a)],[.sl none (cW b)]]] (.sl none (cW (a ++ b))):=by
 rw[Mk];have Nu:(∀ el∈cW a,el.length=1)=True:=eq_true (by simp[cW]);have wm:(∀ el∈cW b,el.length=1)=True:=eq_true (by simp[cW]);have hA2:(∀ el∈cW a,∀ c∈el,c.one=true)=True:=eq_true (by simp[cW,YG,D.one]);have wo:(∀ el∈cW b,∀ c∈el,c.one=true)=True:=eq_true (by simp[cW,YG,D.one])
 have Fe:(cW a).length<=2^30:=by simpa[cW]using ha
 have gV:(cW b).length<=2^30:=by simpa[cW]using hb
 generalize cW a=A at *;generalize cW b=B at *;have gX:=Ng G (A.length+B.length) (by omega);simp only[YG]at gX;refine aq.aI (aw _) func123 rfl rfl (rs:=[.tmp 2]) results123 (by simp[ntmps123]) fun X=>?_;simp only[ntmps123,List.map];have fw:=@YG.eq_1;refine ab fw [0] [] ?_;refine ab fw [0,3] [] ?_;refine ae fun K1 ay=>?_;refine ab fw [0,3,9,10,11] [] ?_;refine Zb (S:=Nat) (fun n=>n<=2) (fun n=>⟨aZ [(0,.d (.sl none [[.sl none A],[.sl none B]])),(3,int (gv 0 (A.length:Int) ((A.length:Int)+B.length) n)),(9,.d (.sl none [[.sl none A],[.sl none B]])),(10,int 2),(11,int n)],YH []⟩) (fun n=>2 - n) 0 ?_ (by omega) ?_
 .refine aC.cO (fun _ _=>trivial) (by simp[YG,gv]) (by simp[YG,gv])
 .intro n hn
  rcases (by omega:n=0\/n=1\/n=2)with rfl | rfl | rfl
  .simp only[gv];refine ab fw [0,3,9,10,11,12] [] ?_;refine ae fun K2 aa=>?_;refine YL rfl ?_;refine ao (aa _ ?_);refine ae fun K3 YS=>?_;refine YR ?_;refine ab fw [0,3,5,9,10,11] [] ?_;refine ab fw [0,3,9,10,11] [] ?_;refine ab fw [0,3,9,10,11,20] [] ?_;refine af rfl ?_;refine ao (YS _ ?_);refine cf fw ?_;(try simp only[YO,bd]);refine bn.mk 1 (by omega) (by omega) ?_;refine aC.cO (fun _ _=>trivial) (by simp[YG,gv]) (by simp[YG,gv])
  .simp only[gv];refine ab fw [0,3,9,10,11,12] [] ?_;refine ae fun K2 aa=>?_;refine YL rfl ?_;refine ao (aa _ ?_);refine ae fun K3 YS=>?_;refine YR ?_;refine ab fw [0,3,5,9,10,11] [] ?_;refine ab fw [0,3,9,10,11] [] ?_;refine ab fw [0,3,9,10,11,20] [] ?_;refine af rfl ?_;refine ao (YS _ ?_);refine cf fw ?_;(try simp only[YO,bd]);refine bn.mk 2 (by omega) (by omega) ?_;refine aC.cO (fun _ _=>trivial) (by simp[YG,gv]) (by simp[YG,gv])
  .simp only[gv];refine ab fw [0,3,9,10,11,12] [] ?_;refine ae fun K2 aa=>?_;refine af rfl ?_;refine bY (ay _ ?_);refine YT fw gX [0,6] [900] ?_;refine ae fun K4 Y4=>?_;refine ab fw [6,25,26,27] [900] ?_;refine Zb (S:=Nat) (fun n=>n<=2) (fun n=>⟨aZ [(6,.own 900 0 (gv 0 A.length (A.length+B.length) n)),(25,.d (.sl none [[.sl none A],[.sl none B]])),(26,int 2),(27,int n)],YH [(900,.sl 3 1 (gv [] A (A ++ B) n))]⟩) (fun n=>2 - n) 0 ?_ (by omega) ?_
   .refine aC.cO (fun _ _=>trivial) (by simp[YG,gv]) (by simp[YG,gv])
   .intro n hn
    rcases (by omega:n=0\/n=1\/n=2)with rfl | rfl | rfl
    .simp only[gv];refine ab fw [6,25,26,27,28] [900] ?_;refine ae fun K5 b8=>?_;refine YL rfl ?_;refine ao (b8 _ ?_);refine ae fun K6 dD=>?_;refine YR ?_;refine ab fw [6,8,25,26,27] [900] ?_;have qf:=(Aq fw (Aq @Nu @hA2));refine gK dD [6,25,26,27] [900] ?_;refine cf fw ?_;(try simp only[YO,bd]);refine bn.mk 1 (by omega) (by omega) ?_;refine aC.cO (fun _ _=>trivial) (by simp[YG,gv]) (by simp[YG,gv])
    .simp only[gv];refine ab fw [6,25,26,27,28] [900] ?_;refine ae fun K5 b8=>?_;refine YL rfl ?_;refine ao (b8 _ ?_);refine ae fun K6 dD=>?_;refine YR ?_;refine ab fw [6,8,25,26,27] [900] ?_;refine ff (aw _) fun K' ah=>?_;(repeat (refine aJ fun K2 aa=>?_;simp[YG,wm,wo,List.take_of_length_le];(repeat (refine⟨by omega,?_⟩));refine aa _ ?_;clear aa K2));refine YZ (ah _ ?_);clear ah K';refine dD _ (AW.norm [6,25,26,27] [900] (fun _ _=>trivial) (AW.st (by simp[YG,wm,wo,List.take_of_length_le];rfl) ?_));refine cf fw ?_;(try simp only[YO,bd]);refine bn.mk 2 (by omega) (by omega) ?_;refine aC.cO (fun _ _=>trivial) (by simp[YG,gv]) (by simp[YG,gv])
    .simp only[gv];refine ab fw [6,25,26,27,28] [900] ?_;refine ae fun K5 b8=>?_;refine af rfl ?_;refine bY (Y4 _ ?_);refine AW.imp (aC.freeze 900 trivial) ?_;refine AW.st (by simp[YG];rfl) ?_;refine ab fw [2] [] ?_;exact aV fw
end Go.Proofs.YtdigkhaofjmgkaaGreatDoor
namespace Go.Proofs.YtdigkhaofjmgkaaGreatDoor
open Go.Av
theorem Kc {P:Program} {Mv X:Nat->Prop} {G:YI} {n s:Nat} {x y:Code} {Q:Exit->St->Prop} {σ:St} (h:∀ K:St->Prop,(∀ ag,cY P Mv X G n s y Q ag->K ag)->∀ X' ds,AW P Mv X' G ⟨n,ds,none⟩ x (YO K Q) σ):cY P Mv X G n s (.seq x y) Q σ:=
 acL (vh (h _ fun _ h=>h))
theorem Kd {P:Program} {Mv X:Nat->Prop} {G:YI} {n s:Nat} {x y:Code} {Q:Exit->St->Prop} {σ:St} (h:∀ K:St->Prop,(∀ ag,cY P Mv X G n s y Q ag->K ag)->cY P Mv X G n s x (YO K Q) σ):cY P Mv X G n s (.seq x y) Q σ:=
 acL (h _ fun _ h=>h)
theorem Vg {P:Program} {Mv X:Nat->Prop} {G:YI} {N:Fr} {x y:Code} {Q:Exit->St->Prop} {σ:St} (h:∀ K:St->Prop,(∀ ag,AW P Mv X G N y Q ag->K ag)->AW P Mv X G N x (YO K (fun _ _=>False)) σ):AW P Mv X G N x (YO (AW P Mv X G N y Q) (fun _ _=>False)) σ:=
 h _ fun _ h=>h
section
variable {P:Program} {X:Nat->Prop} {G:YI} {n s:Nat} {σ τ ey:St} {p:Prop}
theorem cY.norm (l ns:List Nat) {c:Code} {Q:Exit->St->Prop} (h:cY P (fun _=>True) X G n s c Q (σ.norm l ns)):cY P (fun _=>True) X G n s c Q σ:=cY.imp (fun X' ds=>aC.norm l ns fun _ _=>trivial) h
theorem cY.st {c:Code} {Q:Exit->St->Prop} (h:σ=τ) (h':cY P (fun _=>True) X G n s c Q τ):cY P (fun _=>True) X G n s c Q σ:=h ▸ h'
theorem x9 (q:p) (l ns:List Nat) {id:Nat} {ops:Array Oper} {y:Code} {Q:Exit->St->Prop} (k:cY P (fun _=>True) X G n s y Q ey)
  (h:p->∀ (X':Nat->Prop) (ds:List Deferred) (K':St->Prop),K' τ->fH P (bX P) (fun _=>True) X' G ⟨n,ds,none⟩ ops K' ops.toList σ:=by
   intro q X' ds K' ah;repeat (refine aJ fun K2 aa=>?_;simp[q];(repeat (refine⟨by omega,?_⟩));refine aa _ ?_;clear aa K2)
   exact YZ ah)
  (hn:p->τ.norm l ns=ey:=by intro q;simp[q];rfl):cY P (fun _=>True) X G n s (.seq (.region id ops false) y) Q σ:=
 acL (vh fun X' ds=>ff (aw _) fun K hK=>h q X' ds K (hK _ (cY.norm l ns (hn q ▸ k))))
theorem VC (q:p) {fx:List Nat} {g:FuncId} {xs:List AV} {bg Zs:List (Nat×Row)} {yv:AV} (hc:MC P G fx g xs (YH bg) yv (YH Zs)) (l ns:List Nat) {id:Nat} {ops:Array Oper} {y:Code} {Q:Exit->St->Prop} (k:cY P (fun _=>True) X G n s y Q ey)
  (h:p->MC P G fx g xs (YH bg) yv (YH Zs)->∀ (X':Nat->Prop) (ds:List Deferred) (K':St->Prop),K' τ->fH P (bX P) (fun _=>True) X' G ⟨n,ds,none⟩ ops K' ops.toList σ:=by
   intro q hc X' ds K' ah;(repeat (refine aJ fun K2 aa=>?_;simp[q];(repeat (refine⟨by omega,?_⟩));refine aa _ ?_;clear aa K2));refine aJ fun K2 aa=>?_;simp[q];refine bU.mc hc (by simp[q]) (by simp[q]) (by simp[q]) (by simp[q]) ?_;simp[q];refine aa _ ?_;clear aa K2;repeat (refine aJ fun K2 aa=>?_;simp[q];(repeat (refine⟨by omega,?_⟩));refine aa _ ?_;clear aa K2)
   exact YZ ah)
  (hn:p->τ.norm l ns=ey:=by intro q;simp[q];rfl):cY P (fun _=>True) X G n s (.seq (.region id ops false) y) Q σ:=
 acL (vh fun X' ds=>ff (aw _) fun K hK=>h q hc X' ds K (hK _ (cY.norm l ns (hn q ▸ k))))
end
def rR:D:=.sl (some false) []
def o9 (NN RR NA RA:List (List D)) (pl:Int):Heap:=YH [(2,.box 25 [.d rR,.d rR]),(3,.box 36 [.d (.v .nilIface)]),(4,.box 25 [.own 801 0 NN.length,.own 802 0 RR.length]),(5,.box 46 [.own 803 0 NA.length]),(6,.box 46 [.own 804 0 RA.length]),(7,.box 3 [int pl]),(801,.sl 132 3 NN),(802,.sl 217 3 RR),(803,.sl 3 1 NA),(804,.sl 3 1 RA)]
theorem Mi (c:Option Ex):(dC c).one=true:=by
 cases c with
 | none=>rfl
 | some e=>obtain⟨a,b,h⟩:=dX e;rw[dC,h];rfl
theorem M6 (l:List Nat) (i:Nat) (h:i < l.length):(cW l)[i]? = some [YG ((l.getD i 0:Nat):Int)]:=by
 rw[List.getD_eq_getElem?_getD];unfold cW;simp[h]
theorem LM {p:YM} {c:Int} {i:Nat} (h:Y3 p=some (c,some i)):i < p.names.length+p.ar.length:=by
 unfold Y3 at h;split at h
 .cases h
 .split at h
  .rename_i e k hf;have:=zM hf;simp only[Option.some.injEq,Prod.mk.injEq]at h;omega
  .split at h
   .rename_i e k hf;have:=zM hf;simp only[Option.some.injEq,Prod.mk.injEq]at h;omega
   .cases h
theorem Jl {k:Int} {nm hd rest:Tx} {c:Int} {off:Nat} (h:jW k nm hd rest = .bad c off):off<=hd.length+1+rest.length:=by
 unfold jW at h;split at h
 .rename_i c' o hp;simp only[l3.bad.injEq]at h
  cases o with
  | none=>simp at h;omega
  | some o=>
   have:=Cy hp;simp at h;omega
 .cases h
theorem S5 {s:Tx} {c:Int} {off:Nat} (h:gG s = .bad c off):off<=2 * s.length+1:=by
 have hle:=zk 61 s
 have nb:∀ l,il l≠.bad c off:=fun l=>by
  match l with
  | []=>simp[il]
  | [a]=>simp[il,eC]
  | [a,b]=>simp only[il,eC];split<;>simp
  | [a,b,c]=>simp only[il,eC];split<;>(try split)<;>simp
  | a :: b :: c :: d :: l=>simp[il,eC]
 unfold gG at h;split at h
 .have h2:off<=(cutAt 61 s).1.length+1+(cutAt 61 s).2.length:=by
   match hw:dW (cutAt 61 s).1,h with
   | [a],h=>exact Jl h
   | [a,b],h=>
    simp only[lf]at h;split at h
    .cases h
    .exact Jl h
  omega
 .exact absurd h (nb _)
theorem mw:(⟨#[]⟩:ByteArray)=bs []:=rfl
theorem my:(⟨#[32]⟩:ByteArray)=bs [32]:=rfl
theorem Ta (G:YI) (hM:n9 G) (hP:abH G) (hG:mO G) {es er:Value} (hE:px G es er) (t:Tx):aq prog G 60 [dS t] (.aT [cA (fV t).2,aR (fV t).1]):=by
 refine aq.TZ (aw _) func60 rfl rfl (rs:=[.cell 2 25,.cell 3 36]) results60 (by simp[ntmps60]) fun X s0=>?_;simp only[ntmps60,List.map];have fw:=(Aq @YG.eq_1 @dS.eq_1);refine x9 fw [0,2,3] [2,3] ?_;refine Kc fun K1 ay X' ds=>?_;by_cases ht:20000 < t.length
 .have qg:(t.length:Int) > 20000:=by omega
  have hp:fV t=(some (4,none),⟨[],[]⟩):=by unfold fV;rw[if_pos ht]
  have qf:=(Aq fw (Aq @bC @qg));refine aB [0,2,3,19] [2,3] ?_;refine YL (by simp[qg]) ?_;refine ab fw [2,3] [2,3] ?_;exact aV (Aq fw (Aq @hp (Aq @cA.eq_1 (Aq @cy.eq_1 (Aq @cz.eq_1 (Aq @cu.eq_1 (Aq @aR.eq_1 (Aq @aR.eq_2 @aR.eq_3))))))))
 have qg:¬ (t.length:Int) > 20000:=by omega
 have GN:=VU G t;have qf:=(Aq fw (Aq @bC @qg));refine aB [0,2,3,19] [2,3] ?_;refine af (by simp[qg]) ?_;refine ao (ay _ ?_);refine x9 fw [0,2,3,4] [2,3,4] ?_;refine x9 fw [0,2,3,4,5,6] [2,3,4,5,6] ?_;refine x9 fw [0,2,3,4,5,6,7] [2,3,4,5,6,7] ?_;refine Kd fun K5 b8=>?_;refine cY.imp (fun X' ds=>aC.pC 4 0 801 132 3 rfl rfl rfl) ?_;refine cY.st (by simp;rfl) ?_;refine cY.imp (fun X' ds=>aC.pC 4 1 802 217 3 rfl rfl rfl) ?_;refine cY.st (by simp;rfl) ?_;refine cY.imp (fun X' ds=>aC.pC 5 0 803 3 1 rfl rfl rfl) ?_;refine cY.st (by simp;rfl) ?_;refine cY.imp (fun X' ds=>aC.pC 6 0 804 3 1 rfl rfl rfl) ?_;refine cY.st (by simp;rfl) ?_;simp only[qA,uT,dS,YG]at GN;refine VC (Aq @Tc fw) GN [2,3,4,5,6,7,23] [2,3,4,5,6,7,511,512,513,801,802,803,804] ?_;refine Ka ?_;obtain⟨l,hl⟩:∃ l,l=Zk 10 t:=⟨_,rfl⟩;have Py:=Mf 10 t;rw[<- hl]at Py
 obtain⟨inv,Ph⟩:∃ f:Nat->Heap,f=fun k=>match ZD l k with
  | .inl _=>hno
  | .inr s=>o9 (s.names.map bk) (s.ar.map bF) (cW s.hU) (cW s.rAt) (Z4 l k):=⟨_,rfl⟩
 have hinv:∀ k s,ZD l k = .inr s->inv k=o9 (s.names.map bk) (s.ar.map bF) (cW s.hU) (cW s.rAt) (Z4 l k):=fun k s h=>by rw[Ph];dsimp only;rw[h]
 refine Kb (l.map fun s=>.string (bs s)) [511,512,513] [2,3,4,5,6,7] (aZ [(2,.ref 2 0 0),(3,.ref 3 0 0),(4,.ref 4 0 0),(5,.ref 5 0 0),(6,.ref 6 0 0),(7,.ref 7 0 0)]) inv (fun k=>∃ s,ZD l k = .inr s) ⟨mC,rfl⟩ (gf:=210) (caps:=[.ref 512 0 0,.ref 511 0 0,.ref 513 0 0]) (by simp) (fo.of func210 rfl rfl) (by decide) ?hIt ?he1 ?hH (fun _ _=>trivial) ?hfx ?round ?done
 case hIt=>
  intro w X μ lb hs Y7 aK oG;rw[hl];refine VH G hM t (by omega) w X μ lb ?_ Y7 aK ?_
  .simpa[qA,dS,YG]using hs
  .intro i u x hu hx;have h:=oG i u x hu hx
   match i,hx with
   | 0,hx=>obtain rfl:=Option.some.inj hx;exact h
   | 1,hx=>obtain rfl:=Option.some.inj hx;exact h
   | 2,hx=>obtain rfl:=Option.some.inj hx;exact h
 case he1=>
  intro i x hx;have h:=xG hx;simp only[List.mem_cons,List.not_mem_nil,or_false,Prod.mk.injEq]at h
  rcases h with⟨rfl,rfl⟩ | ⟨rfl,rfl⟩ | ⟨rfl,rfl⟩ | ⟨rfl,rfl⟩ | ⟨rfl,rfl⟩ | ⟨rfl,rfl⟩<;>exact⟨rfl,_,rfl,rfl⟩
 case hH=>
  rw[hinv 0 mC rfl];simp[o9,mC,cW,Ur,rR]
  try rfl
 case hfx=>
  intro q h;simp at h ⊢;omega
 case done=>
  rintro⟨s,hs⟩;rw[List.length_map]at hs ⊢;have fC:=Cx (s:=s) (by omega) (hl ▸ hs);have bp:=CE (t:=t) (by omega) (Nat.le_refl _) (hl ▸ hs);have oS:=Uv bp (by rw[<- hl];omega);have jJ:=Hp G ⟨s.names,s.ar⟩ oS;rw[hinv _ _ hs];refine b8 _ (vh fun X' ds=>?_);obtain⟨eJ,Z0,gZ,_,_⟩:=bp;rw[<- hl]at gZ
  have PW:∀ c i,Y3 ⟨s.names,s.ar⟩=some (c,some i)->i < (s.hU ++ s.rAt).length:=fun c i h=>by have:=LM h;simp at this ⊢;omega
  unfold o9;refine AW.imp (aC.freeze 801 trivial) ?_;refine AW.st (by simp[YG,dS];rfl) ?_;refine AW.imp (aC.freeze 802 trivial) ?_;refine AW.st (by simp[YG,dS];rfl) ?_;refine AW.imp (aC.freeze 803 trivial) ?_;refine AW.st (by simp[YG,dS];rfl) ?_;refine AW.imp (aC.freeze 804 trivial) ?_;refine AW.st (by simp[YG,dS];rfl) ?_;have YY:=L2 G s.hU s.rAt (by omega) (by omega);have hgd:=fun i h=>M6 (s.hU ++ s.rAt) i h;simp only[cA,cy,cz,cu]at jJ;generalize s3:s.names.map bk=NN at jJ ⊢;generalize s8:s.ar.map bF=RR at jJ ⊢;generalize cW s.hU=NA at YY ⊢;generalize cW s.rAt=RA at YY ⊢;generalize cW (s.hU ++ s.rAt)=CC at YY hgd
  cases aS:Y3 ⟨s.names,s.ar⟩ with
  | none=>
   rw[aS]at jJ fC;simp only[aR]at jJ;refine aP fw jJ [2,3,4,5,6,14] [2,3,4,5,6,7] ?_;refine ae fun K7 dY=>?_;refine ab (Aq fw (Aq @YN.eq_1 (Aq @YN.eq_2 @bG.eq_1))) [2,3,4,5,6,14,15,16] [2,3,4,5,6,7] ?_;refine ab fw [2,3,4,5,6,14,15,108] [2,3,4,5,6,7] ?_;refine af rfl ?_;refine ao (dY _ ?_);refine ae fun K8 Zl=>?_;refine ab fw [2,3,4,14,127] [2,3,4,5,6,7] ?_;refine af rfl ?_;refine ao (Zl _ ?_);refine ab fw [2,3] [2,3,4,5,6,7] ?_;exact aV (Aq fw (Aq @fC (Aq @cA.eq_1 (Aq @cy.eq_1 (Aq @cz.eq_1 (Aq @cu.eq_1 (Aq @aR.eq_1 (Aq @aR.eq_2 (Aq @aR.eq_3 (Aq @s3 @s8))))))))))
  | some ci=>
   obtain⟨c,i⟩:=ci;rw[aS]at jJ fC
   cases i with
   | none=>
    simp only[aR]at jJ;refine aP fw jJ [2,3,4,5,6,14] [2,3,4,5,6,7] ?_;refine ae fun K7 dY=>?_;refine ab (Aq fw (Aq @YN.eq_1 (Aq @YN.eq_2 @bG.eq_1))) [2,3,4,5,6,14,15,16] [2,3,4,5,6,7] ?_;refine ab fw [2,3,4,5,6,14,15,108] [2,3,4,5,6,7] ?_;refine af rfl ?_;refine ao (dY _ ?_);refine ae fun K8 Zl=>?_;refine ab fw [2,3,4,14,127] [2,3,4,5,6,7] ?_;refine YL rfl ?_;refine ab fw [2,3] [2,3,4,5,6,7] ?_;exact aV (Aq fw (Aq @fC (Aq @cA.eq_1 (Aq @cy.eq_1 (Aq @cz.eq_1 (Aq @cu.eq_1 (Aq @aR.eq_1 (Aq @aR.eq_2 @aR.eq_3))))))))
   | some i=>
    have hi:=PW c i aS;have oC:=hgd i hi;dsimp only at fC;obtain⟨eI,nw⟩:=List.getElem?_eq_some_iff.1 oC;simp only[aR]at jJ;simp only[YG]at nw;clear oC;generalize (s.hU ++ s.rAt).getD i 0=pl at nw fC;refine aP fw jJ [2,3,4,5,6,14] [2,3,4,5,6,7] ?_;refine ae fun K7 dY=>?_;refine ab (Aq fw (Aq @YN.eq_1 (Aq @YN.eq_2 @bG.eq_1))) [2,3,4,5,6,14,15,16] [2,3,4,5,6,7] ?_;refine ab fw [2,3,4,5,6,14,15,108] [2,3,4,5,6,7] ?_;refine YL rfl ?_;refine Kg (aw _) (by kernel_rfl) ([6,15]) (List.range 18) (by kernel_rfl) fun K' ah=>?_;(repeat (refine C4 rfl fun K2 aa=>?_;simp[YG,dS,eI,nw];(repeat (refine⟨by omega,?_⟩));refine aa _ ?_;clear aa K2));refine C4 rfl fun K2 aa=>?_;simp[YG,dS,eI,nw];refine kc.mk (YY) (by simp;rfl) (by simp;rfl) (by first | exact D.ba _ | simp[aQ,List.map_map,Function.comp_def,D.le,D.le.go,D.le_refl,D.ba,YG,dS,eI,nw]) (by simp) ?_;refine aa _ ?_;clear aa K2;simp only[au,cw];(repeat (refine C4 rfl fun K2 aa=>?_;simp[YG,dS,eI,nw];(repeat (refine⟨by omega,?_⟩));refine aa _ ?_;clear aa K2));refine V5 (ah _ ?_);clear ah K';refine dY _ (AW.norm [2,3,4,14] [2,3,4,5,6,7] (fun _ _=>trivial) (AW.st (by simp[YG,dS,eI,nw];rfl) ?_));refine ae fun K8 Zl=>?_;refine ab fw [2,3,4,14,127] [2,3,4,5,6,7] ?_;refine YL rfl ?_;refine ab fw [2,3] [2,3,4,5,6,7] ?_;exact aV (Aq fw (Aq @fC (Aq @cA.eq_1 (Aq @cy.eq_1 (Aq @cz.eq_1 (Aq @cu.eq_1 (Aq @aR.eq_1 (Aq @aR.eq_2 @aR.eq_3))))))))
 case round=>
  rintro X' L k hk ⟨s,hs⟩
  have ft:k < l.length:=by simpa using hk
  obtain⟨ln,hln⟩:∃ ln,ln=l[k]:=⟨_,rfl⟩;rw[hinv k s hs,show (l.map fun s=>Value.string (bs s))[k] = .string (bs ln) by simp[hln]]
  have hpb:Z4 l k+ln.length<=t.length:=by rw[hln];subst hl;exact Ip ft
  have ZB:(Z4 l (k+1):Int)=(Z4 l k:Int)+((ln.length:Int)+1):=by rw[Ir ft,<- hln];omega
  have bp:=CE (t:=t) (by omega) (Nat.le_of_lt (hl ▸ ft)) (hl ▸ hs);have tM:∀ s',aaQ s (Z4 l k) ln = .inr s'->ZD l (k+1) = .inr s':=fun s' h=>Ut ft hs (hln ▸ h);have adl:∀ c i,aaQ s (Z4 l k) ln = .inl (c,i)->fV t=(some (c,some i),⟨[],[]⟩):=fun c i h=>Ik (by omega) (hl ▸ Us ft hs (hln ▸ h));obtain⟨eJ,Z0,gZ,_,_⟩:=bp;have eA:=Wz G ln (by omega);have htw:=WC ln;have Px:=fun h=>S6 G hM hP hG hE ln (by omega) h;generalize lQ:Z4 l k=pk at *
  have Xp:(s.names.map bk).length=s.names.length:=by simp
  have Xu:(s.ar.map bF).length=s.ar.length:=by simp
  have Xq:(cW s.hU).length=s.names.length:=by simp[cW,eJ]
  have FI:(cW s.rAt).length=s.ar.length:=by simp[cW,Z0]
  generalize s3:s.names.map bk=NN at *;generalize s8:s.ar.map bF=RR at *;generalize hNA:cW s.hU=NA at *;generalize Aa:cW s.rAt=RA at *;unfold o9;refine AW.st (by simp;rfl) ?_;refine Vg fun K7 dY=>?_;refine gJ fw dY [2,3,4,5,6,7,8] [2,3,4,5,6,7,801,802,803,804] ?_;refine YR ?_;refine ae fun K8 Zl=>?_;simp only[dS]at eA;by_cases h0:dW ln=[]
  .have hz:=htw.2 h0;rw[hz]at eA
   have bA:aaQ s pk ln = .inr s:=by unfold aaQ;rw[if_pos h0]
   have hn:=tM _ bA;refine rg [2,3,4,5,6,7,8,27] [2,3,4,5,6,7,801,802,803,804] (cH rfl) fun K' ah=>?_;(repeat (refine aJ fun K2 aa=>?_;simp[YG,dS,mw,my,bH,bL];(repeat (refine⟨by omega,?_⟩));refine aa _ ?_;clear aa K2));refine aJ fun K2 aa=>?_;simp[YG,dS,mw,my,bH,bL];refine bU.data (eA) (by simp;rfl) (by first | exact D.ba _ | simp[aQ,List.map_map,Function.comp_def,D.le,D.le.go,D.le_refl,D.ba,YG,dS,mw,my,bH,bL]) ?_;refine aa _ ?_;clear aa K2;simp only[au,cw];(repeat (refine aJ fun K2 aa=>?_;simp[YG,dS,mw,my,bH,bL];(repeat (refine⟨by omega,?_⟩));refine aa _ ?_;clear aa K2));refine YZ (ah _ (AW.st (by simp[YG,dS,mw,my,bH,bL];rfl) ?_));clear ah K';refine af rfl ?_;refine ao (Zl _ ?_);have qf:=(Aq fw @bC);refine x4 ?_;(try simp only[YO,bd]);refine And.intro ⟨s,hn⟩ ?_;rw[hinv _ _ hn,ZB,s3,s8,hNA,Aa];unfold o9;refine (show aC _ _ _ _ _ ⟨aZ [],YH _⟩ from ?_);refine bz (Aq fw @ZB)
  have hz:Lib.trimB ln 32≠[]:=fun h=>h0 (htw.1 h)
  have ig:aaQ s pk ln=match gG ln with
   | .form=>.inl (3,pk)
   | .bad c off=>.inl (c,pk+off)
   | .name n=>if s.ar=[] then .inr ⟨s.names ++ [n],s.hU ++ [pk],s.ar,s.rAt⟩ else .inl (3,pk)
   | .jq r=>.inr ⟨s.names,s.hU,s.ar ++ [r],s.rAt ++ [pk]⟩:=by unfold aaQ;rw[if_neg h0];cases gG ln<;>rfl
  have hlp:=Px h0;simp only[dS]at hlp;generalize Lib.trimB ln 32=tz at eA hz;refine rg [2,3,4,5,6,7,8,27] [2,3,4,5,6,7,801,802,803,804] (cH rfl) fun K' ah=>?_;(repeat (refine aJ fun K2 aa=>?_;simp[YG,dS,mw,my,bH,bL,hz];(repeat (refine⟨by omega,?_⟩));refine aa _ ?_;clear aa K2));refine aJ fun K2 aa=>?_;simp[YG,dS,mw,my,bH,bL,hz];refine bU.data (eA) (by simp;rfl) (by first | exact D.ba _ | simp[aQ,List.map_map,Function.comp_def,D.le,D.le.go,D.le_refl,D.ba,YG,dS,mw,my,bH,bL,hz]) ?_;refine aa _ ?_;clear aa K2;simp only[au,cw];(repeat (refine aJ fun K2 aa=>?_;simp[YG,dS,mw,my,bH,bL,hz];(repeat (refine⟨by omega,?_⟩));refine aa _ ?_;clear aa K2));refine YZ (ah _ (AW.st (by simp[YG,dS,mw,my,bH,bL,hz];rfl) ?_));clear ah K';refine YL (by simp[hz]) ?_;have rz:=fun c off=>S5 (s:=ln) (c:=c) (off:=off)
  cases hlk:gG ln with
  | form=>
   rw[hlk]at hlp ig;dsimp only at ig;simp only[bN]at hlp;have hp:=adl _ _ ig;refine aP fw hlp [2,3,4,5,6,7,8,9,10,11] [2,3,4,5,6,7,801,802,803,804] ?_;refine ae fun K9 hK9=>?_;refine ab (Aq fw (Aq @YN.eq_1 (Aq @YN.eq_2 @bG.eq_1))) [2,3,4,5,6,7,8,9,10,11,12,13] [2,3,4,5,6,7,801,802,803,804] ?_;refine ab fw [2,3,4,5,6,7,8,9,10,11,12,39] [2,3,4,5,6,7,801,802,803,804] ?_;refine af rfl ?_;refine ao (hK9 _ ?_);refine YR ?_;refine ae fun qT iX=>?_;refine ab fw [2,3,4,5,6,7,8,9,10,66] [2,3,4,5,6,7,801,802,803,804] ?_;refine YL rfl ?_;refine ao (iX _ ?_);refine YL rfl ?_;refine yu (aw _) (by kernel_rfl) ([3]) ([(1,7),(5,2),(6,3)]) (List.range 7) [2,3] [2,3,4,5,6,7,801,802,803,804] (cH rfl) (by kernel_rfl) fun K' ah=>?_;(repeat (refine adu rfl fun K2 aa=>?_;simp[YG,dS];(repeat (refine⟨by omega,?_⟩));refine aa _ ?_;clear aa K2));refine C3 (ah _ ?_);refine AW.st (by simp[YG,dS];rfl) ?_;clear ah K';refine b7 (Exists.intro _ (And.intro (aC.env (by intro i x h;cases h)) ?_));simp[D.le,D.le.go,aQ,hp,cA,cy,cz,cu,aR,rR,YG]
  | bad c off=>
   rw[hlk]at hlp ig;dsimp only at ig;simp only[bN]at hlp;have hp:=adl _ _ ig;have ho:=rz c off hlk
   have bR:((pk+off:Nat):Int)=(pk:Int)+(off:Int):=by omega
   refine aP fw hlp [2,3,4,5,6,7,8,9,10,11] [2,3,4,5,6,7,801,802,803,804] ?_;refine ae fun K9 hK9=>?_;refine ab (Aq fw (Aq @YN.eq_1 (Aq @YN.eq_2 @bG.eq_1))) [2,3,4,5,6,7,8,9,10,11,12,13] [2,3,4,5,6,7,801,802,803,804] ?_;refine ab fw [2,3,4,5,6,7,8,9,10,11,12,39] [2,3,4,5,6,7,801,802,803,804] ?_;refine YL rfl ?_;refine yu (aw _) (by kernel_rfl) ([12]) ([(4,999),(5,7),(9,999),(14,2),(15,3)]) (List.range 16) [2,3] [2,3,4,5,6,7,801,802,803,804] (cH rfl) (by kernel_rfl) fun K' ah=>?_;(repeat (refine adu rfl fun K2 aa=>?_;simp[YG,dS];(repeat (refine⟨by omega,?_⟩));refine aa _ ?_;clear aa K2));refine C3 (ah _ ?_);refine AW.st (by simp[YG,dS];rfl) ?_;clear ah K';refine b7 (Exists.intro _ (And.intro (aC.env (by intro i x h;cases h)) ?_));simp[D.le,D.le.go,aQ,hp,cA,cy,cz,cu,aR,rR,YG,bR]
  | name n=>
   rw[hlk]at hlp ig;dsimp only at ig;simp only[bN]at hlp;have ja:bk n=[.v (.string (bs n.name)),.v (.int .i64 n.kind),.v (.int .i64 n.count)]:=rfl
   have pS:(s.names ++ [n]).map bk=NN ++ [bk n]:=by rw[List.map_append,s3];rfl
   have nc:cW (s.hU ++ [pk])=NA ++ [[.v (.int .i64 pk)]]:=by rw[<- hNA];unfold cW;rw[List.map_append];rfl
   generalize bs n.name=nm at ja;generalize n.kind=kd at ja;generalize n.count=ct at ja;rw[ja]at hlp pS;refine aP fw hlp [2,3,4,5,6,7,8,9,10,11] [2,3,4,5,6,7,801,802,803,804] ?_;refine ae fun K9 hK9=>?_;refine ab (Aq fw (Aq @YN.eq_1 (Aq @YN.eq_2 @bG.eq_1))) [2,3,4,5,6,7,8,9,10,11,12,13] [2,3,4,5,6,7,801,802,803,804] ?_;refine ab fw [2,3,4,5,6,7,8,9,10,11,12,39] [2,3,4,5,6,7,801,802,803,804] ?_;refine af rfl ?_;refine ao (hK9 _ ?_);refine YR ?_;refine ae fun qT iX=>?_;refine ab fw [2,3,4,5,6,7,8,9,10,66] [2,3,4,5,6,7,801,802,803,804] ?_;refine af rfl ?_;by_cases rD:s.ar=[]
   .rw[if_pos rD]at ig;have hn:=tM _ ig;have w6:RA=[]:=List.length_eq_zero_iff.1 (by rw[FI,rD];rfl);subst w6;refine gJ fw iX [2,3,4,5,6,7,8,9,10,66] [2,3,4,5,6,7,801,802,803,804] ?_;refine af rfl ?_;refine ab fw [2,3,4,5,6,7,8,9,10,81] [2,3,4,5,6,7,801,802,803,804] ?_;refine af rfl ?_;refine vk (aw _) (by kernel_rfl) ([(6,(801,59)),(10,(803,63))]) ([(7,[801]),(8,[801]),(9,[801]),(11,[803])]) ([0,1,2,3,4,7,8,5,9,6,11,10,12,13]) (by kernel_rfl) fun K' ah=>?_;(repeat (refine kF rfl fun K2 aa=>?_;simp[YG,dS,List.take_of_length_le];(repeat (refine⟨by omega,?_⟩));refine aa _ ?_;clear aa K2));refine qH (ah _ ?_);clear ah K';refine Zl _ (AW.norm [2,3,4,5,6,7,8] [2,3,4,5,6,7,801,802,803,804] (cH rfl) (AW.st (by simp[YG,dS,List.take_of_length_le];rfl) ?_));have qf:=(Aq fw @bC);refine x4 ?_;(try simp only[YO,bd]);refine And.intro ⟨_,hn⟩ ?_;rw[hinv _ _ hn,ZB];dsimp only;rw[pS,nc,s8,Aa];unfold o9;refine (show aC _ _ _ _ _ ⟨aZ [],YH _⟩ from ?_);refine bz (Aq fw @ZB)
   .rw[if_neg rD]at ig;have hp:=adl _ _ ig
    have w6:0 < RA.length:=by rw[FI];exact List.length_pos_iff.2 rD
    have qf:=(Aq fw @w6);refine gK iX [2,3,4,5,6,7,8,9,10,66] [2,3,4,5,6,7,801,802,803,804] ?_;refine YL (by simp[w6]) ?_;refine yu (aw _) (by kernel_rfl) ([3]) ([(1,7),(5,2),(6,3)]) (List.range 7) [2,3] [2,3,4,5,6,7,801,802,803,804] (cH rfl) (by kernel_rfl) fun K' ah=>?_;(repeat (refine adu rfl fun K2 aa=>?_;simp[YG,dS];(repeat (refine⟨by omega,?_⟩));refine aa _ ?_;clear aa K2));refine C3 (ah _ ?_);refine AW.st (by simp[YG,dS];rfl) ?_;clear ah K';refine b7 (Exists.intro _ (And.intro (aC.env (by intro i x h;cases h)) ?_));simp[D.le,D.le.go,aQ,hp,cA,cy,cz,cu,aR,rR,YG]
  | jq r=>
   rw[hlk]at hlp ig;dsimp only at ig;simp only[bN]at hlp;have hn:=tM _ ig;have Bc:=Mi r.cond;have lG:bF r=[.v (.int .i64 r.kind),.v (.string (bs r.name)),dC r.cond]:=rfl
   have Ad:(s.ar ++ [r]).map bF=RR ++ [bF r]:=by rw[List.map_append,s8];rfl
   have nc:cW (s.rAt ++ [pk])=RA ++ [[.v (.int .i64 pk)]]:=by rw[<- Aa];unfold cW;rw[List.map_append];rfl
   generalize bs r.name=nm at lG;generalize r.kind=kd at lG;generalize dC r.cond=dc at lG Bc;rw[lG]at hlp Ad;refine aP fw hlp [2,3,4,5,6,7,8,9,10,11] [2,3,4,5,6,7,801,802,803,804] ?_;refine ae fun K9 hK9=>?_;refine ab (Aq fw (Aq @YN.eq_1 (Aq @YN.eq_2 @bG.eq_1))) [2,3,4,5,6,7,8,9,10,11,12,13] [2,3,4,5,6,7,801,802,803,804] ?_;refine ab fw [2,3,4,5,6,7,8,9,10,11,12,39] [2,3,4,5,6,7,801,802,803,804] ?_;refine af rfl ?_;refine ao (hK9 _ ?_);refine YR ?_;refine ae fun qT iX=>?_;refine ab fw [2,3,4,5,6,7,8,9,10,66] [2,3,4,5,6,7,801,802,803,804] ?_;refine af rfl ?_;refine gJ fw iX [2,3,4,5,6,7,8,9,10,66] [2,3,4,5,6,7,801,802,803,804] ?_;refine af rfl ?_;refine ab fw [2,3,4,5,6,7,8,9,10,81] [2,3,4,5,6,7,801,802,803,804] ?_;refine YL rfl ?_;refine vk (aw _) (by kernel_rfl) ([(6,(802,89)),(10,(804,93))]) ([(7,[802]),(8,[802]),(9,[802]),(11,[804])]) ([0,1,2,3,4,7,8,5,9,6,11,10,12,13]) (by kernel_rfl) fun K' ah=>?_;(repeat (refine kF rfl fun K2 aa=>?_;simp[YG,dS,List.take_of_length_le,Bc];(repeat (refine⟨by omega,?_⟩));refine aa _ ?_;clear aa K2));refine qH (ah _ ?_);clear ah K';refine Zl _ (AW.norm [2,3,4,5,6,7,8] [2,3,4,5,6,7,801,802,803,804] (cH rfl) (AW.st (by simp[YG,dS,List.take_of_length_le,Bc];rfl) ?_));have qf:=(Aq fw @bC);refine x4 ?_;(try simp only[YO,bd]);refine And.intro ⟨_,hn⟩ ?_;rw[hinv _ _ hn,ZB];dsimp only;rw[Ad,nc,s3,hNA];unfold o9;refine (show aC _ _ _ _ _ ⟨aZ [],YH _⟩ from ?_);refine bz (Aq fw @ZB)
end Go.Proofs.YtdigkhaofjmgkaaGreatDoor
namespace Go.Proofs.YtdigkhaofjmgkaaGreatDoor
open Go.Av
def aet (S P:Int) (n:Nat):Prop:=S < 1\/3 < S\/P < 0\/2 < P\/n < 1\/3 < n
instance (S P:Int) (n:Nat):Decidable (aet S P n):=inferInstanceAs (Decidable (_\/_))
abbrev pI (n:Nat):List UInt8:=Lib.decDigits n
def Ax (k:Int):List UInt8:=if k=1 then [105,110,112,117,116,32] else if k=2 then [99,111,105,108,32] else if k=3 then [116,105,109,101,114,32] else [99,111,117,110,116,101,114,32]
def lx (n:dL):List UInt8:=if 3<=n.kind then 32 :: pI n.count.toNat else []
def TE (n:dL):List UInt8:=Ax n.kind ++ n.name ++ lx n ++ [10]
def HQ (l:List dL):List UInt8:=l.flatMap TE
def ab9 (k:Int):List UInt8:=if k=1 then [] else if k=2 then [115,101,116,32] else if k=3 then [114,101,115,101,116,32] else if k=4 then [114,117,110,32] else if k=5 then [99,111,117,110,116,32] else [122,101,114,111,32]
def ze (c:Option Ex):List UInt8:=match c with
 | none=>[]
 | some e=>aX e 0
def Vy (r:fh):List UInt8:=ab9 r.kind ++ r.name ++ [32,61,32] ++ ze r.cond ++ [10]
def Jp (l:List fh):List UInt8:=l.flatMap Vy
def pb (p:YM):List UInt8:=HQ p.names ++ Jp p.ar
theorem uF {s:Tx} (h:eR s=true):∀ c∈s,c≠10/\c≠32/\c≠61:=by
 unfold eR at h;simp only[Bool.and_eq_true,decide_eq_true_eq,JN]at h;obtain⟨h1,h2,h3,h4,h5,-⟩:=h
 have hs:∀ c:UInt8,ly.contains c=true->c≠10/\c≠32/\c≠61:=by
  have h:∀ n:Fin 256,ly.contains (UInt8.ofNat n)=true->UInt8.ofNat n≠10/\UInt8.ofNat n≠32/\UInt8.ofNat n≠61:=by decide +kernel
  intro c;have:=h ⟨c.toNat,c.toNat_lt⟩;simpa using this
 exact fun c hc=>hs c (h5 c hc)
theorem Hj {c:UInt8} {s:Tx}:∀ {l:List Tx},c∈Lib.joinTail s l->c∈s\/∃ x∈l,c∈x
 | [],h=>by simp[Lib.joinTail]at h
 | x :: l,h=>by
  simp only[Lib.joinTail,List.map_cons,List.flatten_cons,List.mem_append]at h
  rcases h with (h | h) | h
  .exact .inl h
  .exact .inr ⟨x,by simp,h⟩
  .rcases Hj (show c∈Lib.joinTail s l from h)with h | ⟨y,hy,hc⟩
   .exact .inl h
   .exact .inr ⟨y,by simp[hy],hc⟩
theorem Hk {c:UInt8}:∀ {l:List Tx} {s:Tx},c∈Lib.join l s->c∈s\/∃ x∈l,c∈x
 | [],s,h=>by simp[Lib.join,List.intercalate]at h
 | x :: l,s,h=>by
  rw[Lib.join_cons,List.mem_append]at h
  rcases h with h | h
  .exact .inr ⟨x,by simp,h⟩
  .rcases Hj h with h | ⟨y,hy,hc⟩
   .exact .inl h
   .exact .inr ⟨y,by simp[hy],hc⟩
theorem W7:∀ (n:Nat) (e:Ex),SizeOf.sizeOf e<=n->cD e->∀ k,(10:UInt8) ∉ aX e k:=by
 intro n
 induction n with
 | zero=>intro e h;cases e<;>simp at h<;>omega
 | succ n ih=>
  intro e hs hw k hm
  cases e with
  | dT b=>cases b<;>simp[aX]at hm
  | bit s=>rw[aX]at hm;exact (uF hw 10 hm).1 rfl
  | fW s=>
   rw[aX]at hm
   rcases List.mem_cons.1 hm with hm | hm
   .revert hm;decide
   .exact (uF hw 10 hm).1 rfl
  | fO s=>
   rw[aX]at hm
   rcases List.mem_cons.1 hm with hm | hm
   .revert hm;decide
   .exact (uF hw 10 hm).1 rfl
  | not x=>
   rw[aX]at hm
   rcases List.mem_cons.1 hm with hm | hm
   .revert hm;decide
   .exact ih x (by simp at hs;omega) hw 2 hm
  | and l=>
   have hj:∀ s:Tx,(10:UInt8) ∉ s->(10:UInt8) ∉ Lib.join (wrL l 2) s:=fun s h1 h=>by
    rcases Hk h with h | ⟨x,hx,hc⟩
    .exact h1 h
    .rw[vf]at hx;obtain⟨y,hy,rfl⟩:=List.mem_map.1 hx;have:=List.sizeOf_lt_of_mem hy;exact ih y (by simp at hs;omega) ((iO l).1 hw.2 y hy) 2 hc
   rw[aX]at hm;have h3:=hj [32,38,32] (by decide);split at hm
   .rw[List.mem_append,List.mem_append]at hm
    rcases hm with (hm | hm) | hm
    .revert hm;decide
    .exact h3 hm
    .revert hm;decide
   .exact h3 hm
  | or l=>
   have hj:∀ s:Tx,(10:UInt8) ∉ s->(10:UInt8) ∉ Lib.join (wrL l 1) s:=fun s h1 h=>by
    rcases Hk h with h | ⟨x,hx,hc⟩
    .exact h1 h
    .rw[vf]at hx;obtain⟨y,hy,rfl⟩:=List.mem_map.1 hx;have:=List.sizeOf_lt_of_mem hy;exact ih y (by simp at hs;omega) ((iO l).1 hw.2 y hy) 1 hc
   rw[aX]at hm;have h3:=hj [32,124,32] (by decide);split at hm
   .rw[List.mem_append,List.mem_append]at hm
    rcases hm with (hm | hm) | hm
    .revert hm;decide
    .exact h3 hm
    .revert hm;decide
   .exact h3 hm
theorem Ue {e:Ex} (hw:cD e) (hd:dpI e<=20) (hl:(aX e 0).length<=1999):Zx (32 :: aX e 0)=(some e,none):=by
 generalize ht:(32:UInt8) :: aX e 0=t
 have hlen:t.length=(aX e 0).length+1:=by rw[<- ht];rfl
 have hs:Has t 1 (aX e 0):=fun k hk=>by rw[<- ht,Nat.add_comm];rfl
 have k0:aM t 0=1:=by
  rw[uW (by rw[<- ht];rfl)];exact qD hs (n5 e 0 hw)
 have k1:aM t (1+(aX e 0).length)=t.length:=by
  rw[hlen,Nat.add_comm 1];exact aa4 (by rw[List.getElem?_eq_none (by omega)];simp)
 have ko:=H8 (t:=t) hw hd 0 (Nat.zero_le _) (by rw[k0];exact hs) (by rw[k0];intro c hc;rw[List.getElem?_eq_none (by omega)]at hc;cases hc) (by rw[k0,k1];simp) (by rw[k0,k1];simp);rw[k0,k1]at ko;unfold Zx;rw[if_neg (by omega),ko];dsimp only;have k2:aM t t.length=t.length:=aa4 (by simp);rw[k2,if_neg (by omega)]
theorem J4 {a:Tx} (ha:(32:UInt8) ∉ a) (h0:a≠[]):dW a=[a]:=by
 have:=ve a [] [] ha;rw[List.append_nil,List.nil_append]at this;unfold dW;rw[this];simp[ZX,h0]
theorem ac9 {a b:Tx} (ha:(32:UInt8) ∉ a) (h0:a≠[]):dW (a ++ 32 :: b)=a :: dW b:=by
 have:=ve a [] (32 :: b) ha;rw[List.nil_append]at this;unfold dW;rw[this]
 conv=>lhs;unfold ZX
 simp[h0]
theorem J3 {a:Tx} (ha:(32:UInt8) ∉ a) (h0:a≠[]):dW (a ++ [32])=[a]:=by
 rw[ac9 ha h0];rfl
def nM (k:Int):Tx:=if k=1 then [105,110,112,117,116] else if k=2 then [99,111,105,108] else if k=3 then [116,105,109,101,114] else [99,111,117,110,116,101,114]
theorem OW {k:Int} (h:1<=k/\k<=4):Ax k=nM k ++ [32]/\(32:UInt8) ∉ nM k/\(61:UInt8) ∉ nM k/\(10:UInt8) ∉ nM k/\nM k≠[]/\ixW o0 (nM k)=k:=by
 have:k=1\/k=2\/k=3\/k=4:=by omega
 rcases this with rfl | rfl | rfl | rfl<;>decide +kernel
def ql (k:Int):Tx:=if k=2 then [115,101,116] else if k=3 then [114,101,115,101,116] else if k=4 then [114,117,110] else if k=5 then [99,111,117,110,116] else [122,101,114,111]
theorem F7 {k:Int} (h:2<=k/\k<=6):ab9 k=ql k ++ [32]/\(32:UInt8) ∉ ql k/\(61:UInt8) ∉ ql k/\(10:UInt8) ∉ ql k/\ql k≠[]/\ixW kwR (ql k)=k:=by
 have:k=2\/k=3\/k=4\/k=5\/k=6:=by omega
 rcases this with rfl | rfl | rfl | rfl | rfl<;>decide +kernel
theorem El {n:Int} (h:1<=n/\n<=7):acb (pI n.toNat)=some n/\(32:UInt8) ∉ pI n.toNat/\(61:UInt8) ∉ pI n.toNat/\(10:UInt8) ∉ pI n.toNat/\pI n.toNat≠[]:=by
 have:n=1\/n=2\/n=3\/n=4\/n=5\/n=6\/n=7:=by omega
 rcases this with rfl | rfl | rfl | rfl | rfl | rfl | rfl<;>decide +kernel
def abk (n:dL):Tx:=Ax n.kind ++ n.name ++ lx n
def pf (r:fh):Tx:=ab9 r.kind ++ r.name ++ [32,61,32] ++ ze r.cond
structure vm (n:dL):Prop where
 name:eR n.name=true
 kind:1<=n.kind/\n.kind<=4
 count:(n.kind < 3/\n.count=0)\/(3<=n.kind/\1<=n.count/\n.count<=7)
structure yJ (r:fh):Prop where
 name:eR r.name=true
 kind:1<=r.kind/\r.kind<=6
 cond:∃ e,r.cond=some e/\cD e/\dpI e<=20/\(aX e 0).length<=1990
theorem HN {n:dL} (h:vm n):(10:UInt8) ∉ abk n/\dW (abk n)≠[]/\gG (abk n) = .name n:=by
 obtain⟨hn,hk,hc⟩:=h;obtain⟨e1,w1,w2,w3,w4,w5⟩:=OW hk;have Zz:=uF hn;have kW:=(rQ hn).1;have y5:(10:UInt8) ∉ n.name:=fun hm=>(Zz 10 hm).1 rfl;have sA:(32:UInt8) ∉ n.name:=fun hm=>(Zz 32 hm).2.1 rfl;have y8:(61:UInt8) ∉ n.name:=fun hm=>(Zz 61 hm).2.2 rfl;obtain⟨nm,kd,ct⟩:=n;dsimp only at *
 have hB:abk ⟨nm,kd,ct⟩=nM kd ++ 32 :: (nm ++ lx ⟨nm,kd,ct⟩):=by simp[abk,e1]
 have pO:(10:UInt8) ∉ lx ⟨nm,kd,ct⟩/\(61:UInt8) ∉ lx ⟨nm,kd,ct⟩:=by
  unfold lx
  rcases hc with⟨h1,h2⟩ | ⟨h1,h2⟩
  .rw[if_neg (by dsimp only;omega)];simp
  .rw[if_pos (by dsimp only;omega)];obtain⟨_,d2,d3,d4,_⟩:=El h2;simp[d3,d4]
 have hw:dW (abk ⟨nm,kd,ct⟩)=nM kd :: dW (nm ++ lx ⟨nm,kd,ct⟩):=by rw[hB,ac9 w1 w4]
 refine⟨?_,?_,?_⟩
 .rw[hB];simp[w3,y5,pO.1]
 .rw[hw];simp
 .unfold gG;rw[if_neg (by rw[hB];simp[w2,y8,pO.2]),hw];show eC (ixW o0 (nM kd)) _=_;rw[w5]
  rcases hc with⟨h1,rfl⟩ | ⟨h1,h2⟩
  .have e:lx ⟨nm,kd,0⟩=[]:=by unfold lx;rw[if_neg (by dsimp only;omega)]
   rw[e,List.append_nil,J4 sA kW];rw[eC,if_pos (by omega)]
  .have e:lx ⟨nm,kd,ct⟩=32 :: pI ct.toNat:=by unfold lx;rw[if_pos (by dsimp only;omega)]
   obtain⟨d1,d2,d3,d4,d5⟩:=El h2;rw[e,ac9 sA kW,J4 d2 d5];rw[eC,if_pos (by omega),d1]
theorem Jj {r:fh} (h:yJ r):(10:UInt8) ∉ pf r/\dW (pf r)≠[]/\gG (pf r) = .jq r:=by
 obtain⟨hn,hk,e,he,hw,hd,hl⟩:=h;have Zz:=uF hn;have kW:=(rQ hn).1;have y5:(10:UInt8) ∉ r.name:=fun hm=>(Zz 10 hm).1 rfl;have sA:(32:UInt8) ∉ r.name:=fun hm=>(Zz 32 hm).2.1 rfl;have y8:(61:UInt8) ∉ r.name:=fun hm=>(Zz 61 hm).2.2 rfl;obtain⟨kd,nm,cd⟩:=r;dsimp only at *;subst he;have ij:=W7 _ e (Nat.le_refl _) hw 0;have hpb:=Ue hw hd (by omega);obtain⟨dv,tq⟩:∃ dv,ab9 kd ++ nm ++ [32]=dv:=⟨_,rfl⟩
 have hB:pf ⟨kd,nm,some e⟩=dv ++ 61 :: (32 :: aX e 0):=by rw[<- tq];simp[pf,ze]
 have hG:(10:UInt8) ∉ ab9 kd/\(61:UInt8) ∉ ab9 kd:=by
  by_cases h1:kd=1
  .subst h1;decide
  .obtain⟨g1,g2,g3,g4,_⟩:=F7 (k:=kd) (by omega);rw[g1];simp[g3,g4]
 have rh:(61:UInt8) ∉ dv:=by rw[<- tq];simp[hG.2,y8]
 have ub:dW dv≠[]/\∀ rest,Zx rest=(some e,none)->lf dv rest (dW dv) = .jq ⟨kd,nm,some e⟩:=by
  by_cases h1:kd=1
  .subst h1
   have:dv=nm ++ [32]:=by rw[<- tq];rfl
   rw[this,J3 sA kW];refine⟨by simp,fun rest hr=>?_⟩;rw[lf,jW,hr]
  .obtain⟨g1,g2,g3,g4,g5,g6⟩:=F7 (k:=kd) (by omega)
   have:dv=ql kd ++ 32 :: (nm ++ [32]):=by rw[<- tq,g1];simp
   rw[this,ac9 g2 g5,J3 sA kW];refine⟨by simp,fun rest hr=>?_⟩;rw[lf,g6,if_neg (by omega),jW,hr]
 refine⟨?_,?_,?_⟩
 .rw[hB,<- tq];simp[hG.1,y5,ij]
 .intro h0;rw[Dr]at h0;have:=h0 61 (by rw[hB];simp)
  revert this;decide
 .unfold gG;rw[if_pos (by rw[hB];simp),hB,sF rh];exact ub.2 _ hpb
theorem Eg:∀ (l:List Tx),(∀ s∈l,(10:UInt8) ∉ s)->Zk 10 (l.flatMap fun s=>s ++ [10])=l ++ [[]]
 | [],_=>rfl
 | s :: l,h=>by
  rw[List.flatMap_cons,List.append_assoc];show Zk 10 (s ++ 10 :: (l.flatMap fun s=>s ++ [10]))=_;rw[Ef (h s (by simp)),Eg l fun x hx=>h x (by simp[hx])];rfl
def lZ (p:YM):List Tx:=p.names.map abk ++ p.ar.map pf
theorem UA (p:YM):pb p=(lZ p).flatMap fun s=>s ++ [10]:=by
 unfold pb HQ Jp lZ;rw[List.flatMap_append,List.flatMap_map,List.flatMap_map];rfl
theorem IF {l:List Tx} {ns:List dL} (hn:∀ n∈ns,vm n) (hl:∀ i (h:i < ns.length),l[i]? = some (abk ns[i])):∀ k,k<=ns.length->∃ s,ZD l k = .inr s/\s.names=ns.take k/\s.ar=[]
 | 0,_=>⟨mC,rfl,by simp[mC],rfl⟩
 | k+1,hk=>by
  obtain⟨s,h1,h2,h3⟩:=IF hn hl k (by omega);obtain⟨_,b2,b3⟩:=HN (hn ns[k] (List.getElem_mem (by omega)))
  have hg:l.getD k []=abk ns[k]:=by rw[List.getD_eq_getElem?_getD,hl k (by omega)];rfl
  rw[ZD,h1];dsimp only;rw[hg];unfold aaQ;rw[if_neg b2,b3];dsimp only;rw[if_pos h3];exact⟨_,rfl,by rw[h2,List.take_succ_eq_append_getElem (by omega)],h3⟩
theorem IG {l:List Tx} {p:YM} (hn:∀ n∈p.names,vm n) (hr:∀ r∈p.ar,yJ r) (hl:∀ i (h:i < p.names.length),l[i]? = some (abk p.names[i])) (gD:∀ i (h:i < p.ar.length),l[p.names.length+i]? = some (pf p.ar[i])) :
  ∀ k,k<=p.ar.length->∃ s,ZD l (p.names.length+k) = .inr s/\s.names=p.names/\s.ar=p.ar.take k
 | 0,_=>by
  obtain⟨s,h1,h2,h3⟩:=IF hn hl p.names.length (Nat.le_refl _);exact⟨s,h1,by rw[h2,List.take_length],by rw[h3];simp⟩
 | k+1,hk=>by
  obtain⟨s,h1,h2,h3⟩:=IG hn hr hl gD k (by omega);obtain⟨_,b2,b3⟩:=Jj (hr p.ar[k] (List.getElem_mem (by omega)))
  have hg:l.getD (p.names.length+k) []=pf p.ar[k]:=by rw[List.getD_eq_getElem?_getD,gD k (by omega)];rfl
  rw[<- Nat.add_assoc,ZD,h1];dsimp only;rw[hg];unfold aaQ;rw[if_neg b2,b3];exact⟨_,rfl,h2,by dsimp only;rw[h3,List.take_succ_eq_append_getElem (by omega)]⟩
theorem Ln {p:YM} (hc:Y3 p=none) (hn:∀ n∈p.names,vm n) (hr:∀ r∈p.ar,yJ r) (hl:(pb p).length<=20000):fV (pb p)=(none,p):=by
 have aaq:Zk 10 (pb p)=lZ p ++ [[]]:=by
  rw[UA];refine Eg _ fun s hs=>?_
  rcases List.mem_append.1 hs with hs | hs
  .obtain⟨n,iI,rfl⟩:=List.mem_map.1 hs;exact (HN (hn n iI)).1
  .obtain⟨r,hr',rfl⟩:=List.mem_map.1 hs;exact (Jj (hr r hr')).1
 have hlen:(lZ p).length=p.names.length+p.ar.length:=by simp[lZ]
 obtain⟨s,h1,h2,h3⟩:=IG (l:=lZ p ++ [[]]) hn hr (fun i h=>by
   rw[List.getElem?_append_left (by omega)];unfold lZ;rw[List.getElem?_append_left (by simpa using h)]
   simp[h]) (fun i h=>by
   rw[List.getElem?_append_left (by omega)];unfold lZ;rw[List.getElem?_append_right (by simp)]
   simp[h]) p.ar.length (Nat.le_refl _)
 rw[List.take_length]at h3
 have tl:ZD (lZ p ++ [[]]) (lZ p ++ [[]]).length = .inr s:=by
  rw[List.length_append,hlen];show ZD _ (p.names.length+p.ar.length+1)=_;rw[ZD,h1];dsimp only
  have:(lZ p ++ [[]]).getD (p.names.length+p.ar.length) []=[]:=by
   rw[List.getD_eq_getElem?_getD,List.getElem?_append_right (by omega),hlen];simp
  rw[this];unfold aaQ;rw[if_pos (show dW []=[] from rfl)]
 rw[Cx hl (by rw[aaq];exact tl),h2,h3];show (match Y3 p with | none=>_ | some (c,none)=>_ | some (c,some i)=>_)=_;rw[hc]
theorem Et {p:YM} (h:∀ r∈p.ar,∃ e,r.cond=some e/\bE e<=2^28):∀ {n:Nat},n<=p.ar.length->(gx p n).length<=2^28 * n
 | 0,_=>by simp[gx]
 | n+1,hn=>by
  have ih:=Et h (n:=n) (by omega);obtain⟨e,he,hb⟩:=h p.ar[n] (List.getElem_mem _);rw[zt (by omega),List.length_append]
  have:(abM p p.ar[n]).length<=2^28:=by
   unfold abM;rw[he,List.length_map];have h1:=Lib.compact_length_le (jY (Y6 false e));have h2:=mH (Y6 false e);have h3:=qs false e;show (Zw false e).length<=_;unfold Zw;omega
  omega
theorem Hy (G:YI) (p:YM) (eJ:p.names.length < 2^62) (Z0:p.ar.length<=100) (hg:∀ r∈p.ar,∃ e,r.cond=some e/\bE e<=2^28):aq prog G 65 [cA p] (.sl none ((Lib.compact (jr (gx p p.ar.length))).map fun x=>[.v (.int .i64 x)])):=by
 have bK:=fun s=>nN G p eJ s;have hlen:=fun n hn=>Et (n:=n) hg hn;have hL:=hlen _ (Nat.le_refl _);have hso:=VP G 300 3 (gx p p.ar.length) (by omega);have fi:=LZ G 300 3 (jr (gx p p.ar.length)) (by rw[uY];omega);rw[uY]at fi;have bQ:=Lib.compact_length_le (jr (gx p p.ar.length));rw[uY]at bQ;generalize NU:gx p p.ar.length=l at hso fi bQ hL ⊢;generalize jr l=z at hso fi bQ ⊢
 have fU:List.take (Lib.compact z).length ((Lib.compact z ++ List.replicate (l.length - (Lib.compact z).length) 0).map fun s=>[D.v (.int .i64 s)])=(Lib.compact z).map fun s=>[D.v (.int .i64 s)]:=by
  rw[List.map_append,List.take_append_of_le_length (by simp),List.take_of_length_le (by simp)]
 have BF:(Lib.compact z ++ List.replicate (l.length - (Lib.compact z).length) 0).length=l.length:=by simp;omega
 generalize Lib.compact z ++ List.replicate (l.length - (Lib.compact z).length) 0=y at fi fU BF;generalize Lib.compact z=c at fi bQ fU ⊢;simp only[cA,cy,cz,cu,dS]at bK ⊢;refine aq.aI (aw _) func65 rfl rfl (rs:=[.tmp 2]) results65 (by simp[ntmps65]) fun X=>?_;simp only[ntmps65,List.map];have fw:=@YG.eq_1;refine ab fw [1] [1] ?_;refine cq fw 1 ?_;refine ab fw [1,3] [] ?_;refine ae fun K1 ay=>?_;refine ab fw [1,3,9,10,11] [] ?_;refine Zb (S:=Nat) (fun i=>i<=p.ar.length) (fun i=>⟨aZ [(1,.d (.ip [.sl none (p.names.map bk),.sl none (p.ar.map bF)])),(3,.own 300 0 (gx p i).length),(9,.d (.sl none (p.ar.map bF))),(10,int p.ar.length),(11,int i)],YH [(300,.sl 3 1 ((gx p i).map fun x=>[.v (.int .i64 x)]))]⟩) (fun i=>p.ar.length - i) 0 ?_ (by simp) ?_
 .refine (aC.lu 3 300 3 1 rfl rfl).trans ?_;refine bz (Aq fw (Aq @gx.eq_1 @gx.eq_2))
 .intro i hi;have Xk:=hlen i hi
  have NH:(gx p i).length < 2^40:=by omega
  have tY:=fun h=>zt (p:=p) (i:=i) h
  have kS:i=p.ar.length->gx p i=l:=fun h=>by rw[h];exact NU
  generalize Xl:gx p i=E at NH tY kS ⊢;refine ab fw [1,3,9,10,11,12] [300] ?_;refine ae fun K2 aa=>?_;refine eM (b:=i < p.ar.length) (by simp[D.le,D.le.go,aQ,YG]) (fun hc=>?_) (fun hc=>?_)
  .have YJ:=hc;obtain⟨e,he,hb⟩:=hg _ (List.getElem_mem YJ);have Zv:=tY YJ;have lG:bF p.ar[i]=[.v (.int .i64 p.ar[i].kind),.v (.string (bs p.ar[i].name)),dC p.ar[i].cond]:=rfl;have kR:=Mt G e hb
   have aed:(Zw false e).length<=2^28:=by
    have h1:=Lib.compact_length_le (jY (Y6 false e));have h2:=mH (Y6 false e);have h3:=qs false e;unfold Zw;omega
   unfold abM at Zv;rw[he]at Zv lG;simp only[dC,dS]at Zv lG kR;obtain⟨ta,ca,kZ⟩:=dX e;rw[kZ]at lG kR;generalize Zw false e=ns at Zv kR aed;generalize p.ar[i].kind=kd at lG;generalize p.ar[i].name=nm at lG;refine ao (aa _ ?_);refine ae fun K3 YS=>?_;refine YR ?_;have qf:=(Aq fw (Aq @YJ @lG));refine aB [1,3,5,9,10,11] [300,5] ?_;refine cq fw 5 ?_;refine aP fw kR [1,3,9,10,11,17,18,19] [300] ?_;obtain⟨AA,ri⟩:∃ f:Nat->List Int,f=fun j=>E ++ (ns.take j).map (YW p):=⟨_,rfl⟩
   have zU:AA 0=E:=by rw[ri];simp
   have Nv:AA ns.length=E ++ ns.map (YW p):=by rw[ri];simp
   have Nx:∀ j (h:j < ns.length),AA (j+1)=AA j ++ [YW p ns[j]]:=fun j h=>by rw[ri];dsimp only;rw[List.take_succ_eq_append_getElem h,List.map_append,List.append_assoc];rfl
   have Nw:∀ j,(AA j).length < 2^41:=fun j=>by rw[ri];dsimp only;rw[List.length_append,List.length_map,List.length_take];omega
   clear ri;refine Zb (S:=Nat) (fun j=>j<=ns.length) (fun j=>⟨aZ [(1,.d (.ip [.sl none (p.names.map bk),.sl none (p.ar.map bF)])),(3,.own 300 0 (AA j).length),(9,.d (.sl none (p.ar.map bF))),(10,int p.ar.length),(11,int i),(17,.d (.sl none (ns.map fun s=>[.v (.string (bs s))]))),(18,int ns.length),(19,int j)],YH [(300,.sl 3 1 ((AA j).map fun x=>[.v (.int .i64 x)]))]⟩) (fun j=>ns.length - j) 0 ?_ (by simp) ?_
   .refine bz (Aq fw @zU)
   .intro j hj;have nc:=Nx j;have Fe:=Nw j
    have Fc:j=ns.length->E ++ ns.map (YW p)=AA j:=fun h=>by rw[h,Nv]
    generalize ri:AA j=A at nc Fe Fc ⊢;refine ab fw [1,3,9,10,11,17,18,19,20] [300] ?_;refine ae fun K4 Y4=>?_;refine eM (b:=j < ns.length) (by simp[D.le,D.le.go,aQ,YG]) (fun hc=>?_) (fun hc=>?_)
    .have rv:=hc;have hA2:=nc rv;have Gv:=bK ns[j];generalize YW p ns[j]=z2 at hA2 Gv;refine ao (Y4 _ ?_);refine ae fun K5 b8=>?_;refine YR ?_;have qf:=(Aq fw @rv);refine aB [1,3,7,9,10,11,17,18,19] [300] ?_;refine ff (aw _) fun K' ah=>?_;(repeat (refine aJ fun K2 aa=>?_;simp[YG,List.take_of_length_le];(repeat (refine⟨by omega,?_⟩));refine aa _ ?_;clear aa K2));refine aJ fun K2 aa=>?_;simp[YG,List.take_of_length_le];refine bU.data (Gv) (by simp;rfl) (by first | exact D.ba _ | simp[aQ,List.map_map,Function.comp_def,D.le,D.le.go,D.le_refl,D.ba,YG,List.take_of_length_le]) ?_;refine aa _ ?_;clear aa K2;simp only[au,cw];(repeat (refine aJ fun K2 aa=>?_;simp[YG,List.take_of_length_le];(repeat (refine⟨by omega,?_⟩));refine aa _ ?_;clear aa K2));refine YZ (ah _ ?_);clear ah K';refine b8 _ (AW.norm [1,3,9,10,11,17,18,19] [300] (fun _ _=>trivial) (AW.st (by simp[YG,List.take_of_length_le];rfl) ?_));refine cf fw ?_;(try simp only[YO,bd]);refine bn.mk (j+1) (by omega) (by omega) ?_;refine bz (Aq fw @hA2)
    .obtain rfl:j=ns.length:=by omega
     rw[Fc rfl]at Zv;refine bY (YS _ ?_);refine cf fw ?_;(try simp only[YO,bd]);refine bn.mk (i+1) (by omega) (by omega) ?_;refine bz (Aq fw @Zv)
  .obtain rfl:=kS (by omega);refine bY (ay _ ?_);refine YT fw hso [3] [300] ?_;refine YT fw fi [2] [300] ?_
   have hle:c.length<=y.length:=by omega
   by_cases nq:c.length=y.length
   .have aaZ:(y.map fun s=>[D.v (.int .i64 s)])=c.map fun s=>[D.v (.int .i64 s)]:=by rw[<- fU,nq,List.take_of_length_le (by simp)]
    refine AW.imp (aC.freeze 300 trivial) ?_;refine AW.st (by simp[YG,nq,hle,aaZ];rfl) ?_;exact aV (Aq fw (Aq @nq @aaZ))
   .refine AW.imp (aC.freeze 300 trivial) ?_;refine AW.st (by simp[YG,nq,hle,fU];rfl) ?_;exact aV (Aq fw @fU)
theorem aex {s:Tx} (h:eR s=true):s≠[]/\s.length<=8:=by
 unfold eR at h;simp only[Bool.and_eq_true,decide_eq_true_eq]at h;exact⟨h.1,h.2.1⟩
theorem aeu {s:Tx} {r:fh} (h:gG s = .jq r):∃ e,r.cond=some e/\cD e/\dpI e<=20/\bE e<=10000:=by
 unfold gG at h;split at h
 .obtain⟨k,nm,hm,hr⟩:=Jk h;obtain⟨e,he,hp,_,hn,_⟩:=Jn hr;exact⟨e,he,(r0 hp).1,(r0 hp).2,uM hp⟩
 .exact absurd h HO
def j4 (r:fh):Prop:=∃ e,r.cond=some e/\cD e/\dpI e<=20/\bE e<=10000
theorem Iu {l:List Tx}:∀ {k:Nat} {s:kK},ZD l k = .inr s->∀ r∈s.ar,j4 r
 | 0,s,h=>by
  simp only[ZD,Sum.inr.injEq]at h;subst h;simp[mC]
 | k+1,s,h=>by
  rw[ZD]at h
  cases hk:ZD l k with
  | inl e=>rw[hk]at h;cases h
  | inr s0=>
   rw[hk]at h;dsimp only at h;have ih:=Iu hk;unfold aaQ at h;split at h
   .simp only[Sum.inr.injEq]at h;subst h;exact ih
   .split at h
    .cases h
    .cases h
    .split at h
     .simp only[Sum.inr.injEq]at h;subst h;exact ih
     .cases h
    .rename_i r hr;simp only[Sum.inr.injEq]at h;subst h;intro r' hr'
     rcases List.mem_append.1 hr' with h1 | h1
     .exact ih r' h1
     .obtain rfl:=List.mem_singleton.1 h1;exact aeu hr
theorem Cz {t:Tx} {p:YM} (h:fV t=(none,p)):Y3 p=none/\∀ r∈p.ar,j4 r:=by
 unfold fV at h;split at h
 .cases h
 .split at h
  .cases h
  .rename_i s hs;split at h
   .rename_i hc;simp only[Prod.mk.injEq,true_and]at h;subst h;exact⟨hc,Iu hs⟩
   .cases h
   .cases h
theorem Uf {t:Tx} {e:Int×Option Nat} (h:(fV t).1=some e):(fV t).2=⟨[],[]⟩:=by
 by_cases h1:20000 < t.length
 .unfold fV;rw[if_pos h1]
 .cases hs:ZD (Zk 10 t) (Zk 10 t).length with
  | inl ci=>obtain⟨c,i⟩:=ci;rw[Ik (by omega) hs]
  | inr s=>
   rw[Cx (by omega) hs]at h ⊢
   cases hc:Y3 ⟨s.names,s.ar⟩ with
   | none=>rw[hc]at h;cases h
   | some co=>
    obtain⟨c,o⟩:=co;cases o<;>rfl
theorem Lo {p:YM} (hc:Y3 p=none) (hk:∀ r∈p.ar,j4 r) (hw:∀ r∈p.ar,∀ e,r.cond=some e->(aX e 0).length<=1990) (hl:(pb p).length<=20000):fV (pb p)=(none,p):=by
 have hg:=ZU hc;have hr:=ab3 hc;refine Ln hc (fun n hn=>⟨(hg.name n hn).1,(hg.name n hn).2,hg.count n hn⟩) (fun r ic=>?_) hl;obtain⟨h1,h2,_⟩:=hr r ic;obtain⟨e,he,uc,hd,_⟩:=hk r ic;obtain⟨k,hk,lN,AQ⟩:=oX h2
 have AR:p.names[k].name=r.name:=by simpa using AQ
 have h4:=(hg.name _ (List.getElem_mem hk)).1;rw[AR]at h4;exact⟨h4,h1,e,he,uc,hd,hw r ic e he⟩
def fP:YM:=⟨[⟨[97],1,0⟩,⟨[109],2,0⟩],[⟨2,[109],some (.bit [97])⟩]⟩
def pM:Tx:=[105,110,112,117,116,32,97,10,99,111,105,108,32,109,10,115,101,116,32,109,32,61,32,97,10]
theorem EZ:pb fP=pM:=by decide
theorem zP:Y3 fP=none:=by kernel_rfl
theorem EX:fV pM=(none,fP):=by
 rw[<- EZ];refine Lo zP ?_ ?_ (by rw[EZ];decide)
 .intro r hr;simp only[fP,List.mem_singleton]at hr;subst hr
  have h:(Zx [97]).1=some (.bit [97]):=by kernel_rfl
  exact⟨_,rfl,(r0 h).1,(r0 h).2,uM h⟩
 .intro r hr e he;simp only[fP,List.mem_singleton]at hr;subst hr;obtain rfl:=Option.some.inj he;decide
theorem MV:(⟨#[105,110,112,117,116,32,97,10,99,111,105,108,32,109,10,115,101,116,32,109,32,61,32,97,10]⟩:ByteArray)=bs pM:=rfl
theorem MZ:YW fP [109]=1:=by kernel_rfl
theorem MW:∀ r∈fP.ar,j4 r:=(Cz EX).2
end Go.Proofs.YtdigkhaofjmgkaaGreatDoor
namespace Go.Av
section
variable {P:Program} {T:Ty} {Mv X:Nat->Prop} {G:YI} {N:Fr} {w:World} {μ:Mu} {a:Act} {σ:St} {ops:Array Oper}
def patch (R:List Nat) (H0 H2:Heap):Heap:=fun q=>if R.contains q then H0 q else H2 q
def mN (R:List Nat) (H:Heap):Prop:=∀ q,R.contains q=true->H q=none\/∃ (t:TypeId) (cs:List D),H q=some (.box t (cs.map AV.d))
def pz (R:List Nat) (H0 H:Heap):Prop:=∀ q,R.contains q=false->H0 q=H q
def acd (R:List Nat):AV->Bool
 | .ref r _ _=>!R.contains r
 | _=>true
def pw (P:Program) (G:YI) (mvd R:List Nat) (g:FuncId) (xs:List AV) (H:Heap) (y:AV) (H2:Heap):Prop:=
 mN R H/\(∀ q,R.contains q=true->H2 q=H q)/\∀ H0,mN R H0->pz R H0 H->HC P G mvd g xs H0 y (patch R H0 H2)
theorem CB {R:List Nat} {H H2:Heap} (h:∀ q,R.contains q=true->H2 q=H q):patch R H H2=H2:=by
 funext q;unfold patch;split
 .rename_i hq;exact (h q hq).symm
 .rfl
theorem pw.hc {mvd R:List Nat} {g:FuncId} {xs:List AV} {H H2:Heap} {y:AV} (h:pw P G mvd R g xs H y H2):HC P G mvd g xs H y H2:=by
 have:=h.2.2 H h.1 fun _ _=>rfl
 rwa [CB h.2.1]at this
theorem pw.swap {mvd R:List Nat} {g:FuncId} {xs:List AV} {H H2 H':Heap} {y:AV} (h:pw P G mvd R g xs H y H2) (hc:mN R H') (ho:pz R H' H):pw P G mvd R g xs H' y (patch R H' H2):=by
 refine⟨hc,fun q hq=>by unfold patch;rw[if_pos hq],fun H0 h0 tN=>?_⟩
 have e:patch R H0 (patch R H' H2)=patch R H0 H2:=by
  funext q;unfold patch;split
  .rfl
  .rfl
 rw[e];exact h.2.2 H0 h0 fun q hq=>(tN q hq).trans (ho q hq)
theorem fK.swap {R:List Nat} {H H2 H':Heap} {p:Nat×AV} (h:fK T ops H H2 p) (hp:acd R p.2=true) (ho:pz R H' H):fK T ops H' (patch R H' H2) p:=by
 obtain⟨k,v⟩:=p;unfold fK at h ⊢;dsimp only at h hp ⊢
 cases he:ops[k]? with
 | none=>rw[he]at h;exact h.elim
 | some o=>
  rw[he]at h;dsimp only at h ⊢
  split at h<;>try exact h.elim
  cases v with
  | ref r e j=>
   simp only[acd,Bool.not_eq_true']at hp;have e1:=ho r hp
   have e2:patch R H' H2 r=H2 r:=by unfold patch;rw[if_neg (by rw[hp];decide)]
   unfold iL at h ⊢;dsimp only at h ⊢;rw[e1,e2];exact h
  | d x=>cases x<;>rfl
  | _=>rfl
theorem LP {R:List Nat} {H:Heap} {d:Nat} {t:TypeId} {cs:List D} (h:mN R H):mN R (aF H d (.box t (cs.map AV.d))):=fun q hq=>by
 unfold aF;split
 .exact .inr ⟨t,cs,rfl⟩
 .exact h q hq
theorem LQ {R:List Nat} {H:Heap} {d:Nat} {b:Row} (h:mN R (aF H d b)) (hd:H d=none):mN R H:=fun q hq=>by
 by_cases e:q=d
 .subst e;exact .inl hd
 .have:=h q hq;unfold aF at this
  rwa [if_neg e]at this
theorem Cv {R:List Nat} {H:Heap} {d:Nat} {b:Row} (hd:R.contains d=true):pz R (aF H d b) H:=fun q hq=>by
 unfold aF;rw[if_neg (fun e=>by subst e;rw[hd]at hq;cases hq)]
theorem pz.symm {R:List Nat} {H H':Heap} (h:pz R H H'):pz R H' H:=fun q hq=>(h q hq).symm
theorem Im {R:List Nat} {H H2:Heap} {d:Nat} {b:Row} (hd:R.contains d=true):aF (patch R H H2) d b=patch R (aF H d b) H2:=by
 funext q;unfold aF patch;by_cases e:q=d
 .subst e;simp only[if_true,hd]
 .simp only[if_neg e]
theorem Uj {R:List Nat} {H H2:Heap} {d:Nat} {b:Row} (hd:R.contains d=true) (h:∀ q,R.contains q=true->H2 q=H q):patch R (aF H d b) H2=aF H2 d b:=by
 rw[<- Im hd,CB h]
def qk (R:List Nat) (o:Oper):Bool:=match o.op,o.dst with
 | .alloc _,some d=>R.contains d
 | _,_=>false
theorem KG {R:List Nat} {o:Oper} (h:qk R o=true):∃ t d,o.op = .alloc t/\o.dst=some d/\R.contains d=true:=by
 unfold qk at h;split at h
 .rename_i t d h1 h2;exact⟨t,d,h1,h2,h⟩
 .cases h
theorem DL {R:List Nat} {o:Oper} (h:qk R o=true) {e:Env} {H H':Heap} {x:AV} (hx:Ex P T Mv G o e H x H'):∃ (d:Nat) (t:TypeId) (cs:List D),R.contains d=true/\H d=none/\H'=aF H d (.box t (cs.map AV.d))/\∀ e2 H2,H2 d=none->Ex P T Mv G o e2 H2 x (aF H2 d (.box t (cs.map AV.d))):=by
 obtain⟨t,d,h1,h2,h3⟩:=KG h;obtain⟨dst,op,type,pos,after,guard⟩:=o;dsimp only at h1 h2;subst h1 h2;unfold Ex at hx ⊢;simp only[Y0,Zr,if_true]at hx ⊢;obtain⟨c,hw,hc⟩:=hx;unfold wr at hw ⊢;dsimp only at hw ⊢
 cases hT:T t with
 | none=>rw[hT]at hw;cases hw
 | some ti=>
  rw[hT]at hw;dsimp only at hw;simp only[Option.some.injEq,Prod.mk.injEq,St.mk.injEq]at hw;obtain⟨rfl,rfl,_,rfl⟩:=hw;exact⟨d,t,cM ti.zero,h3,hc,rfl,fun e2 H2 hn=>⟨_,rfl,hn⟩⟩
def J9 (P:Program) (T:Ty) (Mv:Nat->Prop) (G:YI) (mvd R:List Nat) (ops:Array Oper) (ex:List (Nat×AV)) (o:Oper) (σ ag:St):Prop:=∃ c g xs y H2,Y0 o.op=some c/\ZS G σ.env c=some (g,xs)/\(∀ r∈mvd,Mv r)/\pw P G mvd R g xs σ.H y H2/\(∀ p∈ex,fK T ops σ.H H2 p/\acd R p.2=true)/\fL mvd y/\ag=⟨au σ.env o.dst y,H2⟩
def qQ (P:Program) (T:Ty) (Mv:Nat->Prop) (G:YI) (N:Fr) (mvd R db hv:List Nat) (ex:List (Nat×AV)) (ops:Array Oper) (i:Nat) (o:Oper) (σ ag:St):Prop:=
 c8 N o/\o.guard=none/\j8 mvd σ.env/\((db.contains i=true/\∃ c y,iR T G σ.env o=some (c,y)/\c/\ag=⟨au σ.env o.dst (.d y),σ.H⟩)\/
  (db.contains i=false/\hv.contains i=true/\J9 P T Mv G mvd R ops ex o σ ag)\/
  (db.contains i=false/\hv.contains i=false/\kindOf o.op≠9/\jk G ex i o σ.env/\∃ x H',Ex P T Mv G o σ.env σ.H x H'/\fL mvd x/\ag=⟨au σ.env o.dst x,H'⟩))
theorem Lf {mvd R db hv:List Nat} {ex:List (Nat×AV)} {i:Nat} {o:Oper} {σ ag:St} (h:qQ P T Mv G N mvd R db hv ex ops i o σ ag):j7 P T Mv G N mvd db hv ex ops i o σ ag:=by
 obtain⟨h1,h2,h3,h⟩:=h;refine⟨h1,h2,h3,?_⟩
 rcases h with h | ⟨b,v,c,g,xs,y,H2,hc,ht,hm,hh,hl,ho,e⟩ | h
 .exact .inl h
 .exact .inr (.inl ⟨b,v,c,g,xs,y,H2,hc,ht,hm,hh.hc,fun p hp=>(hl p hp).1,ho,e⟩)
 .exact .inr (.inr h)
theorem Lg (hg:Good P T) (mvd R db hv:List Nat) (ex:List (Nat×AV)):Sound P X G N Mv (qQ P T Mv G N mvd R db hv ex ops) ops:=fun i o ho σ ag h=>xK hg mvd db hv ex i o ho σ ag (Lf h)
def vI (R db hv:List Nat) (ex:List (Nat×AV)) (ops:Array Oper) (i j:Nat) (oi oj:Oper):Bool:=oi.apart ops oj && (db.contains i || db.contains j ||
 (if hv.contains i then !hv.contains j && (kindOf oj.op == 0 || (ex.lookup j).isSome || qk R oj) else if hv.contains j then kindOf oi.op == 0 || (ex.lookup i).isSome || qk R oi else nO (kindOf oi.op) (kindOf oj.op)))
theorem Lh (mvd R db hv:List Nat) (ex:List (Nat×AV)):abJ (qQ P T Mv G N mvd R db hv ex ops) (vI R db hv ex ops) ops:=fun i j oi oj bD bf hc σ YK dh h1 h2=>by
 simp only[vI,Bool.and_eq_true]at hc;obtain⟨ck,eQ⟩:=hc;obtain⟨di,gi,oE,h1⟩:=h1;obtain⟨dj,gj,_,h2⟩:=h2;have cE:∀ v,dB oj.op (au σ.env oi.dst v) σ.env:=fun v t ht=>(eE ck (e:=σ.env) (v:=v)).1 t (fF ht);have Zj:∀ v,dB oi.op σ.env (au σ.env oj.dst v):=fun v t ht=>((eE ck (e:=σ.env) (v:=v)).2.1 t (fF ht)).symm;have aG:=(eE ck (e:=σ.env) (v:=Y2)).2.2;have tg:∀ {o:Oper} {c:Call} {e e':Env},Y0 o.op=some c->dB o.op e e'->ZS G e c=ZS G e' c:=fun {o c e e'} hc ha=>qJ fun t ht=>ha t (by rw[(nK hc).1];exact ht)
 have lda:∀ {k:Nat} {o:Oper} {e e':Env},dB o.op e e'->jk G ex k o e->jk G ex k o e':=fun {k o e e'} ha h=>by
  unfold jk at h ⊢;split
  .rename_i pv hl;simp only[hl]at h;split
   .rename_i t x ZR;simp only[ZR]at h;rw[<- cI (x:=x) fun t' lU=>ha t' (by rw[ZR,lU];simp[Op.operands])];exact h
   .rename_i hno;split at h
    .rename_i t x ZR;exact absurd ZR (hno t x)
    .exact h
  .trivial
 rcases h1 with⟨bi,c,y,e1,c1,rfl⟩ | ⟨bi,vi,c,g,xs,y,H2,fS,ti,c7,bQ,ZW,oy,rfl⟩ | ⟨bi,vi,k1,l1,x,H',e1,ox,rfl⟩
 .-- data first
  rcases h2 with⟨bj,c',z,e2,c2,rfl⟩ | ⟨bj,vj,c',g,xs,z,H2,jK,tj,c7,bQ,ZW,oz,rfl⟩ | ⟨bj,vj,k2,l2,z,H2,e2,oz,rfl⟩
  .rw[iB (cE _)]at e2;refine⟨⟨au σ.env oj.dst (.d z),σ.H⟩,⟨dj,gj,oE,.inl ⟨bj,c',z,e2,c2,rfl⟩⟩,di,gi,oE.put (fL.d _ _) _,.inl ⟨bi,c,y,?_,c1,?_⟩⟩
   .rw[<- iB (Zj _)];exact e1
   .rw[dR aG]
  .rw[tg jK (cE _)]at tj;refine⟨⟨au σ.env oj.dst z,H2⟩,⟨dj,gj,oE,.inr (.inl ⟨bj,vj,c',g,xs,z,H2,jK,tj,c7,bQ,ZW,oz,rfl⟩)⟩,di,gi,oE.put oz _,.inl ⟨bi,c,y,?_,c1,?_⟩⟩
   .rw[<- iB (Zj _)];exact e1
   .rw[dR aG]
  .refine⟨⟨au σ.env oj.dst z,H2⟩,⟨dj,gj,oE,.inr (.inr ⟨bj,vj,k2,lda (cE _) l2,z,H2,e2.congr k2 (cE _),oz,rfl⟩)⟩,di,gi,oE.put oz _,.inl ⟨bi,c,y,?_,c1,?_⟩⟩
   .rw[<- iB (Zj _)];exact e1
   .rw[dR aG]
 .-- a call first
  rcases h2 with⟨bj,c',z,e2,c2,rfl⟩ | ⟨bj,vj,_⟩ | ⟨bj,vj,k2,l2,z,H3,e2,oz,rfl⟩
  .rw[iB (cE _)]at e2;refine⟨⟨au σ.env oj.dst (.d z),σ.H⟩,⟨dj,gj,oE,.inl ⟨bj,c',z,e2,c2,rfl⟩⟩,di,gi,oE.put (fL.d _ _) _,.inr (.inl ⟨bi,vi,c,g,xs,y,H2,fS,?_,c7,bQ,ZW,oy,?_⟩)⟩
   .rw[<- tg fS (Zj _)];exact ti
   .rw[dR aG]
  .rw[bi,bj,vi]at eQ;simp[vj]at eQ
   simp_all
  .rw[bi,bj]at eQ;have oo:=e2.congr k2 (cE _);have rO:=lda (cE _) l2
   have hp:(kindOf oj.op=0\/(ex.lookup j).isSome=true)\/qk R oj=true:=by
    simp only[Bool.false_or,vi,vj,if_true,Bool.not_false,Bool.true_and]at eQ;simpa[or_assoc]using eQ
   rcases hp with hp | hp
   .have hq:H3=H2/\Ex P T Mv G oj σ.env σ.H z σ.H:=by
     rcases hp with hp | hp
     .exact⟨oo.keeps (by omega),oo.free hp σ.H⟩
     .obtain⟨pv,hpv⟩:=Option.isSome_iff_exists.1 hp;have hs:=(ZW _ (xF hpv)).1;refine aca bf hpv rO ?_ oo;unfold fK at hs ⊢;simp only[bf]at hs ⊢;split<;>simp_all
    obtain⟨rfl,e3⟩:=hq;refine⟨⟨au σ.env oj.dst z,σ.H⟩,⟨dj,gj,oE,.inr (.inr ⟨bj,vj,k2,rO,z,σ.H,e3,oz,rfl⟩)⟩,di,gi,oE.put oz _,.inr (.inl ⟨bi,vi,c,g,xs,y,H3,fS,?_,c7,bQ,ZW,oy,?_⟩)⟩
    .rw[<- tg fS (Zj _)];exact ti
    .rw[dR aG]
   .obtain⟨d,t,cs,hd,hn,rfl,hre⟩:=DL hp oo
    have jf:σ.H d=none:=by rw[<- bQ.2.1 d hd];exact hn
    refine⟨⟨au σ.env oj.dst z,aF σ.H d (.box t (cs.map AV.d))⟩,⟨dj,gj,oE,.inr (.inr ⟨bj,vj,k2,rO,z,_,hre _ _ jf,oz,rfl⟩)⟩,di,gi,oE.put oz _,.inr (.inl ⟨bi,vi,c,g,xs,y,patch R (aF σ.H d (.box t (cs.map AV.d))) H2,fS,?_,c7,bQ.swap (LP bQ.1) (Cv hd),fun p hp=>⟨(ZW p hp).1.swap (ZW p hp).2 (Cv hd),(ZW p hp).2⟩,oy,?_⟩)⟩
    .rw[<- tg fS (Zj _)];exact ti
    .rw[dR aG,Uj hd bQ.2.1]
 .rcases h2 with⟨bj,c',z,e2,c2,rfl⟩ | ⟨bj,vj,c',g,xs,z,H2,jK,tj,c7,bQ,ZW,oz,rfl⟩ | ⟨bj,vj,k2,l2,z,H2,e2,oz,rfl⟩
  .rw[iB (cE _)]at e2;refine⟨⟨au σ.env oj.dst (.d z),σ.H⟩,⟨dj,gj,oE,.inl ⟨bj,c',z,e2,c2,rfl⟩⟩,di,gi,oE.put (fL.d _ _) _,.inr (.inr ⟨bi,vi,k1,lda (Zj _) l1,x,H',e1.congr k1 (Zj _),ox,?_⟩)⟩;rw[dR aG]
  .rw[tg jK (cE _)]at tj;rw[bi,bj]at eQ
   have hp:(kindOf oi.op=0\/(ex.lookup i).isSome=true)\/qk R oi=true:=by
    simp only[Bool.false_or,vi,vj,if_true,Bool.false_eq_true,if_false]at eQ;simpa[or_assoc]using eQ
   have q5:=e1.congr k1 (Zj z);have l1':=lda (Zj z) l1
   rcases hp with (hp | hp) | hp
   .obtain rfl:=e1.keeps (by omega);refine⟨⟨au σ.env oj.dst z,H2⟩,⟨dj,gj,oE,.inr (.inl ⟨bj,vj,c',g,xs,z,H2,jK,tj,c7,bQ,ZW,oz,rfl⟩)⟩,di,gi,oE.put oz _,.inr (.inr ⟨bi,vi,k1,l1',x,H2,q5.free hp H2,ox,?_⟩)⟩;rw[dR aG]
   .obtain⟨pv,hpv⟩:=Option.isSome_iff_exists.1 hp;have hs:=(ZW _ (xF hpv)).1;have hH:H'=σ.H:=(aca (H2:=σ.H) bD hpv l1 (by unfold fK;simp only[bD];unfold fK at hs;simp only[bD]at hs;split<;>simp_all) e1).1;subst hH;obtain⟨_,e3⟩:=aca bD hpv l1' hs q5;refine⟨⟨au σ.env oj.dst z,H2⟩,⟨dj,gj,oE,.inr (.inl ⟨bj,vj,c',g,xs,z,H2,jK,tj,c7,bQ,ZW,oz,rfl⟩)⟩,di,gi,oE.put oz _,.inr (.inr ⟨bi,vi,k1,l1',x,H2,e3,ox,?_⟩)⟩;rw[dR aG]
   .obtain⟨d,t,cs,hd,hn,rfl,hre⟩:=DL hp q5;have hO:=Cv (H:=σ.H) (b:=.box t (cs.map AV.d)) hd;have OG:=bQ.swap (LQ bQ.1 hn) hO.symm
    have ZZ:patch R σ.H H2 d=none:=by unfold patch;rw[if_pos hd];exact hn
    refine⟨⟨au σ.env oj.dst z,patch R σ.H H2⟩,⟨dj,gj,oE,.inr (.inl ⟨bj,vj,c',g,xs,z,patch R σ.H H2,jK,tj,c7,OG,fun p hp=>⟨(ZW p hp).1.swap (ZW p hp).2 hO.symm,(ZW p hp).2⟩,oz,rfl⟩)⟩,di,gi,oE.put oz _,.inr (.inr ⟨bi,vi,k1,l1',x,_,hre _ _ ZZ,ox,?_⟩)⟩;rw[dR aG,Im hd,CB bQ.2.1]
  .rw[bi,bj]at eQ
   have YY:fM ops oi oj=true:=by simp only[fM,Bool.and_eq_true];simp only[Bool.false_or,vi,vj,Bool.false_eq_true,if_false]at eQ;exact⟨ck,eQ⟩
   obtain⟨H3,f1,f2⟩:=ab4 (N:=N) YY ⟨di,.inl ⟨fZ gi,e1⟩⟩ ⟨dj,.inl ⟨fZ gj,e2⟩⟩ k1 k2
   have un:∀ {o:Oper} {e:Env} {H H':Heap} {x:AV},o.guard=none->Sx P T Mv G N ops o e H x H'->Ex P T Mv G o e H x H':=fun bW h=>by
    rcases h.2 with⟨_,h⟩ | ⟨hw,_⟩
    .exact h
    .rw[fZ bW]at hw;cases hw
   refine⟨⟨au σ.env oj.dst z,H3⟩,⟨dj,gj,oE,.inr (.inr ⟨bj,vj,k2,lda (cE _) l2,z,H3,un gj f1,oz,rfl⟩)⟩,di,gi,oE.put oz _,.inr (.inr ⟨bi,vi,k1,lda (Zj _) l1,x,H2,un gi f2,ox,?_⟩)⟩;rw[dR aG]
def td (P:Program) (T:Ty) (Mv:Nat->Prop) (G:YI) (mvd R:List Nat) (ops:Array Oper) (ex:List (Nat×AV)) (g:FuncId) (xs:List AV) (σ:St) (dst:Option Tmp) (K:St->Prop):Prop:=∃ y H2,(∀ r∈mvd,Mv r)/\pw P G mvd R g xs σ.H y H2/\(∀ p∈ex,fK T ops σ.H H2 p/\acd R p.2=true)/\fL mvd y/\K ⟨au σ.env dst y,H2⟩
theorem Wy (o f:Nat->Nat->Nat->AV) (t:TypeId) (cs:List D):Row.tr o f (.box t (cs.map AV.d)) = .box t (cs.map AV.d):=by
 simp[Row.tr,AV.tr,Function.comp_def]
theorem Pz {l:List (Nat×Row)} {q:Nat} (h:(YH l q).isSome=true):∃ p∈l,p.1=q:=by
 induction l with
 | nil=>simp[YH]at h
 | cons p l ih=>
  simp only[YH,List.lookup]at h
  cases lR:(q == p.1) with
  | true=>exact⟨p,by simp,by simpa using (beq_iff_eq.1 lR).symm⟩
  | false=>
   rw[lR]at h;obtain⟨p',h1,h2⟩:=ih h;exact⟨p',by simp[h1],h2⟩
theorem td.mc {mvd R:List Nat} {ex:List (Nat×AV)} {dst:Option Tmp} {K:St->Prop} {fx:List Nat} {g:FuncId} {Z7 xs:List AV} {bg Zs:List (Nat×Row)} {y:AV} (hc:MC P G fx g xs (YH bg) y (YH Zs)) (hx:Z7.map (AV.tr (cT (bg.map (·.1))) (Zi (bg.map (·.1))))=xs)
  (hR:∀ r∈R,(bg.map (·.1)).contains r=false/\(Zs.map (·.1)).contains r=false/\(σ.H r=none\/∃ (t:TypeId) (cs:List D),σ.H r=some (.box t (cs.map AV.d))))
  (hH:∀ p∈bg,(σ.H p.1).map (Row.tr (cT (bg.map (·.1))) (Zi (bg.map (·.1))))=YH bg p.1) (hd:∀ p∈Zs,(bg.map (·.1)).contains p.1=true\/σ.H p.1=none) (hm:∀ r∈bg.map (·.1),fx.contains r=false->r∈mvd) (c7:∀ r∈mvd,Mv r) (ho:∀ r∈mvd,y.kill r=y)
  (hl:∀ p∈ex,fK T ops σ.H (aav (YH Zs) (Zg (eh (bg.map (·.1))) (Z6 (bg.map (·.1)) fx) (Z5 (bg.map (·.1)) fx) σ.H)) p/\acd R p.2=true)
  (h:K ⟨au σ.env dst y,aav (YH Zs) (Zg (eh (bg.map (·.1))) (Z6 (bg.map (·.1)) fx) (Z5 (bg.map (·.1)) fx) σ.H)⟩):td P T Mv G mvd R ops ex g Z7 σ dst K:=by
 have ax:∀ q,R.contains q=true->q∈R:=fun q hq=>List.contains_iff_mem.1 hq;have bQ:mN R σ.H:=fun q hq=>(hR q (ax q hq)).2.2
 have bA:∀ (H0:Heap),mN R H0->∀ q,R.contains q=true->aav (YH Zs) (Zg (eh (bg.map (·.1))) (Z6 (bg.map (·.1)) fx) (Z5 (bg.map (·.1)) fx) H0) q=H0 q:=fun H0 pX q hq=>by
  obtain⟨a1,a2,_⟩:=hR q (ax q hq)
  have e1:YH Zs q=none:=by
   cases he:YH Zs q with
   | none=>rfl
   | some r=>
    obtain⟨p,hp,rfl⟩:=Pz (l:=Zs) (q:=q) (by rw[he];rfl);have:(Zs.map (·.1)).contains p.1=true:=List.contains_iff_mem.2 (List.mem_map.2 ⟨p,hp,rfl⟩);rw[this]at a2;cases a2
  unfold aav;rw[e1];dsimp only;unfold Zg eh;rw[a1];simp only[Bool.not_false,if_true]
  rcases pX q hq with h0 | ⟨t,cs,h0⟩
  .rw[h0];rfl
  .rw[h0,Option.map_some,Wy]
 refine⟨y,_,c7,⟨bQ,bA σ.H bQ,fun H0 pX tN=>?_⟩,hl,ho,h⟩
 have qu:∀ p∈bg,R.contains p.1=false:=fun p hp=>by
  cases he:R.contains p.1 with
  | false=>rfl
  | true=>
   have h1:=(hR p.1 (ax _ he)).1;have:(bg.map (·.1)).contains p.1=true:=List.contains_iff_mem.2 (List.mem_map.2 ⟨p,hp,rfl⟩);rw[this]at h1;cases h1
 have xS:∀ p∈Zs,R.contains p.1=false:=fun p hp=>by
  cases he:R.contains p.1 with
  | false=>rfl
  | true=>
   have h1:=(hR p.1 (ax _ he)).2.1;have:(Zs.map (·.1)).contains p.1=true:=List.contains_iff_mem.2 (List.mem_map.2 ⟨p,hp,rfl⟩);rw[this]at h1;cases h1
 have key:=HC.mc (mvd:=mvd) (H:=H0) hc hx (fun p hp=>by rw[tN p.1 (qu p hp)];exact hH p hp) (fun p hp=>by rw[tN p.1 (xS p hp)];exact hd p hp) hm
 have e:patch R H0 (aav (YH Zs) (Zg (eh (bg.map (·.1))) (Z6 (bg.map (·.1)) fx) (Z5 (bg.map (·.1)) fx) σ.H))=aav (YH Zs) (Zg (eh (bg.map (·.1))) (Z6 (bg.map (·.1)) fx) (Z5 (bg.map (·.1)) fx) H0):=by
  funext q;unfold patch;split
  .rename_i hq;exact (bA H0 pX q hq).symm
  .rename_i hq
   have fT:R.contains q=false:=by simpa using hq
   unfold aav Zg;rw[tN q fT]
 rw[e];exact key
def yc (P:Program) (T:Ty) (Mv:Nat->Prop) (G:YI) (N:Fr) (mvd R db hv:List Nat) (ex:List (Nat×AV)) (ops:Array Oper) (i:Nat) (o:Oper) (σ:St) (K:St->Prop):Prop:=c8 N o/\o.guard=none/\
 if db.contains i=true then (match iR T G σ.env o with
  | some (c,y)=>c/\K ⟨au σ.env o.dst (.d y),σ.H⟩
  | none=>False)
 else if hv.contains i=true then (match Y0 o.op with
  | some c=>match ZS G σ.env c with
   | some (g,xs)=>td P T Mv G mvd R ops ex g xs σ o.dst K
   | none=>False
  | none=>False)
 else kindOf o.op≠9/\jk G ex i o σ.env/\match Y0 o.op with
  | some c=>kc P G c σ.env o.dst σ.H [] [] K
  | none=>uP T G Mv mvd o σ K
def nT (P:Program) (T:Ty) (Mv:Nat->Prop) (G:YI) (N:Fr) (mvd R db hv:List Nat) (ex:List (Nat×AV)) (ops:Array Oper) (K:St->Prop):List (Nat×Oper)->St->Prop
 | [],σ=>K σ
 | (i,o) :: rest,σ=>yc P T Mv G N mvd R db hv ex ops i o σ (nT P T Mv G N mvd R db hv ex ops K rest)
theorem V2 {mvd R db hv:List Nat} {ex:List (Nat×AV)} {K:St->Prop}:∀ (l:List Nat) (σ:St),(∀ i∈l,i < ops.size)->j8 mvd σ.env->nT P T Mv G N mvd R db hv ex ops K (YP ops l) σ->∃ aY,K aY/\Go.Av.fX (qQ P T Mv G N mvd R db hv ex ops) ops l σ aY:=by
 intro l
 induction l with
 | nil=>intro σ _ _ h;exact⟨σ,h,rfl⟩
 | cons i l ih=>
  intro σ hl ZQ h;have hi:=hl i (by simp)
  have ho:ops[i]? = some ops[i]:=by simp[hi]
  simp only[YP,ho]at h;generalize ops[i]=o at ho h;simp only[nT,yc]at h;obtain⟨hd,bW,h⟩:=h
  have fin:∀ YK,qQ P T Mv G N mvd R db hv ex ops i o σ YK->j8 mvd YK.env->nT P T Mv G N mvd R db hv ex ops K (YP ops l) YK->∃ aY,K aY/\Go.Av.fX (qQ P T Mv G N mvd R db hv ex ops) ops (i :: l) σ aY:=fun YK hs hE h1=>by
   obtain⟨aY,hk,hr⟩:=ih YK (fun j hj=>hl j (by simp[hj])) hE h1;exact⟨aY,hk,o,ho,YK,hs,hr⟩
  split at h
  .rename_i hb;split at h
   .rename_i c y hw;obtain⟨hc,h⟩:=h;exact fin _ ⟨hd,bW,ZQ,.inl ⟨hb,c,y,hw,hc,rfl⟩⟩ (ZQ.put (fL.d _ _) _) h
   .exact h.elim
  .rename_i hb
   have hb:db.contains i=false:=by simpa using hb
   split at h
   .rename_i hv1;split at h
    .rename_i c hc;split at h
     .rename_i g xs ht;obtain⟨y,H2,h0,h1,h2,h3,h⟩:=h;exact fin _ ⟨hd,bW,ZQ,.inr (.inl ⟨hb,hv1,c,g,xs,y,H2,hc,ht,h0,h1,h2,h3,rfl⟩)⟩ (ZQ.put h3 _) h
     .exact h.elim
    .exact h.elim
   .rename_i hv1
    have hv1:hv.contains i=false:=by simpa using hv1
    obtain⟨hk,je,h⟩:=h;split at h
    .rename_i c hc;obtain⟨y,g,ds,ht,hp,dN,h⟩:=h;refine fin _ ⟨hd,bW,ZQ,.inr (.inr ⟨hb,hv1,hk,je,.d y,σ.H,?_,fL.d _ _,rfl⟩)⟩ (ZQ.put (fL.d _ _) _) h;unfold Ex;simp only[hc];exact⟨y,⟨g,_,ht,.inl ⟨ds,rfl,hp⟩⟩,rfl,trivial⟩
    .rename_i hc;unfold uP at h;split at h
     .rename_i hw;split at h
      .rename_i c x YK h1;obtain⟨YY,dN,h⟩:=h;have he:=si hk h1;obtain⟨e,H⟩:=σ;obtain⟨e1,H1⟩:=YK;dsimp only at he;subst he;refine fin _ ⟨hd,bW,ZQ,.inr (.inr ⟨hb,hv1,hk,je,x,H1,?_,dN,rfl⟩)⟩ (ZQ.put dN _) h;unfold Ex;simp only[hc];rw[if_pos hw];exact⟨c,h1,YY⟩
      .exact h.elim
     .rename_i hw;split at h
      .rename_i c x h1;obtain⟨YY,dN,h⟩:=h;refine fin _ ⟨hd,bW,ZQ,.inr (.inr ⟨hb,hv1,hk,je,x,σ.H,?_,dN,rfl⟩)⟩ (ZQ.put dN _) h;unfold Ex;simp only[hc];rw[if_neg hw];exact⟨c,h1,YY,trivial⟩
      .exact h.elim
theorem Kj (hg:Good P T) (hm:P.follows .mixedOrders=true) (mvd R db hv:List Nat) (ex:List (Nat×AV)) (ord:List Nat) {id:Nat} (bp:k8 (vI R db hv ex ops) ord ops=true) (ZQ:j8 mvd σ.env) {Q:Exit->St->Prop} (h:nT P T Mv G N mvd R db hv ex ops (fun ag=>Q .normal ag) (YP ops ord) σ):AW P Mv X G N (.region id ops true) Q σ:=
 acM hm (Lg hg mvd R db hv ex) (Lh mvd R db hv ex) ord bp fun YJ=>V2 ord σ YJ ZQ h
theorem Kf (hg:Good P T) (hm:P.follows .mixedOrders=true) (mvd R db hv:List Nat) (ex:List (Nat×AV)) (ord:List Nat) (l ns:List Nat) (hM:∀ r,ns.contains r=false->Mv r) {id:Nat} (bp:k8 (vI R db hv ex ops) ord ops=true) (ZQ:j8 mvd σ.env) {y:Code} {Q:Exit->St->Prop}
  (h:∀ K:St->Prop,(∀ τ:St,AW P Mv X G N y Q (τ.norm l ns)->K τ)->nT P T Mv G N mvd R db hv ex ops K (YP ops ord) σ):AW P Mv X G N (.seq (.region id ops true) y) Q σ:=
 pq (Kj hg hm mvd R db hv ex ord bp ZQ (h _ fun _ h=>h.norm l ns hM))
theorem u9 {mvd R db hv:List Nat} {ex:List (Nat×AV)} {K:St->Prop} {i:Nat} {l:List Nat} {o:Oper} (ho:ops[i]? = some o) (h:∀ K':St->Prop,(∀ τ,nT P T Mv G N mvd R db hv ex ops K (YP ops l) τ->K' τ)->yc P T Mv G N mvd R db hv ex ops i o σ K'):nT P T Mv G N mvd R db hv ex ops K (YP ops (i :: l)) σ:=by
 have:YP ops (i :: l)=(i,o) :: YP ops l:=by simp[YP,ho]
 rw[this];exact h _ fun _ h=>h
theorem V1 {mvd R db hv:List Nat} {ex:List (Nat×AV)} {K:St->Prop} (h:K σ):nT P T Mv G N mvd R db hv ex ops K (YP ops []) σ:=h
end
attribute [simp] yc
attribute [simp] acd
end Go.Av
namespace Go.Proofs.YtdigkhaofjmgkaaGreatDoor
open Go.Av
theorem T7 (l:List Int):(∀ el∈l.map (fun n=>[D.v (.int .i64 n)]),el.length=1)=True:=eq_true (by simp)
theorem one_one (l:List Int):(∀ el∈l.map (fun n=>[D.v (.int .i64 n)]),∀ c∈el,c.one=true)=True:=eq_true (by simp[D.one])
theorem aez (l:List Bool):(∀ el∈l.map (fun n=>[D.v (.bool n)]),el.length=1)=True:=eq_true fun el h=>by obtain⟨b,_,rfl⟩:=List.mem_map.1 h;rfl
theorem aeA (l:List Bool):(∀ el∈l.map (fun n=>[D.v (.bool n)]),∀ c∈el,c.one=true)=True:=eq_true fun el h c hc=>by
 obtain⟨b,_,rfl⟩:=List.mem_map.1 h;obtain rfl:=List.mem_singleton.1 hc;rfl
theorem LO (G:YI) (l:List Int) (h:l.length < 2^40):MC prog G [] 131 [.d (eG l)] (YH []) (.own 702 0 l.length) (YH [(702,.sl 3 1 (l.map fun n=>[.v (.int .i64 n)]))]):=by
 have gD:(l.map fun n=>[D.v (.int .i64 n)]).length=l.length:=by simp
 have q1:=T7 l;have q2:=one_one l;simp only[eG];rw[<- gD];rw[<- gD]at h;generalize (l.map fun n=>[D.v (.int .i64 n)])=L at *;refine MC.aI (aw _) func131 rfl rfl (rs:=[.tmp 2]) results131 (by simp[ntmps131]) rfl fun X=>?_;simp only[ntmps131];refine AW.Cl 0 rfl ?_ fun hl=>?_
 .refine al [0] [] ?_;refine ae fun K1 ay=>?_;refine al [0,4] [] ?_;refine kI false rfl (fun hc=>by cases hc) (fun hc=>?_);refine ao (ay _ ?_);have qf:=(Aq @q1 @q2);refine aB [2] [5] ?_;refine AW.imp (aC.cU (r:=5) (r':=702) (by decide) (by simp)) ?_;refine AW.st (by simp[gr,gq,Go.Av.cU,abl];rfl) ?_;exact dK
 .subst hl;refine al [0] [] ?_;refine ae fun K1 ay=>?_;refine al [0,4] [] ?_;refine kI true rfl (fun hc=>?_) (fun hc=>by cases hc);refine al [2] [] ?_;refine AW.imp (aC.lu 2 702 3 1 rfl rfl) ?_;refine AW.st (by simp;rfl) ?_;exact dK
theorem LN (G:YI) (l:List Bool) (h:l.length < 2^40):MC prog G [] 130 [.d (eW l)] (YH []) (.own 701 0 l.length) (YH [(701,.sl 4 1 (l.map fun n=>[.v (.bool n)]))]):=by
 have gD:(l.map fun n=>[D.v (.bool n)]).length=l.length:=by simp
 have q1:=aez l;have q2:=aeA l;simp only[eW];rw[<- gD];rw[<- gD]at h;generalize (l.map fun n=>[D.v (.bool n)])=L at *;refine MC.aI (aw _) func130 rfl rfl (rs:=[.tmp 2]) results130 (by simp[ntmps130]) rfl fun X=>?_;simp only[ntmps130];refine AW.Cl 0 rfl ?_ fun hl=>?_
 .refine al [0] [] ?_;refine ae fun K1 ay=>?_;refine al [0,4] [] ?_;refine kI false rfl (fun hc=>by cases hc) (fun hc=>?_);refine ao (ay _ ?_);have qf:=(Aq @q1 @q2);refine aB [2] [5] ?_;refine AW.imp (aC.cU (r:=5) (r':=701) (by decide) (by simp)) ?_;refine AW.st (by simp[gr,gq,Go.Av.cU,abl];rfl) ?_;exact dK
 .subst hl;refine al [0] [] ?_;refine ae fun K1 ay=>?_;refine al [0,4] [] ?_;refine kI true rfl (fun hc=>?_) (fun hc=>by cases hc);refine al [2] [] ?_;refine AW.imp (aC.lu 2 701 4 1 rfl rfl) ?_;refine AW.st (by simp;rfl) ?_;exact dK
theorem uE {s:Tx} (h:eR s=true):s≠[]:=(rQ h).1
theorem yV {S1 S2:Tx->Prop}:∀ (n:Nat) (e:Ex),SizeOf.sizeOf e<=n->cD e->(∀ s∈Y6 true e,S1 s)->(∀ s∈Y6 false e,S2 s)->gb S1 S2 e
 | 0,e,hn,_,_,_=>by cases e<;>simp at hn
 | n+1,e,hn,hw,h1,h2=>by
  have many:∀ l:List Ex,(∀ x∈l,SizeOf.sizeOf x<=n)->(∀ s∈eg true l,S1 s)->(∀ s∈eg false l,S2 s)->(∀ x∈l,cD x)->mM S1 S2 l:=by
   intro l
   induction l with
   | nil=>intro _ _ _ _;rw[mM];trivial
   | cons x l ih=>
    intro hs h1 h2 h3;simp only[eg,List.mem_append]at h1 h2;rw[mM];exact⟨yV n x (hs x (by simp)) (h3 x (by simp)) (fun s h=>h1 s (.inl h)) (fun s h=>h2 s (.inl h)),ih (fun y hy=>hs y (by simp[hy])) (fun s h=>h1 s (.inr h)) (fun s h=>h2 s (.inr h)) (fun y hy=>h3 y (by simp[hy]))⟩
  cases e with
  | dT b=>rw[gb];trivial
  | bit s=>
   rw[gb];rw[cD]at hw;exact h1 s (by simp[Y6,cG,gI,uE hw])
  | fW s=>
   rw[gb];rw[cD]at hw;exact⟨h1 s (by simp[Y6,cG,gI,uE hw]),h2 s (by simp[Y6,cG,gI,uE hw])⟩
  | fO s=>
   rw[gb];rw[cD]at hw;exact⟨h1 s (by simp[Y6,cG,gI,uE hw]),h2 s (by simp[Y6,cG,gI,uE hw])⟩
  | not x=>
   rw[gb];rw[cD]at hw;exact yV n x (by simp at hn;omega) hw (fun s h=>h1 s (by rw[Y6];exact h)) (fun s h=>h2 s (by rw[Y6];exact h))
  | and l=>
   rw[gb];rw[cD]at hw;exact many l (fun x hx=>by have:=List.sizeOf_lt_of_mem hx;simp only[Ex.and.sizeOf_spec]at hn;omega) (fun s h=>h1 s (by rw[Y6];exact h)) (fun s h=>h2 s (by rw[Y6];exact h)) ((iO l).1 hw.2)
  | or l=>
   rw[gb];rw[cD]at hw;exact many l (fun x hx=>by have:=List.sizeOf_lt_of_mem hx;simp only[Ex.or.sizeOf_spec]at hn;omega) (fun s h=>h1 s (by rw[Y6];exact h)) (fun s h=>h2 s (by rw[Y6];exact h)) ((iO l).1 hw.2)
theorem DT {S1 S2:Tx->Prop} {e:Ex} (hw:cD e) (h1:∀ s∈Y6 true e,S1 s) (h2:∀ s∈Y6 false e,S2 s):gb S1 S2 e:=yV _ e (Nat.le_refl _) hw h1 h2
theorem VB (p:YM) (s t0:Zd) {n:Nat} (h:n < p.ar.length):(p.ar.take (n+1)).foldl (lg p s) t0=lg p s ((p.ar.take n).foldl (lg p s) t0) p.ar[n]:=by
 rw[List.take_succ_eq_append_getElem h,List.foldl_append];rfl
theorem Vz {p:YM} (hc:Y3 p=none) (hk:∀ r∈p.ar,j4 r) {r:fh} (hr:r∈p.ar):∃ e,r.cond=some e/\gb (fun nm=>¬ YW p nm < 0) (fun nm=>¬ YW p nm < 0) e/\bE e<=2^28:=by
 obtain⟨e,he,hw,_,hb⟩:=hk r hr;obtain⟨_,_,e',he',ax⟩:=ab3 hc r hr;rw[he]at he';obtain rfl:=Option.some.inj he';refine⟨e,he,DT hw (fun s hs=>ax s (qq.2 hs)) (fun s hs=>ax s (Cg (qq.2 hs))),by omega⟩
theorem Em (G:YI) (p:YM) (aS:Y3 p=none) (hk:∀ r∈p.ar,j4 r) (s:Zd) (hs:eN p s) (de:List Bool) (ax:de.length=(YQ p).length):aq prog G 66 [cA p,kN s,eW de] (kN (jB p s de)):=by
 have hg:=ZU aS;have gZ:=hg.names;have xa:=hg.ar;have dH:=hs.l1;have Zv:=hs.l2;have jO:=B0 G p (by omega) 1;have wD:=LN G s.is (by omega);have fS:=LO G s.ct (by omega);have bK:=fun x=>nN G p (by omega) x;have hiL:=acG p.names 1 p.names.length;obtain⟨t0,nI,zW⟩:∃ t0,t0=(⟨jU (YQ p) de s.is (YQ p).length,s.ct⟩:Zd)/\eN p t0:=⟨_,rfl,(ac4 de hs _ (Nat.le_refl _)).1⟩;obtain⟨T,hT⟩:∃ T:Nat->Zd,∀ n,T n=(p.ar.take n).foldl (lg p s) t0:=⟨_,fun _=>rfl⟩;have Ob:T 0=t0:=hT 0
 have Og:∀ n (h:n < p.ar.length),T (n+1)=lg p s (T n) p.ar[n]:=fun n h=>by rw[hT,hT,VB p s t0 h]
 have Oc:T p.ar.length=jB p s de:=by rw[hT,List.take_length,nI];rfl
 have FM:∀ n,eN p (T n):=fun n=>by rw[hT];exact (CP aS s _ (fun r hr=>List.mem_of_mem_take hr) zW).1
 have iF:∀ n (h:n < p.ar.length),∃ e,p.ar[n].cond=some e/\aq prog G 51 [dE e,.fn (.func 132) [.ip (iQ (T n)),.ip (cy p)],.fn (.func 133) [.ip (iQ s),.ip (cy p)]] (.v (.bool (eX (aaE p (T n).is) (aaE p s.is) e))):=fun n h=>by
  obtain⟨e,he,ha,hb⟩:=Vz aS hk (List.getElem_mem h);exact⟨e,he,EK G _ _ _ _ _ _ _ _ (Lc G p (by omega) (T n) (FM n).l1) (Ld G p (by omega) s dH) e ha hb⟩
 clear hT;rw[<- Oc];have GH:∀ k,k<=(YQ p).length->(jU (YQ p) de s.is k).length=p.names.length:=fun k hk=>(ac4 de hs k hk).1.l1
 have GF:∀ k (h:k < (YQ p).length) (h2:k < de.length),∃ i,i < p.names.length/\(YQ p)[k]=(i:Int)/\jU (YQ p) de s.is (k+1)=(jU (YQ p) de s.is k).set i de[k]:=fun k h h2=>by
  obtain⟨i,hi,he,_⟩:=xq h;refine⟨i,hi,he,?_⟩;rw[Ix h he];congr 1;exact cr h2
 have Gz:jU (YQ p) de s.is 0=s.is:=rfl;have fC:t0=⟨jU (YQ p) de s.is (YQ p).length,s.ct⟩:=nI;clear nI;generalize NZ:jU (YQ p) de s.is=PI at GH GF Gz fC;clear NZ;have ny:gF p.names 1 p.names.length=YQ p:=rfl;rw[ny]at jO hiL;generalize YQ p=KI at *;simp only[cA,cy,cz,cu,eW,eG,iQ]at jO wD fS bK iF;simp only[cA,cy,cz,cu,kN,iQ,eW,eG]
 have me:(p.names.map bk).length=p.names.length:=by simp
 have iY:∀ i (h:i < p.names.length),(p.names.map bk)[i]? = some [.v (.string (bs p.names[i].name)),.v (.int .i64 p.names[i].kind),.v (.int .i64 p.names[i].count)]:=fun i h=>by simp[h,bk,dS]
 have b9:(p.ar.map bF).length=p.ar.length:=by simp
 have N7:∀ i (h:i < p.ar.length),(p.ar.map bF)[i]? = some (bF p.ar[i]):=fun i h=>by simp[h]
 generalize p.names.map bk=NN at *;generalize p.ar.map bF=RR at *;refine aq.aI (aw _) func66 rfl rfl (rs:=[.cell 6 68]) results66 (by simp[ntmps66]) fun X=>?_;simp only[ntmps66,List.map];have fw:=@YG.eq_1;refine ab fw [2,3,4,6] [3,4,6] ?_;refine cq fw 3 ?_;refine cq fw 4 ?_;refine Kf (aw _) (by kernel_rfl) ([]) ([7]) ([]) ([2,5]) ([(1,.d (.ip [.sl none (s.is.map fun b=>[.v (.bool b)]),.sl none (s.ct.map fun n=>[.v (.int .i64 n)])])),(4,.d (.ip [.sl none (s.ct.map fun n=>[.v (.int .i64 n)])]))]) (List.range 9) [2,3,4,6,7] [6,7,701,702] (fun _ _=>trivial) (by kernel_rfl) (by simp[j8]) fun K' ah=>?_;(repeat (refine u9 rfl fun K2 aa=>?_;simp[YG];(repeat (refine⟨by omega,?_⟩));refine aa _ ?_;clear aa K2));refine u9 rfl fun K2 aa=>?_;simp[YG];refine td.mc (wD) (by simp[YG]) (by simp[YG]) (by simp[YG]) (by simp[YG]) (by simp[YG]) (by simp[YG]) (by simp[YG]) (by simp[fK,YG]) ?_;simp[YG];refine aa _ ?_;clear aa K2;(repeat (refine u9 rfl fun K2 aa=>?_;simp[YG];(repeat (refine⟨by omega,?_⟩));refine aa _ ?_;clear aa K2));refine u9 rfl fun K2 aa=>?_;simp[YG];refine td.mc (fS) (by simp[YG]) (by simp[YG]) (by simp[YG]) (by simp[YG]) (by simp[YG]) (by simp[YG]) (by simp[YG]) (by simp[fK,YG]) ?_;simp[YG];refine aa _ ?_;clear aa K2;(repeat (refine u9 rfl fun K2 aa=>?_;simp[YG];(repeat (refine⟨by omega,?_⟩));refine aa _ ?_;clear aa K2));refine V1 (ah _ ?_);refine AW.st (by simp[YG];rfl) ?_;clear ah K';refine ae fun K1 ay=>?_;refine aP fw jO [2,3,4,6,7,24,25,26] [6,7,701,702] ?_;refine Zb (S:=Nat) (fun k=>k<=KI.length) (fun k=>⟨aZ [(2,.d (.sl none (de.map fun b=>[.v (.bool b)]))),(3,.d (.ip [.sl none NN,.sl none RR])),(4,.d (.ip [.sl none (s.is.map fun b=>[.v (.bool b)]),.sl none (s.ct.map fun n=>[.v (.int .i64 n)])])),(6,.ref 6 0 0),(7,.ref 7 0 0),(24,.d (.sl none (KI.map fun x=>[.v (.int .i64 x)]))),(25,int KI.length),(26,int k)],YH [(6,.box 68 [.d (.sl (some false) []),.d (.sl (some false) [])]),(7,.box 68 [.own 701 0 (PI k).length,.own 702 0 s.ct.length]),(701,.sl 4 1 ((PI k).map fun b=>[.v (.bool b)])),(702,.sl 3 1 (s.ct.map fun n=>[.v (.int .i64 n)]))]⟩) (fun k=>KI.length - k) 0 ?_ (by omega) ?_
 .rw[Gz];refine bz fw
 .intro k nz;have kh:=GH k nz;have pV:=GF k;generalize gW:PI k=P at kh pV ⊢;refine ab fw [2,3,4,6,7,24,25,26,27] [6,7,701,702] ?_;refine ae fun K2 aa=>?_;refine eM (b:=k < KI.length) (by simp[D.le,D.le.go,aQ,YG]) (fun hc=>?_) (fun hc=>?_)
  .have YJ:=hc
   have jd:k < de.length:=by omega
   obtain⟨i,hi,hKi,N2⟩:=pV YJ jd
   have Y8:i < P.length:=by omega
   refine ao (aa _ ?_);refine ae fun K3 YS=>?_;refine YR ?_;have qf:=(Aq fw (Aq @YJ @hKi));refine aB [2,3,4,6,7,8,9,24,25,26] [6,7,701,702] ?_;refine abG (aw _) (by kernel_rfl) [(1,7),(6,999),(7,701),(8,701)] (by kernel_rfl) fun K' ah=>?_;(repeat (refine nZ fun K2 aa=>?_;simp[YG,Y8,jd];(repeat (refine⟨by omega,?_⟩));refine aa _ ?_;clear aa K2));refine n0 (ah _ ?_);clear ah K';refine YS _ (AW.norm [2,3,4,6,7,24,25,26] [6,7,701,702] (fun _ _=>trivial) (AW.st (by simp[YG,Y8,jd];rfl) ?_));refine cf fw ?_;(try simp only[YO,bd]);refine bn.mk (k+1) (by omega) (by omega) ?_;rw[N2];refine aC.cO (fun _ _=>trivial) (by simp[YG,List.map_set]) (by simp[YG,List.map_set])
  .have lN:k=KI.length:=by omega
   refine bY (ay _ ?_)
   have Qq:t0=⟨P,s.ct⟩:=by rw[fC,<- lN,gW]
   refine ab fw [3,4,6,7,10] [6,7,701,702] ?_;refine ab fw [3,6,7,10,11] [6,7,701,702] ?_;refine ae fun K4 Y4=>?_;refine ab fw [3,6,7,10,11,43,44,45] [6,7,701,702] ?_;refine Zb (S:=Nat) (fun n=>n<=p.ar.length) (fun n=>⟨aZ [(3,.d (.ip [.sl none NN,.sl none RR])),(6,.ref 6 0 0),(7,.ref 7 0 0),(10,.fn (.func 132) [.ref 7 0 0,.d (.ip [.sl none NN,.sl none RR])]),(11,.d (.fn (.func 133) [.ip [.sl none (s.is.map fun b=>[.v (.bool b)]),.sl none (s.ct.map fun n=>[.v (.int .i64 n)])],.ip [.sl none NN,.sl none RR]])),(43,.d (.sl none RR)),(44,int RR.length),(45,int n)],YH [(6,.box 68 [.d (.sl (some false) []),.d (.sl (some false) [])]),(7,.box 68 [.own 701 0 (T n).is.length,.own 702 0 (T n).ct.length]),(701,.sl 4 1 ((T n).is.map fun b=>[.v (.bool b)])),(702,.sl 3 1 ((T n).ct.map fun n=>[.v (.int .i64 n)]))]⟩) (fun n=>p.ar.length - n) 0 ?_ (by omega) ?_
   .rw[Ob,Qq];refine bz fw
   .intro n hn;have FN:=Og n;have rq:=FM n;have Ai:=iF n;generalize Oe:T n=tn at FN rq Ai ⊢;obtain⟨I,C⟩:=tn;have oA:=rq.l1;have NF:=rq.l2;have oS:=QX aS rq;dsimp only at oA NF oS Ai ⊢;refine ab fw [3,6,7,10,11,43,44,45,46] [6,7,701,702] ?_;refine ae fun K5 b8=>?_;by_cases YJ:n < p.ar.length
    .have bZ:n < RR.length:=by omega
     have fA:(n:Int) < (RR.length:Int):=by omega
     refine YL (by simp[bZ]) ?_;refine ao (b8 _ ?_);refine ae fun K6 dD=>?_;refine YR ?_;obtain⟨e,he,aD⟩:=Ai YJ;obtain⟨i,hi,hni,_,oB⟩:=Jo aS (List.getElem_mem YJ);obtain⟨hkr,_⟩:=ab3 aS _ (List.getElem_mem YJ);have Ze:=FN YJ;have kQ:=N7 n YJ;have oP:=bK p.ar[n].name;rw[hni]at oP;unfold lg at Ze;simp only[hni,Int.toNat_natCast,oB,he,EI]at Ze;unfold bF at kQ;rw[he]at kQ;generalize p.ar[n]=r at kQ oP hkr Ze;obtain⟨rk,rn,rc⟩:=r;dsimp only at kQ oP hkr Ze;generalize eX (aaE p I) (aaE p s.is) e=yes at aD Ze;obtain⟨vT,ev,wH⟩:=dX e;rw[show dC (some e)=dE e from rfl,wH]at kQ;rw[wH]at aD;simp only[dS]at oP kQ;have hNi:=iY i hi
     have bO:i < I.length:=by omega
     have Y8:i < C.length:=by omega
     have p7:i < NN.length:=by omega
     have abu:NN[i]=[.v (.string (bs p.names[i].name)),.v (.int .i64 p.names[i].kind),.v (.int .i64 p.names[i].count)]:=by
      rw[List.getElem?_eq_getElem p7]at hNi;exact Option.some.inj hNi
     have N8:RR[n]=[.v (.int .i64 rk),.v (.string (bs rn)),.bh vT ev]:=by
      rw[List.getElem?_eq_getElem bZ]at kQ;exact Option.some.inj kQ
     have bt:=Vv G ⟨I,C⟩ i p.names[i].count yes bO Y8 (fun x hx=>by have:=oS x hx;omega);generalize p.names[i].count=m at abu Ze bt;generalize p.names[i].name=XT at abu;generalize p.names[i].kind=XN at abu;have qf:=(Aq fw (Aq @bZ (Aq @fA @N8)));refine aB [3,6,7,10,11,13,43,44,45] [6,7,701,702,13] ?_;refine cq fw 13 ?_;refine aP fw oP [3,6,7,10,11,13,14,43,44,45] [6,7,701,702] ?_;refine rg [3,6,7,10,11,13,14,15,43,44,45] [6,7,701,702] (fun _ _=>trivial) fun K' ah=>?_;(repeat (refine aJ fun K2 aa=>?_;simp[YG];(repeat (refine⟨by omega,?_⟩));refine aa _ ?_;clear aa K2));refine aJ fun K2 aa=>?_;simp[YG];refine bU.aa3 (aD) (by simp;rfl) (by first | exact D.ba _ | simp[aQ,List.map_map,Function.comp_def,D.le,D.le.go,D.le_refl,D.ba,YG]) (by simp[D.scalar]) ?_;refine aa _ ?_;clear aa K2;simp only[au,cw];(repeat (refine aJ fun K2 aa=>?_;simp[YG];(repeat (refine⟨by omega,?_⟩));refine aa _ ?_;clear aa K2));refine YZ (ah _ (AW.st (by simp[YG];rfl) ?_));clear ah K';refine ab fw [3,6,7,10,11,14,15,43,44,45,59] [6,7,701,702] ?_;refine YR ?_
     have Po:rk=1\/rk=2\/rk=3\/rk=4\/rk=5\/rk=6:=by omega
     rcases Po with rfl | rfl | rfl | rfl | rfl | rfl
     .have Ze:=Ze;simp at Ze;refine ab fw [3,6,7,10,11,14,15,43,44,45,59,60] [6,7,701,702] ?_;refine YL rfl ?_;have qf:=(Aq fw @bO);refine gK dD [3,6,7,10,11,43,44,45] [6,7,701,702] ?_;refine cf fw ?_;(try simp only[YO,bd]);refine bn.mk (n+1) (by omega) (by omega) ?_;rw[Ze];refine aC.cO (fun _ _=>trivial) (by simp[YG,List.map_set]) (by simp[YG,List.map_set])
     .have Ze:=Ze;rw[cr bO]at Ze;refine ab fw [3,6,7,10,11,14,15,43,44,45,59,60] [6,7,701,702] ?_;refine af rfl ?_;refine ab fw [3,6,7,10,11,14,15,43,44,45,59,67] [6,7,701,702] ?_;refine YL rfl ?_
      cases kg:I[i] with
      | true=>
       rw[kg]at Ze;simp at Ze;refine abG (aw _) (by kernel_rfl) [(1,7),(4,7),(6,701),(7,701),(11,701),(12,701)] (by kernel_rfl) fun K' ah=>?_;(repeat (refine nZ fun K2 aa=>?_;simp[YG,bO,kg];(repeat (refine⟨by omega,?_⟩));refine aa _ ?_;clear aa K2));refine n0 (ah _ ?_);clear ah K';refine dD _ (AW.norm [3,6,7,10,11,43,44,45] [6,7,701,702] (fun _ _=>trivial) (AW.st (by simp[YG,bO,kg];rfl) ?_));refine cf fw ?_;(try simp only[YO,bd]);refine bn.mk (n+1) (by omega) (by omega) ?_;rw[Ze];refine aC.cO (fun _ _=>trivial) (by simp[YG,List.map_set]) (by simp[YG,List.map_set])
      | false=>
       rw[kg]at Ze;simp at Ze;refine abG (aw _) (by kernel_rfl) [(1,7),(4,7),(6,701),(7,701),(11,701),(12,701)] (by kernel_rfl) fun K' ah=>?_;(repeat (refine nZ fun K2 aa=>?_;simp[YG,bO,kg];(repeat (refine⟨by omega,?_⟩));refine aa _ ?_;clear aa K2));refine n0 (ah _ ?_);clear ah K';refine dD _ (AW.norm [3,6,7,10,11,43,44,45] [6,7,701,702] (fun _ _=>trivial) (AW.st (by simp[YG,bO,kg];rfl) ?_));refine cf fw ?_;(try simp only[YO,bd]);refine bn.mk (n+1) (by omega) (by omega) ?_;rw[Ze];refine aC.cO (fun _ _=>trivial) (by simp[YG,List.map_set]) (by simp[YG,List.map_set])
     .have Ze:=Ze;rw[cr bO]at Ze;refine ab fw [3,6,7,10,11,14,15,43,44,45,59,60] [6,7,701,702] ?_;refine af rfl ?_;refine ab fw [3,6,7,10,11,14,15,43,44,45,59,67] [6,7,701,702] ?_;refine af rfl ?_;refine ab fw [3,6,7,10,11,14,15,43,44,45,59,81] [6,7,701,702] ?_;refine YL rfl ?_
      cases kg:I[i] with
      | true=>
       rw[kg]at Ze;simp at Ze;refine abG (aw _) (by kernel_rfl) [(1,7),(4,7),(6,701),(7,701),(12,701),(13,701)] (by kernel_rfl) fun K' ah=>?_;(repeat (refine nZ fun K2 aa=>?_;simp[YG,bO,kg];(repeat (refine⟨by omega,?_⟩));refine aa _ ?_;clear aa K2));refine n0 (ah _ ?_);clear ah K';refine dD _ (AW.norm [3,6,7,10,11,43,44,45] [6,7,701,702] (fun _ _=>trivial) (AW.st (by simp[YG,bO,kg];rfl) ?_));refine cf fw ?_;(try simp only[YO,bd]);refine bn.mk (n+1) (by omega) (by omega) ?_;rw[Ze];refine aC.cO (fun _ _=>trivial) (by simp[YG,List.map_set]) (by simp[YG,List.map_set])
      | false=>
       rw[kg]at Ze;simp at Ze;refine abG (aw _) (by kernel_rfl) [(1,7),(4,7),(6,701),(7,701),(12,701),(13,701)] (by kernel_rfl) fun K' ah=>?_;(repeat (refine nZ fun K2 aa=>?_;simp[YG,bO,kg];(repeat (refine⟨by omega,?_⟩));refine aa _ ?_;clear aa K2));refine n0 (ah _ ?_);clear ah K';refine dD _ (AW.norm [3,6,7,10,11,43,44,45] [6,7,701,702] (fun _ _=>trivial) (AW.st (by simp[YG,bO,kg];rfl) ?_));refine cf fw ?_;(try simp only[YO,bd]);refine bn.mk (n+1) (by omega) (by omega) ?_;rw[Ze];refine aC.cO (fun _ _=>trivial) (by simp[YG,List.map_set]) (by simp[YG,List.map_set])
     .have Ze:=Ze;simp at Ze;refine ab fw [3,6,7,10,11,14,15,43,44,45,59,60] [6,7,701,702] ?_;refine af rfl ?_;refine ab fw [3,6,7,10,11,14,15,43,44,45,59,67] [6,7,701,702] ?_;refine af rfl ?_;refine ab fw [3,6,7,10,11,14,15,43,44,45,59,81] [6,7,701,702] ?_;refine af rfl ?_;refine ab fw [3,6,7,10,11,14,15,43,44,45,59,96] [6,7,701,702] ?_;refine YL rfl ?_;obtain⟨I2,C2,zX,NO,ND⟩:∃ I2 C2,fX ⟨I,C⟩ i m yes=⟨I2,C2⟩/\I2.length=I.length/\C2.length=C.length:=⟨_,_,rfl,by simp,by simp⟩;rw[zX]at bt Ze;simp only[stR,YG]at bt
      have gC:i < I2.length:=by omega
      have ZY:i < C2.length:=by omega
      have qf:=(Aq fw (Aq @p7 @abu));refine ld bt [3,6,7,10,11,14,15,43,44,45] [6,7,701,702] ?_;refine ab fw [3,6,7,10,11,14,43,44,45,108] [6,7,701,702] ?_
      cases yes with
      | true=>
       simp only[if_true]at Ze;refine af rfl ?_;refine ao ?_;refine dD _ (AW.norm [3,6,7,10,11,43,44,45] [6,7,701,702] (fun _ _=>trivial) (AW.st (by simp[YG];rfl) ?_));refine cf fw ?_;(try simp only[YO,bd]);refine bn.mk (n+1) (by omega) (by omega) ?_;rw[Ze];refine aC.cO (fun _ _=>trivial) (by simp[YG,List.map_set]) (by simp[YG,List.map_set])
      | false=>
       simp only[Bool.false_eq_true,if_false,qP]at Ze;refine YL rfl ?_;have qf:=(Aq fw (Aq @gC @ZY));refine gK dD [3,6,7,10,11,43,44,45] [6,7,701,702] ?_;refine cf fw ?_;(try simp only[YO,bd]);refine bn.mk (n+1) (by omega) (by omega) ?_;rw[Ze];refine aC.cO (fun _ _=>trivial) (by simp[YG,List.map_set]) (by simp[YG,List.map_set])
     .have Ze:=Ze;simp at Ze;refine ab fw [3,6,7,10,11,14,15,43,44,45,59,60] [6,7,701,702] ?_;refine af rfl ?_;refine ab fw [3,6,7,10,11,14,15,43,44,45,59,67] [6,7,701,702] ?_;refine af rfl ?_;refine ab fw [3,6,7,10,11,14,15,43,44,45,59,81] [6,7,701,702] ?_;refine af rfl ?_;refine ab fw [3,6,7,10,11,14,15,43,44,45,59,96] [6,7,701,702] ?_;refine af rfl ?_;refine ab fw [3,6,7,10,11,14,15,43,44,45,59,117] [6,7,701,702] ?_;refine YL rfl ?_;obtain⟨I2,C2,zX,NO,ND⟩:∃ I2 C2,fX ⟨I,C⟩ i m yes=⟨I2,C2⟩/\I2.length=I.length/\C2.length=C.length:=⟨_,_,rfl,by simp,by simp⟩;rw[zX]at bt Ze;simp only[stR,YG]at bt;refine ff (aw _) fun K' ah=>?_;(repeat (refine aJ fun K2 aa=>?_;simp[YG,p7,abu];(repeat (refine⟨by omega,?_⟩));refine aa _ ?_;clear aa K2));refine aJ fun K2 aa=>?_;simp[YG,p7,abu];refine bU.mc (bt) ?_ ?_ ?_ ?_ ?_<;>simp[YG,p7,abu];refine aa _ ?_;clear aa K2;(repeat (refine aJ fun K2 aa=>?_;simp[YG,p7,abu];(repeat (refine⟨by omega,?_⟩));refine aa _ ?_;clear aa K2));refine YZ (ah _ ?_);clear ah K';refine dD _ (AW.norm [3,6,7,10,11,43,44,45] [6,7,701,702] (fun _ _=>trivial) (AW.st (by simp[YG,p7,abu];rfl) ?_));refine cf fw ?_;(try simp only[YO,bd]);refine bn.mk (n+1) (by omega) (by omega) ?_;rw[Ze];refine aC.cO (fun _ _=>trivial) (by simp[YG,List.map_set]) (by simp[YG,List.map_set])
     .have Ze:=Ze;simp at Ze;refine ab fw [3,6,7,10,11,14,15,43,44,45,59,60] [6,7,701,702] ?_;refine af rfl ?_;refine ab fw [3,6,7,10,11,14,15,43,44,45,59,67] [6,7,701,702] ?_;refine af rfl ?_;refine ab fw [3,6,7,10,11,14,15,43,44,45,59,81] [6,7,701,702] ?_;refine af rfl ?_;refine ab fw [3,6,7,10,11,14,15,43,44,45,59,96] [6,7,701,702] ?_;refine af rfl ?_;refine ab fw [3,6,7,10,11,14,15,43,44,45,59,117] [6,7,701,702] ?_;refine af rfl ?_;refine ab fw [3,6,7,10,11,14,15,43,44,45,128] [6,7,701,702] ?_;refine YL rfl ?_;refine ab fw [3,6,7,10,11,14,43,44,45,130] [6,7,701,702] ?_
      cases yes with
      | true=>
       simp only[if_true,qP]at Ze;refine YL rfl ?_;have qf:=(Aq fw (Aq @bO @Y8));refine gK dD [3,6,7,10,11,43,44,45] [6,7,701,702] ?_;refine cf fw ?_;(try simp only[YO,bd]);refine bn.mk (n+1) (by omega) (by omega) ?_;rw[Ze];refine aC.cO (fun _ _=>trivial) (by simp[YG,List.map_set]) (by simp[YG,List.map_set])
      | false=>
       simp only[Bool.false_eq_true,if_false]at Ze;refine af rfl ?_;refine ao ?_;refine dD _ (AW.norm [3,6,7,10,11,43,44,45] [6,7,701,702] (fun _ _=>trivial) (AW.st (by simp[YG];rfl) ?_));refine cf fw ?_;(try simp only[YO,bd]);refine bn.mk (n+1) (by omega) (by omega) ?_;rw[Ze];refine aC.cO (fun _ _=>trivial) (by simp[YG,List.map_set]) (by simp[YG,List.map_set])
    .have fA:¬ (n:Int) < (RR.length:Int):=by omega
     have aG:n=p.ar.length:=by omega
     refine af (by simp;omega) ?_;refine bY (Y4 _ ?_)
     have nh:T p.ar.length=⟨I,C⟩:=by rw[<- aG];exact Oe
     refine ab fw [6] [6,7,701,702] ?_;exact aV (Aq fw @nh)
theorem VO {p:YM} (aS:Y3 p=none) (hk:∀ r∈p.ar,j4 r):yK p:=by
 have hg:=ZU aS;have gZ:=hg.names;have xa:=hg.ar;refine⟨by omega,by omega,fun n hn=>?_,fun r hr e he=>?_⟩
 .have:=aex (hg.name n hn).1;omega
 .obtain⟨e',he',_,_,hb⟩:=hk r hr;rw[he]at he';obtain rfl:=Option.some.inj he';have h1:=Lib.compact_length_le (jY (Y6 true e));have h2:=mH (Y6 true e);have h3:=qs true e;refine⟨by omega,?_⟩;unfold Zw;omega
def vN (l:List (List Bool)):D:=.sl none (l.map fun x=>[eW x])
def inB (x:Int) (k:Nat):Bool:=kb .and .i64 (x.fdiv (2 ^ (min k IntKind.i64.bits))) 1 == 1
def dO (x:Int):Nat->List Bool
 | 0=>[]
 | k+1=>dO x k ++ [inB x k]
theorem uo (x:Int):∀ k,(dO x k).length=k
 | 0=>rfl
 | k+1=>by rw[dO,List.length_append,uo x k];rfl
def pc (t:Tx):Option YM:=if 1500 < t.length then none else match fV t with
 | (none,p)=>some p
 | (some _,_)=>none
theorem IE {t:Tx} {p:YM} (h:pc t=some p):fV t=(none,p):=by
 unfold pc at h;split at h
 .cases h
 .split at h
  .rename_i q hq;obtain rfl:=Option.some.inj h;exact hq
  .cases h
def sI:Option YM->D
 | none=>.aT [cA ⟨[],[]⟩,.v (.bool false)]
 | some p=>.aT [cA p,.v (.bool true)]
theorem Ei:cA ⟨[],[]⟩ = .agg [.sl none [],.sl none []]:=rfl
theorem SD (G:YI) (hM:n9 G) (hP:abH G) (hG:mO G) {es er:Value} (hE:px G es er) (t:Tx):aq prog G 84 [dS t] (sI (pc t)):=by
 have hp:=Ta G hM hP hG hE t;unfold pc;simp only[dS]at hp ⊢;by_cases hl:1500 < t.length
 .have fk:(1500:Int) < (t.length:Int):=by omega
  rw[if_pos hl];simp only[sI,Ei];refine aq.aI (aw _) func84 rfl rfl (rs:=[.cell 2 25,.tmp 3]) results84 (by simp[ntmps84]) fun X=>?_;simp only[ntmps84,List.map];refine al [0,2] [2] ?_;refine ae fun K1 ay=>?_;have qf:=(Aq @bC @fk);refine aB [0,2,8] [2] ?_;refine YL (by simp[fk]) ?_;refine al [2,3] [2] ?_;exact dK
 .have fk:¬ (1500:Int) < (t.length:Int):=by omega
  rw[if_neg hl]
  have key:∀ (q:YM) (ev:D) (b:Bool),(b=true↔ev = .v .nilIface)->(b=false->∃ x y,ev = .bh x y)->aq prog G 60 [.v (.string (bs t))] (.aT [cA q,ev])->aq prog G 84 [.v (.string (bs t))] (.aT [cA q,.v (.bool b)]):=fun q ev b Zp c6 hp=>by
   simp only[cA,cy,cz,cu]at hp ⊢;generalize q.names.map bk=NN at *;generalize q.ar.map bF=RR at *;refine aq.aI (aw _) func84 rfl rfl (rs:=[.cell 2 25,.tmp 3]) results84 (by simp[ntmps84]) fun X=>?_;simp only[ntmps84,List.map];refine al [0,2] [2] ?_;refine ae fun K1 ay=>?_;have qf:=(Aq @bC @fk);refine aB [0,2,8] [2] ?_;refine af (by simp<;>omega) ?_;refine ao (ay _ ?_)
   cases b with
   | true=>
    obtain rfl:=Zp.1 rfl;refine aP trivial hp [2,4,5] [2,4] ?_;refine fzB 4 ?_;refine r3 trivial [2,3] [2] ?_;exact dK
   | false=>
    obtain⟨x,y,rfl⟩:=c6 rfl;refine aP trivial hp [2,4,5] [2,4] ?_;refine fzB 4 ?_;refine r3 trivial [2,3] [2] ?_;exact dK
  cases fC:(fV t).1 with
  | none=>
   obtain⟨q,hq⟩:∃ q,fV t=(none,q):=⟨(fV t).2,by rw[<- fC]⟩;rw[hq]at hp ⊢;exact key q _ true (by simp[aR]) (by simp) hp
  | some e=>
   have h2:=Uf fC
   have hq:fV t=(some e,⟨[],[]⟩):=by rw[<- fC,<- h2]
   rw[hq]at hp ⊢;obtain⟨c,o⟩:=e
   cases o with
   | none=>exact key ⟨[],[]⟩ _ false (by simp[aR]) (fun _=>⟨_,_,rfl⟩) hp
   | some o=>exact key ⟨[],[]⟩ _ false (by simp[aR]) (fun _=>⟨_,_,rfl⟩) hp
structure gd where
 nm:Nat
 most:Int
 far:Bool
def edB (p:YM) (n:dL):Bool:=p.ar.any (ab8 n.name)
def partOf (n:dL) (ed:Bool) (i:Nat):List gd:=if n.kind=2\/(n.kind=1/\ed=true) then [⟨i,2,false⟩] else if n.kind≠1 then [⟨i,n.count+1,true⟩] else []
def dJ (p:YM):Nat->List gd
 | 0=>[]
 | i+1=>dJ p i ++ partOf (p.names.getD i ⟨[],0,0⟩) (edB p (p.names.getD i ⟨[],0,0⟩)) i
def bl (p:YM):List gd:=dJ p p.names.length
theorem xZ {p:YM} {i:Nat} (h:i < p.names.length):dJ p (i+1)=dJ p i ++ partOf p.names[i] (edB p p.names[i]) i:=by
 rw[dJ,cr h]
def YU:List gd->Int
 | []=>1
 | x :: l=>x.most * YU l
def mX (x:gd) (s:Zd):Int:=if x.far then s.ct.getD x.nm 0 else if s.is.getD x.nm false then 1 else 0
def Z2:List gd->Zd->Int
 | [],_=>0
 | x :: l,s=>mX x s+x.most * Z2 l s
def qy (x:gd) (k:Int) (s:Zd):Zd:=if x.far then ⟨s.is.set x.nm (decide (k=x.most - 1)),s.ct.set x.nm k⟩ else ⟨s.is.set x.nm (decide (k=1)),s.ct⟩
def stN:List gd->Int->Zd->Zd
 | [],_,s=>s
 | x :: l,n,s=>stN l (n / x.most) (qy x (n % x.most) s)
structure abX (p:YM) (x:gd):Prop where
 lt:x.nm < p.names.length
 fa:x.far=true->3<=p.names[x.nm].kind/\x.most=p.names[x.nm].count+1
 ne:x.far=false->x.most=2/\p.names[x.nm].kind < 3
 m2:2<=x.most
 m8:x.most<=8
theorem Uh {n:dL} {ed:Bool} {i:Nat} {x:gd} (h:x∈partOf n ed i):x.nm=i/\((x.far=false/\x.most=2/\(n.kind=2\/(n.kind=1/\ed=true)))\/(x.far=true/\x.most=n.count+1/\n.kind≠1/\n.kind≠2)):=by
 unfold partOf at h;split at h
 .rename_i h1;rw[List.mem_singleton]at h;subst h;exact⟨rfl,.inl ⟨rfl,rfl,h1⟩⟩
 .rename_i h1;split at h
  .rename_i h2;rw[List.mem_singleton]at h;subst h;exact⟨rfl,.inr ⟨rfl,rfl,h2,fun e=>h1 (.inl e)⟩⟩
  .cases h
theorem ace {p:YM} {x:gd}:∀ {n:Nat},n<=p.names.length->(x∈dJ p n↔∃ i,∃ hi:i < p.names.length,i < n/\x∈partOf p.names[i] (edB p p.names[i]) i)
 | 0,_=>by simp[dJ]
 | n+1,hn=>by
  rw[xZ (by omega),List.mem_append,ace (by omega)];constructor
  .rintro (⟨i,hi,h1,h2⟩ | h)
   .exact⟨i,hi,by omega,h2⟩
   .exact⟨n,by omega,by omega,h⟩
  .rintro⟨i,hi,h1,h2⟩;by_cases e:i=n
   .subst e;exact .inr h2
   .exact .inl ⟨i,hi,by omega,h2⟩
theorem jT {p:YM} (hg:qS p) {x:gd} (h:x∈bl p):abX p x:=by
 obtain⟨i,hi,_,h2⟩:=(ace (Nat.le_refl _)).1 h;obtain⟨rfl,h3⟩:=Uh h2;have h4:=hg.name _ (List.getElem_mem hi);have h5:=hg.count _ (List.getElem_mem hi)
 rcases h3 with⟨e1,e2,e3⟩ | ⟨e1,e2,e3,e4⟩
 .exact⟨hi,(fun h=>by rw[e1]at h;cases h),fun _=>⟨e2,by omega⟩,by omega,by omega⟩
 .exact⟨hi,fun _=>⟨by omega,e2⟩,(fun h=>by rw[e1]at h;cases h),by omega,by omega⟩
theorem uN (p:YM):∀ n,(dJ p n).length<=n
 | 0=>Nat.le_refl _
 | n+1=>by
  have:=uN p n;rw[dJ,List.length_append];unfold partOf;split<;>(try split)<;>simp<;>omega
theorem k9 {l:List gd} (h:∀ x∈l,2<=x.most):0 < YU l:=by
 induction l with
 | nil=>decide
 | cons x l ih=>
  have h1:=ih fun y hy=>h y (by simp[hy]);have h2:=h x (by simp);exact Int.mul_pos (by omega) h1
theorem ac2:∀ (a b:List gd),YU (a ++ b)=YU a * YU b
 | [],b=>by simp[YU]
 | x :: a,b=>by rw[List.cons_append,YU,YU,ac2 a b,Int.mul_assoc]
theorem Uz {l:List gd} {k:Nat} (h:k < l.length):YU (l.take (k+1))=YU (l.take k) * l[k].most:=by
 rw[List.take_succ_eq_append_getElem h,ac2];simp[YU]
theorem Iv {l:List gd} (h:∀ x∈l,2<=x.most):∀ k,YU (l.take k)<=YU l:=by
 intro k
 have e:YU l=YU (l.take k) * YU (l.drop k):=by rw[<- ac2,List.take_append_drop]
 have h1:0 < YU (l.take k):=k9 fun x hx=>h x (List.mem_of_mem_take hx);have h2:0 < YU (l.drop k):=k9 fun x hx=>h x (List.mem_of_mem_drop hx);rw[e];have:=Int.mul_le_mul_of_nonneg_left (show (1:Int)<=YU (l.drop k) by omega) (Int.le_of_lt h1);omega
theorem Ek {p:YM} {s:Zd} (hs:eN p s) {x:gd} (hx:abX p x):0<=mX x s/\mX x s < x.most:=by
 unfold mX
 cases hf:x.far with
 | true=>
  have h1:=hs.lo x.nm;have h2:=hs.hi x.nm hx.lt;have h3:=(hx.fa hf).2;simp only[if_true];omega
 | false=>
  have:=(hx.ne hf).1;simp only[Bool.false_eq_true,if_false];split<;>omega
theorem Cp {l:List gd} {s:Zd} (h:∀ x∈l,0<=mX x s/\mX x s < x.most):0<=Z2 l s/\Z2 l s < YU l:=by
 induction l with
 | nil=>exact⟨Int.le_refl 0,(by decide:(0:Int) < 1)⟩
 | cons x l ih=>
  have h1:=ih fun y hy=>h y (by simp[hy]);have h2:=h x (by simp);rw[Z2,YU];have h3:0<=x.most * Z2 l s:=Int.mul_nonneg (by omega) h1.1;have h4:x.most * (Z2 l s+1)<=x.most * YU l:=Int.mul_le_mul_of_nonneg_left (by omega) (by omega);rw[Int.mul_add,Int.mul_one]at h4;omega
def fY (p:YM) (n:Int):Zd:=stN (bl p) n (gM p)
theorem UB {p:YM} {x:gd} (hx:abX p x) {s:Zd} (hs:eN p s) {d:Int} (h0:0<=d) (h1:d < x.most):eN p (qy x d s):=by
 have YJ:=hx.lt;unfold qy
 cases hf:x.far with
 | false=>
  simp only[Bool.false_eq_true,if_false];exact uU hs YJ (hx.ne hf).2 _
 | true=>
  have XJ:=(hx.fa hf).2;simp only[if_true];refine⟨by simp[hs.l1],by simp[hs.l2],fun k=>?_,fun k hk=>?_,fun k hk h3=>?_⟩
  .show 0<=(s.ct.set x.nm d).getD k 0;by_cases e:x.nm=k
   .subst e;rw[gU (by rw[hs.l2];exact YJ)];exact h0
   .rw[ek e];exact hs.lo k
  .show (s.ct.set x.nm d).getD k 0<=_;by_cases e:x.nm=k
   .subst e;rw[gU (by rw[hs.l2];exact YJ)];omega
   .rw[ek e];exact hs.hi k hk
  .show (s.is.set x.nm _).getD k false=decide ((s.ct.set x.nm d).getD k 0=_);by_cases e:x.nm=k
   .subst e;rw[gU (by rw[hs.l1];exact YJ),gU (by rw[hs.l2];exact YJ)];congr 1;exact propext ⟨fun h=>by omega,fun h=>by omega⟩
   .rw[ek e,ek e];exact hs.at' k hk h3
theorem Jz {p:YM}:∀ {l:List gd} {n:Int} {s:Zd},(∀ x∈l,abX p x)->eN p s->eN p (stN l n s)
 | [],_,_,_,hs=>hs
 | x :: l,n,s,hl,hs=>by
  have hx:=hl x (by simp);have:=hx.m2;rw[stN];exact Jz (fun y hy=>hl y (by simp[hy])) (UB hx hs (Int.emod_nonneg _ (by omega)) (Int.emod_lt_of_pos _ (by omega)))
theorem u1 {p:YM} (hc:Y3 p=none) (n:Int):eN p (fY p n):=Jz (fun _ hx=>jT (ZU hc) hx) (VV (ZU hc))
theorem TR {p:YM} (hc:Y3 p=none) {s:Zd} (hs:eN p s):0<=Z2 (bl p) s/\Z2 (bl p) s < YU (bl p):=
 Cp fun _ hx=>Ek hs (jT (ZU hc) hx)
theorem zC {α:Type} {d:α}:∀ {a b:List α},a.length=b.length->(∀ i,i < a.length->a.getD i d=b.getD i d)->a=b:=fun {a b} hl h=>by
 refine List.ext_getElem hl fun i h1 h2=>?_;have:=h i h1
 rwa [cr h1,cr h2]at this
def kB (p:YM) (m:Nat) (s:Nat):List Int:=(List.range (2 ^ m)).map fun i:Nat=>Z2 (bl p) (jB p (fY p s) (dO (i:Int) m))
def aO (p:YM):List (List Int):=(List.range (YU (bl p)).toNat).map (kB p (YQ p).length)
theorem nP (p:YM):(aO p).length=(YU (bl p)).toNat:=by simp[aO]
theorem r5 (p:YM) (m s:Nat):(kB p m s).length=2 ^ m:=by simp[kB]
theorem uI {p:YM} {s:Nat} (h:s < (aO p).length):(aO p)[s]=kB p (YQ p).length s:=by simp[aO]
theorem Vi {p:YM} {m s i:Nat} (h:i < (kB p m s).length):(kB p m s)[i]=Z2 (bl p) (jB p (fY p s) (dO i m)):=by simp[kB]
theorem Vj {p:YM} (hc:Y3 p=none) {m s:Nat} {x:Int} (h:x∈kB p m s):0<=x/\x < YU (bl p):=by
 obtain⟨i,_,rfl⟩:=List.mem_map.1 h;exact TR hc (zp hc (u1 hc _) _).1
structure lr (NX:List (List Int)):Prop where
 pos:0 < NX.length
 mem:∀ l∈NX,∀ t∈l,0<=t/\t < NX.length
structure j6 (NX:List (List Int)) (F:List Int):Prop where
 len:F.length=NX.length
 zero:F.getD 0 0=0
 one:∀ t,t < NX.length->F.getD t 0=0->t=0
 lo:∀ s,s < NX.length->-1<=F.getD s 0
 step:∀ s (h:s < NX.length),0<=F.getD s 0->∀ t∈NX[s],0<=F.getD t.toNat 0/\F.getD t.toNat 0<=F.getD s 0+1
 back:∀ t,t < NX.length->0 < F.getD t 0->∃ s,∃ h:s < NX.length,F.getD s 0=F.getD t 0 - 1/\(t:Int)∈NX[s]
theorem vY {NX:List (List Int)} {F F':List Int} (h:j6 NX F) (h':j6 NX F'):∀ (n:Nat) (t:Nat),t < NX.length->F.getD t 0=n->0<=F'.getD t 0/\F'.getD t 0<=n
 | 0,t,ht,e=>by
  obtain rfl:=h.one t ht (by omega);rw[h'.zero];omega
 | n+1,t,ht,e=>by
  obtain⟨s,hs,h1,h2⟩:=h.back t ht (by omega);obtain⟨g1,g2⟩:=vY h h' n s hs (by omega);have:=h'.step s hs g1 _ h2;simp only[Int.toNat_natCast]at this;omega
theorem zD {NX:List (List Int)} {F F':List Int} (h:j6 NX F) (h':j6 NX F'):F=F':=by
 refine zC (d:=0) (h.len.trans h'.len.symm) fun t ht=>?_;rw[h.len]at ht;have a:=h.lo t ht;have b:=h'.lo t ht;by_cases g:0<=F.getD t 0
 .obtain⟨n,hn⟩:=Int.eq_ofNat_of_zero_le g;have h1:=vY h h' n t ht hn;obtain⟨m,hm⟩:=Int.eq_ofNat_of_zero_le h1.1;have h2:=vY h' h m t ht hm;omega
 .by_cases g':0<=F'.getD t 0
  .obtain⟨m,hm⟩:=Int.eq_ofNat_of_zero_le g';have h2:=vY h' h m t ht hm;omega
  .omega
def jS (O:List Int) (u:Nat) (t:Int):Prop:=0<=O.getD t.toNat 0/\O.getD t.toNat 0<=O.getD u 0+1
structure j3 (NX:List (List Int)) (O T:List Int):Prop where
 len:O.length=NX.length
 zero:O.getD 0 0=0
 one:∀ t,t < NX.length->O.getD t 0=0->t=0
 lo:∀ s,s < NX.length->-1<=O.getD s 0
 hi:∀ s,s < NX.length->O.getD s 0+((O.countP fun x=>decide (x < 0):Nat):Int) < NX.length
 back:∀ t,t < NX.length->0 < O.getD t 0->∃ s,∃ h:s < NX.length,O.getD s 0=O.getD t 0 - 1/\(t:Int)∈NX[s]
 mem:∀ t∈T,0<=t/\t < NX.length/\0<=O.getD t.toNat 0
 Jw:T.Pairwise (fun a b=>O.getD a.toNat 0<=O.getD b.toNat 0)
 top:∀ t0,T.head? = some t0->∀ u,u < NX.length->O.getD u 0<=O.getD t0.toNat 0+1
 done:∀ u (h:u < NX.length),0<=O.getD u 0->(u:Int) ∉ T->∀ t∈NX[u],jS O u t
 zE:(O.countP fun x=>decide (x < 0))+T.length<=NX.length
def jQ (O:List Int):Nat:=O.countP fun x=>decide (x < 0)
theorem Ch {O:List Int} {t:Nat} {x:Int} (ht:t < O.length) (h:O.getD t 0 < 0) (hx:0<=x):jQ (O.set t x)+1=jQ O:=by
 unfold jQ;rw[List.countP_set (h:=ht)];rw[cr ht]at h
 have h1:(O.countP fun x=>decide (x < 0))≠0:=fun e=>by
  have:=List.countP_eq_zero.1 e O[t] (List.getElem_mem ht);simp at this;omega
 have h2:¬ x < 0:=by omega
 simp[h,h2];omega
theorem sy {NX:List (List Int)} {O:List Int} (h:j3 NX O []):j6 NX O:=
 ⟨h.len,h.zero,h.one,h.lo,fun s hs h0 t ht=>h.done s hs h0 (by simp) t ht,h.back⟩
theorem adg {NX:List (List Int)} {O T:List Int} {s:Nat} (h:j3 NX O ((s:Int) :: T)) (hs:s < NX.length) (bp:∀ t∈NX[s],jS O s t):j3 NX O T:=by
 obtain⟨s1,s2⟩:=List.pairwise_cons.1 h.Jw;refine⟨h.len,h.zero,h.one,h.lo,h.hi,h.back,fun t ht=>h.mem t (by simp[ht]),s2,fun t0 h0 u hu=>?_,fun u hu h0 hn t ht=>?_,by have:=h.zE;simp only[List.length_cons]at this;omega⟩
 .have h1:=h.top _ rfl u hu;have h2:=s1 t0 (List.mem_of_mem_head? h0);omega
 .by_cases e:u=s
  .subst e;exact bp t ht
  .exact h.done u hu h0 (by simp[hn];omega) t ht
theorem Ct {O:List Int} {u:Nat} {v:Int} {t:Nat} {x:Int} (h:jS O u v) (hu:0<=O.getD u 0) (ht:O.getD t 0 < 0):jS (O.set t x) u v:=by
 unfold jS at *
 have h1:t≠v.toNat:=fun e=>by rw[e]at ht;omega
 have h2:t≠u:=fun e=>by rw[e]at ht;omega
 rw[ek h1,ek h2];exact h
theorem DZ {NX:List (List Int)} {O T:List Int} {s t:Nat} (h:j3 NX O ((s:Int) :: T)) (hs:s < NX.length) (ht:t < NX.length) (ax:(t:Int)∈NX[s]) (aaM:O.getD t 0 < 0):j3 NX (O.set t (O.getD s 0+1)) ((s:Int) :: (T ++ [(t:Int)])):=by
 have hlen:=h.len
 have lU:t < O.length:=by omega
 have Zm:=(h.mem (s:Int) (by simp)).2.2;simp only[Int.toNat_natCast]at Zm
 have rH:t≠s:=fun e=>by subst e;omega
 have same:∀ u,t≠u->(O.set t (O.getD s 0+1)).getD u 0=O.getD u 0:=fun u hu=>ek hu;have at':(O.set t (O.getD s 0+1)).getD t 0=O.getD s 0+1:=gU lU
 have xI:∀ v∈((s:Int) :: T),t≠v.toNat:=fun v hv e=>by have:=(h.mem v hv).2.2;rw[<- e]at this;omega
 have oB:=Ch (x:=O.getD s 0+1) lU aaM (by omega);unfold jQ at oB;have AG:=h.zE;simp only[List.length_cons]at AG;have XB:=h.hi s hs;refine⟨by simp[hlen],?_,fun u hu e=>?_,fun u hu=>?_,fun u hu=>?_,fun u hu h0=>?_,fun v hv=>?_,?_,fun t0 h0 u hu=>?_,fun u hu h0 hn v hv=>?_,?_⟩
 .have:t≠0:=fun e=>by subst e;rw[h.zero]at aaM;omega
  rw[same 0 this];exact h.zero
 .by_cases e2:t=u
  .subst e2;rw[at']at e;omega
  .rw[same u e2]at e;exact h.one u hu e
 .by_cases e2:t=u
  .subst e2;rw[at'];omega
  .rw[same u e2];exact h.lo u hu
 .by_cases e2:t=u
  .subst e2;rw[at'];omega
  .rw[same u e2];have:=h.hi u hu;omega
 .by_cases e2:t=u
  .subst e2;exact⟨s,hs,by rw[at',same s rH];omega,ax⟩
  .rw[same u e2]at h0 ⊢;obtain⟨v,hv,h1,h2⟩:=h.back u hu h0;exact⟨v,hv,by rw[same v fun e=>by subst e;omega];exact h1,h2⟩
 .have hv':v∈(s:Int) :: T\/v=(t:Int):=by simpa[or_assoc]using hv
  rcases hv' with hv' | rfl
  .have:=h.mem v hv';exact⟨this.1,this.2.1,by rw[same _ (xI v hv')];exact this.2.2⟩
  .exact⟨by omega,by omega,by rw[Int.toNat_natCast,at'];omega⟩
 .rw[<- List.cons_append,List.pairwise_append];refine⟨h.Jw.imp_of_mem fun {a b} ha hb Ag=>by rw[same _ (xI a ha),same _ (xI b hb)];exact Ag,by simp,fun a ha b hb=>?_⟩;obtain rfl:=List.mem_singleton.1 hb;rw[same _ (xI a ha),Int.toNat_natCast,at'];obtain⟨a1,a2,_⟩:=h.mem a ha
  rcases List.mem_cons.1 ha with rfl | Af
  .simp only[Int.toNat_natCast];omega
  .have:=h.top _ rfl a.toNat (by omega);simp only[Int.toNat_natCast]at this;omega
 .simp only[List.head?_cons,Option.some.injEq]at h0;subst h0;rw[Int.toNat_natCast,same s rH];by_cases e2:t=u
  .subst e2;rw[at'];omega
  .rw[same u e2];have:=h.top _ rfl u hu;simpa using this
 .have hnt:t≠u:=fun e=>by subst e;exact hn (by simp)
  rw[same u hnt]at h0;exact Ct (h.done u hu h0 (fun hm=>hn (by simp only[List.mem_cons]at hm ⊢;rcases hm with hm | hm;exact .inl hm;exact .inr (by simp[hm]))) v hv) h0 aaM
 .rw[List.length_cons,List.length_append];simp only[List.length_cons,List.length_nil];omega
theorem y3 {NX:List (List Int)} (h:lr NX):j3 NX ((List.replicate NX.length (-1)).set 0 0) [0]:=by
 have hp:=h.pos;have z:((List.replicate NX.length (-1:Int)).set 0 0).getD 0 0=0:=gU (by simpa using hp)
 have o:∀ t,t < NX.length->t≠0->((List.replicate NX.length (-1:Int)).set 0 0).getD t 0 = -1:=fun t ht h0=>by
  rw[ek (fun e=>h0 e.symm),cr (by simpa using ht)];simp
 refine⟨by simp,z,fun t ht e=>?_,fun s hs=>?_,fun s hs=>?_,fun t ht e=>?_,fun t ht=>?_,by simp,fun t0 h0 u hu=>?_,fun u hu h0 hn=>?_,?_⟩
 .exact Classical.byContradiction fun h0=>by rw[o t ht h0]at e;omega
 .by_cases e:s=0
  .subst e;rw[z];omega
  .rw[o s hs e];omega
 .have hc:((List.replicate NX.length (-1:Int)).set 0 0).countP (fun x=>decide (x < 0))+1=NX.length:=by
   rw[List.countP_set (h:=by simpa using hp)];simp[List.countP_replicate];omega
  by_cases e:s=0
  .subst e;rw[z];omega
  .rw[o s hs e];omega
 .by_cases e0:t=0
  .subst e0;rw[z]at e;omega
  .rw[o t ht e0]at e;omega
 .obtain rfl:=List.mem_singleton.1 ht;exact⟨by omega,by omega,by rw[show ((0:Int).toNat)=0 from rfl,z];omega⟩
 .simp only[List.head?_cons,Option.some.injEq]at h0;subst h0;rw[show ((0:Int).toNat)=0 from rfl,z];by_cases e:u=0
  .subst e;rw[z];omega
  .rw[o u hu e];omega
 .by_cases e:u=0
  .subst e;exact absurd (by simp) hn
  .rw[o u hu e]at h0;omega
 .rw[List.countP_set (h:=by simpa using hp)];simp[List.countP_replicate];omega
theorem vz {NX:List (List Int)} (ht:lr NX) {s:Nat} (hs:s < NX.length):∀ (L d:List Int) (O T:List Int),NX[s]=d ++ L->j3 NX O ((s:Int) :: T)->(∀ t∈d,jS O s t)->∃ O' T',j3 NX O' ((s:Int) :: T')/\(∀ t∈NX[s],jS O' s t)/\2 * jQ O'+T'.length<=2 * jQ O+T.length
 | [],d,O,T,e,h,hd=>⟨O,T,h,fun t dw=>hd t (by rw[e]at dw;simpa using dw),Nat.le_refl _⟩
 | t :: L,d,O,T,e,h,hd=>by
  have ax:t∈NX[s]:=by rw[e];simp
  obtain⟨h0,h1⟩:=ht.mem _ (List.getElem_mem hs) t ax;obtain⟨u,rfl⟩:=Int.eq_ofNat_of_zero_le h0
  have hu:u < NX.length:=by omega
  have Zm:=(h.mem (s:Int) (by simp)).2.2;simp only[Int.toNat_natCast]at Zm;by_cases aaM:O.getD u 0 < 0
  .have hb:=DZ h hs hu ax aaM
   have Bq:u≠s:=fun e=>by subst e;omega
   have hc:=Ch (x:=O.getD s 0+1) (by rw[h.len];exact hu) aaM (by omega)
   obtain⟨O',T',g1,g2,g3⟩:=vz ht hs L (d ++ [(u:Int)]) _ _ (by rw[e];simp) hb (fun t dw=>by
    rcases List.mem_append.1 dw with dw | dw
    .exact Ct (hd t dw) Zm aaM
    .obtain rfl:=List.mem_singleton.1 dw;unfold jS;rw[Int.toNat_natCast,gU (by rw[h.len];exact hu),ek Bq]
     omega)
   refine⟨O',T',g1,g2,?_⟩;rw[List.length_append]at g3;simp only[List.length_cons,List.length_nil]at g3;omega
  .refine vz ht hs L (d ++ [(u:Int)]) O T (by rw[e];simp) h fun t dw=>?_
   rcases List.mem_append.1 dw with dw | dw
   .exact hd t dw
   .obtain rfl:=List.mem_singleton.1 dw;have:=h.top _ rfl u hu;unfold jS;simp only[Int.toNat_natCast]at this ⊢;omega
theorem EP {NX:List (List Int)} (ht:lr NX):∃ F,j6 NX F:=by
 have h:∀ (n:Nat) (O T:List Int),j3 NX O T->2 * jQ O+T.length<=n->∃ F,j6 NX F:=by
  intro n
  induction n with
  | zero=>
   intro O T h hn;obtain rfl:T=[]:=List.eq_nil_of_length_eq_zero (by omega);exact⟨O,sy h⟩
  | succ n ih=>
   intro O T h hn
   cases T with
   | nil=>exact⟨O,sy h⟩
   | cons t T=>
    obtain⟨h0,h1,_⟩:=h.mem t (by simp);obtain⟨s,rfl⟩:=Int.eq_ofNat_of_zero_le h0;obtain⟨O',T',g1,g2,g3⟩:=vz ht (s:=s) (by omega) NX[s] [] O T rfl h (by simp);simp only[List.length_cons]at hn;exact ih O' T' (adg g1 (by omega) g2) (by omega)
 exact h _ _ _ (y3 ht) (Nat.le_refl _)
noncomputable def iV (NX:List (List Int)):List Int:=open Classical in if h:∃ F,j6 NX F then h.choose else []
theorem mZ {NX:List (List Int)} (ht:lr NX):j6 NX (iV NX):=by
 unfold iV;rw[dif_pos (EP ht)];exact (EP ht).choose_spec
theorem abE {p:YM} (aS:Y3 p=none):lr (aO p):=by
 have hp:0 < YU (bl p):=k9 fun x hx=>(jT (ZU aS) hx).m2;refine⟨by rw[nP];omega,fun l hl t dw=>?_⟩;obtain⟨s,_,rfl⟩:=List.mem_map.1 hl;have:=Vj aS dw;rw[nP];omega
def qW (l:List Int) (X:List Bool):Bool:=l.any fun t=>X.getD t.toNat false
def kA (NX:List (List Int)) (s:Nat):List Int:=NX.getD s []
theorem jV {NX:List (List Int)} {s:Nat} (h:s < NX.length):kA NX s=NX[s]:=cr h
def ZC (NX:List (List Int)) (z:Nat):Nat->List Bool
 | 0=>(List.replicate NX.length false).set z true
 | k+1=>NX.map fun l=>qW l (ZC NX z k)
theorem Hz (NX:List (List Int)) (z:Nat):∀ k,(ZC NX z k).length=NX.length
 | 0=>by simp[ZC]
 | k+1=>by simp[ZC]
theorem HA {NX:List (List Int)} {z k s:Nat} (h:s < NX.length):(ZC NX z (k+1)).getD s false=qW NX[s] (ZC NX z k):=by
 rw[cr (by rw[Hz];exact h)];simp[ZC]
def abe (NX:List (List Int)):Nat->Nat->Nat->Prop
 | 0,s,t=>s=t
 | k+1,s,t=>∃ u:Nat,(u:Int)∈kA NX s/\u < NX.length/\abe NX k u t
theorem E4 {NX:List (List Int)}:∀ {k s u t:Nat},abe NX k s u->(t:Int)∈kA NX u->t < NX.length->abe NX (k+1) s t
 | 0,s,u,t,h,h1,h2=>by
  obtain rfl:s=u:=h;exact⟨t,h1,h2,rfl⟩
 | k+1,s,u,t,⟨v,hv,hl,hg⟩,h1,h2=>⟨v,hv,hl,E4 hg h1 h2⟩
theorem xC {NX:List (List Int)} (ht:lr NX) {z:Nat} (hz:z < NX.length):∀ {k s:Nat},s < NX.length->((ZC NX z k).getD s false=true↔abe NX k s z)
 | 0,s,hs=>by
  show ((List.replicate NX.length false).set z true).getD s false=true↔s=z;by_cases e:z=s
  .subst e;rw[gU (by simpa using hz)];simp
  .rw[ek e,ra];exact⟨fun h=>(by cases h),fun h=>absurd h.symm e⟩
 | k+1,s,hs=>by
  rw[HA hs];unfold qW;rw[List.any_eq_true];constructor
  .rintro⟨t,dw,h⟩;obtain⟨h0,h1⟩:=ht.mem _ (List.getElem_mem hs) t dw;obtain⟨u,rfl⟩:=Int.eq_ofNat_of_zero_le h0
   have hu:u < NX.length:=by omega
   exact⟨u,by rw[jV hs];exact dw,hu,(xC ht hz hu).1 (by simpa using h)⟩
  .rintro⟨u,hm,hu,hg⟩;rw[jV hs]at hm;exact⟨(u:Int),hm,by simpa using (xC ht hz hu).2 hg⟩
theorem sS {NX:List (List Int)} {F:List Int} (h:j6 NX F):∀ (d:Nat) (t:Nat),t < NX.length->F.getD t 0=d->abe NX d 0 t
 | 0,t,ht,e=>by
  obtain rfl:=h.one t ht (by omega);rfl
 | d+1,t,ht,e=>by
  obtain⟨s,hs,h1,h2⟩:=h.back t ht (by omega);exact E4 (sS h d s hs (by omega)) (by rw[jV hs];exact h2) ht
def iN (NX:List (List Int)) (z k s:Nat):Nat:=(idx (fun t=>(ZC NX z k).getD t.toNat false) (kA NX s)).toNat
def fe (NX:List (List Int)) (z:Nat):Nat->Nat->List Int
 | 0,_=>[]
 | k+1,s=>(iN NX z k s:Int) :: fe NX z k ((kA NX s).getD (iN NX z k s) 0).toNat
theorem yn (NX:List (List Int)) (z:Nat):∀ k s,(fe NX z k s).length=k
 | 0,_=>rfl
 | k+1,s=>by rw[fe,List.length_cons,yn]
theorem JE {NX:List (List Int)} (ht:lr NX) {z:Nat} (hz:z < NX.length) {k s:Nat} (hs:s < NX.length) (hg:abe NX (k+1) s z) :
  ∃ hi:iN NX z k s < NX[s].length,idx (fun t:Int=>(ZC NX z k).getD t.toNat false) NX[s]=(iN NX z k s:Int)/\0<=NX[s][iN NX z k s]/\NX[s][iN NX z k s].toNat < NX.length/\abe NX k NX[s][iN NX z k s].toNat z:=by
 obtain⟨u,hm,hu,hg⟩:=hg;have hx:=(xC ht hz hu).2 hg;unfold iN;rw[jV hs]at hm ⊢
 have aG:¬ idx (fun t:Int=>(ZC NX z k).getD t.toNat false) NX[s] < 0:=fun h=>by
  have:=BI h _ hm;simp only[Int.toNat_natCast]at this;rw[hx]at this;cases this
 obtain⟨i,hi,he,hp⟩:=oX aG
 have e2:(idx (fun t:Int=>(ZC NX z k).getD t.toNat false) NX[s]).toNat=i:=by rw[he];simp
 obtain⟨h0,h1⟩:=ht.mem _ (List.getElem_mem hs) _ (List.getElem_mem hi);simp only[e2];exact⟨hi,he,h0,by omega,(xC ht hz (by omega)).1 hp⟩
def runN (NX:List (List Int)) (s:Nat):List Int->Nat
 | []=>s
 | i :: l=>runN NX ((kA NX s).getD i.toNat 0).toNat l
theorem yo {NX:List (List Int)} (ht:lr NX) {z:Nat} (hz:z < NX.length):∀ (k s:Nat),s < NX.length->abe NX k s z->runN NX s (fe NX z k s)=z/\∀ j (hj:j < k),∃ t,∃ h:t < NX.length,runN NX s ((fe NX z k s).take j)=t/\∃ i:Nat,∃ hi:i < NX[t].length,(fe NX z k s).getD j 0=(i:Int)/\0<=NX[t][i]/\NX[t][i].toNat < NX.length/\runN NX s ((fe NX z k s).take (j+1))=NX[t][i].toNat
 | 0,s,hs,hg=>⟨hg,fun j hj=>absurd hj (by omega)⟩
 | k+1,s,hs,hg=>by
  obtain⟨hi,he,h0,h1,h2⟩:=JE ht hz hs hg
  have e:((kA NX s).getD (iN NX z k s) 0)=NX[s][iN NX z k s]:=by rw[jV hs,cr hi]
  obtain⟨r1,r2⟩:=yo ht hz k _ h1 h2;rw[fe,e];refine⟨?_,fun j hj=>?_⟩
  .rw[runN,Int.toNat_natCast,e];exact r1
  .cases j with
   | zero=>
    refine⟨s,hs,rfl,iN NX z k s,hi,rfl,h0,h1,?_⟩;rw[List.take_succ_cons,List.take_zero,runN,Int.toNat_natCast,e];rfl
   | succ j=>
    obtain⟨t,g1,g2,i,g3,g4,g5,g6,g7⟩:=r2 j (by omega);refine⟨t,g1,?_,i,g3,?_,g5,g6,?_⟩
    .rw[List.take_succ_cons,runN,Int.toNat_natCast,e];exact g2
    .simpa using g4
    .rw[List.take_succ_cons,runN,Int.toNat_natCast,e];exact g7
theorem EO {NX:List (List Int)} (ht:lr NX):∀ s,s < NX.length->(iV NX).getD s 0 < NX.length:=by
 have h:∀ (n:Nat) (O T:List Int),j3 NX O T->2 * jQ O+T.length<=n->∃ F,j6 NX F/\∀ s,s < NX.length->F.getD s 0 < NX.length:=by
  intro n
  induction n with
  | zero=>
   intro O T h hn;obtain rfl:T=[]:=List.eq_nil_of_length_eq_zero (by omega);exact⟨O,sy h,fun s hs=>by have:=h.hi s hs;omega⟩
  | succ n ih=>
   intro O T h hn
   cases T with
   | nil=>exact⟨O,sy h,fun s hs=>by have:=h.hi s hs;omega⟩
   | cons t T=>
    obtain⟨h0,h1,_⟩:=h.mem t (by simp);obtain⟨s,rfl⟩:=Int.eq_ofNat_of_zero_le h0;obtain⟨O',T',g1,g2,g3⟩:=vz ht (s:=s) (by omega) NX[s] [] O T rfl h (by simp);simp only[List.length_cons]at hn;exact ih O' T' (adg g1 (by omega) g2) (by omega)
 obtain⟨F,h1,h2⟩:=h _ _ _ (y3 ht) (Nat.le_refl _);rw[zD (mZ ht) h1];exact h2
theorem JY {NX:List (List Int)} (ht:lr NX) {F:List Int} (hF:j6 NX F) {z d:Nat} (hz:z < NX.length) (hd:F.getD z 0=(d:Int)):∀ j,j<=d->runN NX 0 ((fe NX z d 0).take j) < NX.length/\0<=F.getD (runN NX 0 ((fe NX z d 0).take j)) 0/\F.getD (runN NX 0 ((fe NX z d 0).take j)) 0<=j:=by
 have bt:=(yo ht hz d 0 ht.pos (sS hF d z hz hd)).2;intro j
 induction j with
 | zero=>
  intro _;rw[List.take_zero,runN,hF.zero];exact⟨ht.pos,by omega,by omega⟩
 | succ j ih=>
  intro hj;obtain⟨g1,g2,g3⟩:=ih (by omega);obtain⟨t,h1,h2,i,h3,h4,h5,h6,h7⟩:=bt j (by omega);rw[h2]at g2 g3;have:=hF.step t h1 g2 _ (List.getElem_mem h3);rw[h7];exact⟨h6,by omega,by omega⟩
theorem aeF {NX:List (List Int)} (ht:lr NX) {F:List Int} (hF:j6 NX F) {z d:Nat} (hz:z < NX.length) (hd:F.getD z 0=(d:Int)) {j:Nat} (hj:j < d):∃ t i u:Nat,∃ h1:t < NX.length,∃ h2:i < NX[t].length,runN NX 0 ((fe NX z d 0).take j)=t/\(fe NX z d 0).getD j 0=(i:Int)/\NX[t][i]=(u:Int)/\u < NX.length/\runN NX 0 ((fe NX z d 0).take (j+1))=u/\F.getD u 0<=(j:Int)+1:=by
 obtain⟨t,h1,h2,i,h3,h4,h5,h6,h7⟩:=(yo ht hz d 0 ht.pos (sS hF d z hz hd)).2 j hj;obtain⟨u,hu⟩:=Int.eq_ofNat_of_zero_le h5;have hf:=(JY ht hF hz hd (j+1) (by omega)).2.2;rw[h7]at hf;rw[hu,Int.toNat_natCast]at h6 h7 hf;exact⟨t,i,u,h1,h3,h2,h4,hu,h6,h7,by omega⟩
def gn (l:List Bool):Int:=idx (fun b=>false == b) l
theorem TP {l:List Bool} (h:gn l < 0):∀ i (hi:i < l.length),l[i]=true:=fun i hi=>by
 have:=BI h _ (List.getElem_mem hi);simpa using this
theorem TQ {l:List Bool} (h:¬ gn l < 0):∃ i,∃ hi:i < l.length,gn l=(i:Int)/\l[i]=false:=by
 obtain⟨k,hk,h1,h2⟩:=oX h;exact⟨k,hk,h1,by simpa using h2⟩
def gH (F:List Int) (GD:List (List Bool)):Nat->Int
 | 0=>-1
 | k+1=>if 0<=F.getD k 0/\0<=gn (GD.getD k [])/\(gH F GD k < 0\/F.getD k 0 < gH F GD k) then F.getD k 0 else gH F GD k
theorem uG (F:List Int) (GD:List (List Bool)):∀ k,(gH F GD k = -1/\∀ s,s < k->0<=F.getD s 0->gn (GD.getD s []) < 0)\/(0<=gH F GD k/\(∃ s,s < k/\F.getD s 0=gH F GD k/\0<=gn (GD.getD s []))/\∀ s,s < k->0<=F.getD s 0->0<=gn (GD.getD s [])->gH F GD k<=F.getD s 0)
 | 0=>.inl ⟨rfl,fun s h=>by omega⟩
 | k+1=>by
  rw[gH];by_cases hc:0<=F.getD k 0/\0<=gn (GD.getD k [])/\(gH F GD k < 0\/F.getD k 0 < gH F GD k)
  .rw[if_pos hc];obtain⟨h1,h2,h3⟩:=hc;refine .inr ⟨h1,⟨k,by omega,rfl,h2⟩,fun s hs h0 hn=>?_⟩;by_cases e:s=k
   .subst e;exact Int.le_refl _
   .rcases uG F GD k with⟨_,g2⟩ | ⟨g1,_,g3⟩
    .have:=g2 s (by omega) h0;omega
    .have:=g3 s (by omega) h0 hn;omega
  .rw[if_neg hc]
   rcases uG F GD k with⟨g1,g2⟩ | ⟨g1,⟨s,g2,g3,g4⟩,g5⟩
   .refine .inl ⟨g1,fun s hs h0=>?_⟩;by_cases e:s=k
    .subst e;by_cases hn:0<=gn (GD.getD s [])
     .exact absurd ⟨h0,hn,.inl (by omega)⟩ hc
     .omega
    .exact g2 s (by omega) h0
   .refine .inr ⟨g1,⟨s,by omega,g3,g4⟩,fun u hu h0 hn=>?_⟩;by_cases e:u=k
    .subst e;by_cases hl:F.getD u 0 < gH F GD u
     .exact absurd ⟨h0,hn,.inr hl⟩ hc
     .omega
    .exact g5 u (by omega) h0 hn
def aam:List Int->List Int->Int
 | [],[]=>0
 | [],_ :: _=>-1
 | _ :: _,[]=>1
 | a :: l,b :: m=>if a < b then -1 else if b < a then 1 else aam l m
def qL (TN:List (List Int)) (GD:List (List Bool)) (d:Int) (s:Nat):List Int:=fe TN s d.toNat 0 ++ [gn (GD.getD s [])]
def aaa (TN:List (List Int)) (F:List Int) (GD:List (List Bool)) (ef:Int):Nat->List Int
 | 0=>[]
 | k+1=>if gn (GD.getD k []) < 0\/ef < 0\/F.getD k 0≠ef then aaa TN F GD ef k else if aaa TN F GD ef k=[]\/aam (qL TN GD ef k) (aaa TN F GD ef k) < 0 then qL TN GD ef k else aaa TN F GD ef k
theorem vy (TN:List (List Int)) (F:List Int) (GD:List (List Bool)) (ef:Int):∀ k,(aaa TN F GD ef k=[]/\∀ s,s < k->gn (GD.getD s []) < 0\/ef < 0\/F.getD s 0≠ef)\/(0<=ef/\∃ s,s < k/\F.getD s 0=ef/\0<=gn (GD.getD s [])/\aaa TN F GD ef k=qL TN GD ef s)
 | 0=>.inl ⟨rfl,fun s h=>by omega⟩
 | k+1=>by
  rw[aaa];by_cases hc:gn (GD.getD k []) < 0\/ef < 0\/F.getD k 0≠ef
  .rw[if_pos hc]
   rcases vy TN F GD ef k with⟨g1,g2⟩ | ⟨g1,s,g2,g3⟩
   .refine .inl ⟨g1,fun s hs=>?_⟩;by_cases e:s=k
    .subst e;exact hc
    .exact g2 s (by omega)
   .exact .inr ⟨g1,s,by omega,g3⟩
  .rw[if_neg hc];simp only[not_or]at hc;obtain⟨h1,h2,h3⟩:=hc
   have jG:F.getD k 0=ef:=by omega
   by_cases hb:aaa TN F GD ef k=[]\/aam (qL TN GD ef k) (aaa TN F GD ef k) < 0
   .rw[if_pos hb];exact .inr ⟨by omega,k,by omega,jG,by omega,rfl⟩
   .rw[if_neg hb];simp only[not_or]at hb
    rcases vy TN F GD ef k with⟨g1,_⟩ | ⟨g1,s,g2,g3⟩
    .exact absurd g1 hb.1
    .exact .inr ⟨g1,s,by omega,g3⟩
def uO (TN:List (List Int)) (F:List Int) (GD:List (List Bool)):List Int:=aaa TN F GD (gH F GD TN.length) TN.length
theorem Uk (TN:List (List Int)) (F:List Int) (GD:List (List Bool)) :
  (uO TN F GD=[]/\∀ s,s < TN.length->0<=F.getD s 0->gn (GD.getD s []) < 0)\/
  (∃ d z i:Nat,z < TN.length/\F.getD z 0=(d:Int)/\gn (GD.getD z [])=(i:Int)/\uO TN F GD=fe TN z d 0 ++ [(i:Int)]/\∀ s,s < TN.length->0<=F.getD s 0->F.getD s 0 < d->gn (GD.getD s []) < 0):=by
 unfold uO
 rcases vy TN F GD (gH F GD TN.length) TN.length with⟨g1,g2⟩ | ⟨g1,s,g2,g3,g4,g5⟩
 .refine .inl ⟨g1,fun s hs h0=>?_⟩
  rcases uG F GD TN.length with⟨_,h2⟩ | ⟨h1,⟨u,h2,h3,h4⟩,_⟩
  .exact h2 s hs h0
  .rcases g2 u h2 with h | h | h
   .omega
   .omega
   .exact absurd h3 h
 .obtain⟨d,hd⟩:=Int.eq_ofNat_of_zero_le g1;obtain⟨i,hi⟩:=Int.eq_ofNat_of_zero_le g4;refine .inr ⟨d,s,i,g2,by omega,hi,?_,fun u hu h0 hl=>?_⟩
  .rw[g5,qL,hi,hd,Int.toNat_natCast]
  .rcases uG F GD TN.length with⟨h1,_⟩ | ⟨_,_,h3⟩
   .omega
   .by_cases hn:gn (GD.getD u []) < 0
    .exact hn
    .have:=h3 u hu h0 (by omega);omega
end Go.Proofs.YtdigkhaofjmgkaaGreatDoor
namespace Go.Av
section
variable {P:Program} {T:Ty} {Mv X:Nat->Prop} {G:YI} {N:Fr} {ops:Array Oper} {σ:St}
def yB (P:Program) (T:Ty) (Mv:Nat->Prop) (G:YI) (N:Fr) (ap db hv:List Nat) (ex:List (Nat×AV)) (ops:Array Oper) (i:Nat) (o:Oper) (σ ag:St):Prop:=
 (ap.contains i=true/\c8 N o/\o.guard=none/\Y0 o.op=none/\Zr o.op=true/\∃ c x YK,wr T G Mv σ o=some (c,x,YK)/\c/\ag=⟨au YK.env o.dst x,YK.H⟩)\/
 (ap.contains i=false/\j7 P T Mv G N [] db hv ex ops i o σ ag)
def vK (ap db hv:List Nat) (ex:List (Nat×AV)) (ops:Array Oper) (i j:Nat) (oi oj:Oper):Bool:=!ap.contains i && !ap.contains j && sD db hv ex ops i j oi oj
theorem TS (hg:Good P T) (ap db hv:List Nat) (ex:List (Nat×AV)):Sound P X G N Mv (yB P T Mv G N ap db hv ex ops) ops:=fun i o ho σ ag h w μ a hi Q K hk=>by
 rcases h with⟨_,hd,bW,hc,hw,c,x,YK,h1,h2,rfl⟩ | ⟨_,h⟩
 .refine qF hg ⟨hd,.inl ⟨fZ bW,?_⟩⟩ hi ho hk;unfold iD;simp only[hc];rw[if_pos hw];exact⟨c,x,YK,h1,h2,rfl⟩
 .exact xK hg [] db hv ex i o ho _ _ h w μ a hi hk
theorem TT (ap db hv:List Nat) (ex:List (Nat×AV)):abJ (yB P T Mv G N ap db hv ex ops) (vK ap db hv ex ops) ops:=fun i j oi oj bD bf hc σ YK dh h1 h2=>by
 simp only[vK,Bool.and_eq_true,Bool.not_eq_true']at hc;obtain⟨⟨ai,aj⟩,hc⟩:=hc
 rcases h1 with⟨bi,_⟩ | ⟨_,h1⟩
 .rw[ai]at bi;cases bi
 rcases h2 with⟨bj,_⟩ | ⟨_,h2⟩
 .rw[aj]at bj;cases bj
 obtain⟨dA,f1,f2⟩:=Cd [] db hv ex i j oi oj bD bf hc σ YK dh h1 h2;exact⟨dA,.inr ⟨aj,f1⟩,.inr ⟨ai,f2⟩⟩
def u5 (P:Program) (T:Ty) (Mv:Nat->Prop) (G:YI) (N:Fr) (ap db hv:List Nat) (ex:List (Nat×AV)) (ops:Array Oper) (i:Nat) (o:Oper) (σ:St) (K:St->Prop):Prop:=
 if ap.contains i=true then c8 N o/\o.guard=none/\Y0 o.op=none/\Zr o.op=true/\match wr T G Mv σ o with
  | some (c,x,YK)=>c/\K ⟨au YK.env o.dst x,YK.H⟩
  | none=>False
 else sc P T Mv G N [] db hv ex ops i o σ K
def nU (P:Program) (T:Ty) (Mv:Nat->Prop) (G:YI) (N:Fr) (ap db hv:List Nat) (ex:List (Nat×AV)) (ops:Array Oper) (K:St->Prop):List (Nat×Oper)->St->Prop
 | [],σ=>K σ
 | (i,o) :: rest,σ=>u5 P T Mv G N ap db hv ex ops i o σ (nU P T Mv G N ap db hv ex ops K rest)
theorem V4 {ap db hv:List Nat} {ex:List (Nat×AV)} {K:St->Prop}:∀ (l:List Nat) (σ:St),(∀ i∈l,i < ops.size)->nU P T Mv G N ap db hv ex ops K (YP ops l) σ->∃ aY,K aY/\fX (yB P T Mv G N ap db hv ex ops) ops l σ aY:=by
 intro l
 induction l with
 | nil=>intro σ _ h;exact⟨σ,h,rfl⟩
 | cons i l ih=>
  intro σ hl h;have hi:=hl i (by simp)
  have ho:ops[i]? = some ops[i]:=by simp[hi]
  have ax:YP ops (i :: l)=(i,ops[i]) :: YP ops l:=by simp[YP,hi]
  rw[ax]at h;have h:u5 P T Mv G N ap db hv ex ops i ops[i] σ (nU P T Mv G N ap db hv ex ops K (YP ops l)):=h;unfold u5 at h;split at h
  .rename_i ha;obtain⟨hd,bW,hc,hw,h⟩:=h;split at h
   .rename_i c x YK h1;obtain⟨YY,h⟩:=h;obtain⟨aY,hk,hr⟩:=ih _ (fun j hj=>hl j (by simp[hj])) h;exact⟨aY,hk,_,ho,_,.inl ⟨ha,hd,bW,hc,hw,c,x,YK,h1,YY,rfl⟩,hr⟩
   .exact h.elim
  .rename_i ha
   have acy:YP ops [i]=[(i,ops[i])]:=by simp[YP,hi]
   have hm:qI P T Mv G N [] db hv ex ops (nU P T Mv G N ap db hv ex ops K (YP ops l)) (YP ops [i]) σ:=by rw[acy];exact h
   obtain⟨YK,cQ,o',Zq,vg,hs,ic⟩:=C5 [i] σ (by simpa using hi) (fun r hr=>by cases hr) hm;have ic:vg=YK:=ic;subst ic;obtain⟨aY,hk,hr⟩:=ih _ (fun j hj=>hl j (by simp[hj])) cQ;exact⟨aY,hk,o',Zq,_,.inr ⟨by simpa using ha,hs⟩,hr⟩
theorem Kn (hg:Good P T) (hm:P.follows .mixedOrders=true) (ap db hv:List Nat) (ex:List (Nat×AV)) (ord:List Nat) {id:Nat} (bp:k8 (vK ap db hv ex ops) ord ops=true) {Q:Exit->St->Prop} (h:nU P T Mv G N ap db hv ex ops (fun ag=>Q .normal ag) (YP ops ord) σ):AW P Mv X G N (.region id ops true) Q σ:=
 acM hm (TS hg ap db hv ex) (TT ap db hv ex) ord bp fun YJ=>V4 ord σ YJ h
theorem Kt (hg:Good P T) (hm:P.follows .mixedOrders=true) (ap db hv:List Nat) (ex:List (Nat×AV)) (ord:List Nat) {id:Nat} (bp:k8 (vK ap db hv ex ops) ord ops=true) {Q:Exit->St->Prop}
  (h:∀ K:St->Prop,(∀ τ:St,Q .normal τ->K τ)->nU P T Mv G N ap db hv ex ops K (YP ops ord) σ):AW P Mv X G N (.region id ops true) Q σ:=Kn hg hm ap db hv ex ord bp (h _ fun _ h=>h)
theorem nV {ap db hv:List Nat} {ex:List (Nat×AV)} {K:St->Prop} {i:Nat} {l:List Nat} {o:Oper} (ho:ops[i]? = some o) (h:∀ K':St->Prop,(∀ τ,nU P T Mv G N ap db hv ex ops K (YP ops l) τ->K' τ)->u5 P T Mv G N ap db hv ex ops i o σ K'):nU P T Mv G N ap db hv ex ops K (YP ops (i :: l)) σ:=by
 have:YP ops (i :: l)=(i,o) :: YP ops l:=by simp[YP,ho]
 rw[this];exact h _ fun _ h=>h
theorem V3 {ap db hv:List Nat} {ex:List (Nat×AV)} {K:St->Prop} (h:K σ):nU P T Mv G N ap db hv ex ops K (YP ops []) σ:=h
end
attribute [simp] u5
end Go.Av
namespace Go.Proofs.YtdigkhaofjmgkaaGreatDoor
open Go.Av
def ZE (x:gd):List D:=[.v (.int .i64 x.nm),.v (.int .i64 x.most),.v (.bool x.far)]
def iA (l:List gd):D:=.sl none (l.map ZE)
def lv (p:YM) (st gE:Int) (nx:List (List D)):List D:=[cz p.names,cu p.ar,.v (.int .i64 st),.v (.int .i64 gE),.sl none nx,iA (bl p),eG (YQ p)]
def mz (p:YM) (st gE:Int) (nx:List (List D)):List (Nat×Row):=[(25,.box 48 [.d (cz p.names),.d (cu p.ar),.d (.v (.int .i64 st)),.d (.v (.int .i64 gE)),.own 800 0 nx.length,.d (iA (bl p)),.d (eG (YQ p))]),(800,.sl 46 1 nx)]
def jz (p:YM) (st gE:Int) (nx:List (List D)):D:=.ip (lv p st gE nx)
def eD (l:List (List Int)):List (List D):=l.map fun r=>[eG r]
theorem xR (l:List (List Int)):(eD l).length=l.length:=by simp[eD]
theorem JA (G:YI) (p:YM) (hp:p.names.length < 2^40):MC prog G [] 75 [.d (cA p)] (YH []) (.agg [.own 701 0 (gM p).is.length,.own 702 0 (gM p).ct.length]) (YH [(701,.sl 4 1 ((gM p).is.map fun b=>[.v (.bool b)])),(702,.sl 3 1 ((gM p).ct.map fun n=>[.v (.int .i64 n)]))]):=by
 have gD:(p.names.map bk).length=p.names.length:=by simp
 simp only[cA,cy,cz,cu,gM,List.map_replicate,List.length_replicate];rw[<- gD];rw[<- gD]at hp;generalize p.names.map bk=NN at *;generalize p.ar.map bF=RR at *;refine MC.aI (aw _) func75 rfl rfl (rs:=[.cell 2 68]) results75 (by simp[ntmps75]) rfl fun X=>?_;simp only[ntmps75];refine al [1,2] [1,2] ?_;refine fzB 1 ?_;refine adb (aw _) (by kernel_rfl) ([]) ([]) ([0,1,2,4,5,6,3,7,8,9]) [2] [2,6,10] (cH rfl) (by kernel_rfl) fun K' ah=>?_;(repeat (refine kF rfl fun K2 aa=>?_;simp[aeM,cM];(repeat (refine⟨by omega,?_⟩));refine aa _ ?_;clear aa K2));refine qH (ah _ ?_);refine AW.st (by simp[aeM,cM];rfl) ?_;clear ah K';refine AW.imp (aC.cU (r:=6) (r':=701) (by decide) (by simp)) ?_;refine AW.st (by simp[gr,gq,Go.Av.cU,abl];rfl) ?_;refine AW.imp (aC.cU (r:=10) (r':=702) (by decide) (by simp)) ?_;refine AW.st (by simp[gr,gq,Go.Av.cU,abl];rfl) ?_;exact dK
theorem Tv (G:YI) (p:YM) (aS:Y3 p=none) (st gE:Int) (nx:List (List D)) (n:Int) (h0:0<=n) (h1:n<=2^40):MC prog G [25,800] 25 [.ref 25 0 0,.d (YG n)] (YH (mz p st gE nx)) (.d (kN (fY p n))) (YH (mz p st gE nx)):=by
 have hg:=ZU aS;have gZ:=hg.names;have bA:=JA G p (by omega);have pU:∀ x∈bl p,abX p x:=fun x hx=>jT hg hx
 have dH:(gM p).is.length=p.names.length:=by simp[gM]
 have Zv:(gM p).ct.length=p.names.length:=by simp[gM]
 have kS:stN ((bl p).drop 0) n (gM p)=fY p n:=rfl;have kh:=uN p p.names.length;have s5:dJ p p.names.length=bl p:=rfl;rw[s5]at kh;simp only[cA,cy,cz,cu]at bA;simp only[mz,cz,cu,iA,eG,YG,kN,iQ,eW];generalize NJ:fY p n=yz at *;generalize N9:gM p=ST at *;generalize z7:bl p=YX at *
 have nh:(YX.map ZE).length=YX.length:=by simp
 have hTg:∀ i (h:i < YX.length),(YX.map ZE)[i]? = some [.v (.int .i64 YX[i].nm),.v (.int .i64 YX[i].most),.v (.bool YX[i].far)]:=fun i h=>by simp[h,ZE]
 generalize YX.map ZE=PT at *;generalize (YQ p).map (fun n=>[D.v (.int .i64 n)])=IN at *;generalize p.names.map bk=NN at *;generalize p.ar.map bF=RR at *;refine MC.aI (aw _) func25 rfl rfl (rs:=[.cell 4 68]) results25 (by simp[ntmps25]) rfl fun X=>?_;simp only[ntmps25];have fw:=@YG.eq_1;refine ab fw [0,1,4] [25,800,4] ?_;refine YT fw bA [0,1,4,5] [25,800,4,5,701,702] ?_;refine ae fun K1 ay=>?_;refine ab fw [1,4,5,17,18,19] [25,800,4,5,701,702] ?_;refine Zb (S:=Nat×Int×Zd) (fun s=>s.1<=YX.length/\0<=s.2.1/\s.2.1<=2^40/\s.2.2.is.length=p.names.length/\s.2.2.ct.length=p.names.length/\stN (YX.drop s.1) s.2.1 s.2.2=yz) (fun s=>⟨aZ [(1,int s.2.1),(4,.ref 4 0 0),(5,.ref 5 0 0),(17,.d (.sl none PT)),(18,int PT.length),(19,int s.1)],YH [(25,.box 48 [.d (.sl none NN),.d (.sl none RR),.d (.v (.int .i64 st)),.d (.v (.int .i64 gE)),.own 800 0 nx.length,.d (.sl none PT),.d (.sl none IN)]),(800,.sl 46 1 nx),(4,.box 68 [.d (.sl (some false) []),.d (.sl (some false) [])]),(5,.box 68 [.own 701 0 s.2.2.is.length,.own 702 0 s.2.2.ct.length]),(701,.sl 4 1 (s.2.2.is.map fun b=>[.v (.bool b)])),(702,.sl 3 1 (s.2.2.ct.map fun n=>[.v (.int .i64 n)]))]⟩) (fun s=>YX.length - s.1) (0,n,ST) ?_ ⟨by simp,h0,h1,dH,Zv,kS⟩ ?_
 .refine bz fw
 .rintro⟨k,m,T⟩ ⟨hk,lO,oJ,iH,gD,YV⟩;dsimp only at hk lO oJ iH gD YV ⊢;obtain⟨TI,TC⟩:=T;dsimp only at iH gD ⊢;refine ab fw [1,4,5,17,18,19,20] [25,800,4,5,701,702] ?_;refine ae fun K2 aa=>?_;by_cases YJ:k < YX.length
  .have bZ:k < PT.length:=by omega
   have fA:(k:Int) < (PT.length:Int):=by omega
   refine YL (by simp<;>omega) ?_;refine ao (aa _ ?_);refine ae fun K3 YS=>?_;refine YR ?_;have hx:=pU _ (List.getElem_mem YJ)
   have gW:PT[k]=[.v (.int .i64 YX[k].nm),.v (.int .i64 YX[k].most),.v (.bool YX[k].far)]:=by
    have:=hTg k YJ;rw[List.getElem?_eq_getElem bZ]at this;exact Option.some.inj this
   rw[List.drop_eq_getElem_cons YJ,stN]at YV;have ZG:=hx.lt;have hm2:=hx.m2;have tF:=hx.m8;clear hx;generalize YX[k]=x at gW YV ZG hm2 tF;obtain⟨i,M,fa⟩:=x;dsimp only at gW YV ZG hm2 tF
   have pQ:¬ M=0:=by omega
   have qa:m.tmod M=m % M:=Int.tmod_eq_emod_of_nonneg lO;have eH:0<=m / M:=Int.ediv_nonneg lO (by omega);have hd1:m / M<=m:=Int.ediv_le_self _ lO
   have hdiv:IntKind.i64.wrap (m.tdiv M)=m / M:=by
    rw[Int.tdiv_eq_ediv_of_nonneg lO];exact Dt (by omega)
   have rD:0<=m % M:=Int.emod_nonneg _ pQ;have ic:m % M < M:=Int.emod_lt_of_pos _ (by omega);generalize hq:m / M=q at *;generalize hr:m % M=r at *
   have bO:i < TI.length:=by omega
   have Y8:i < TC.length:=by omega
   have qf:=(Aq fw (Aq @bZ @gW));refine aB [1,4,5,7,17,18,19] [25,800,4,5,7,701,702] ?_;refine cq fw 7 ?_;have qf:=(Aq fw (Aq @pQ @qa));refine aB [1,4,5,7,8,17,18,19] [25,800,4,5,701,702] ?_;have qf:=(Aq fw (Aq @pQ @hdiv));refine aB [1,4,5,7,8,17,18,19] [25,800,4,5,701,702] ?_;refine ab fw [1,4,5,7,8,17,18,19,32] [25,800,4,5,701,702] ?_
   cases fa with
   | true=>
    simp only[qy,if_true]at YV;refine YL rfl ?_;have qf:=(Aq fw @Y8);refine aB [1,4,5,7,8,17,18,19] [25,800,4,5,701,702] ?_;have qf:=(Aq fw @bO);refine gK YS [1,4,5,17,18,19] [25,800,4,5,701,702] ?_;refine cf fw ?_;(try simp only[YO,bd]);refine bn.mk (k+1,q,⟨TI.set i (decide (r=M - 1)),TC.set i r⟩) ⟨by dsimp only;omega,eH,by dsimp only;omega,by simp[iH],by simp[gD],YV⟩ (by dsimp only;omega) ?_;refine aC.cO (cH rfl) (by simp[YG,List.map_set]) (by simp[YG,List.map_set])
   | false=>
    simp only[qy,Bool.false_eq_true,if_false]at YV;refine af rfl ?_;have qf:=(Aq fw @bO);refine gK YS [1,4,5,17,18,19] [25,800,4,5,701,702] ?_;refine cf fw ?_;(try simp only[YO,bd]);refine bn.mk (k+1,q,⟨TI.set i (decide (r=1)),TC⟩) ⟨by dsimp only;omega,eH,by dsimp only;omega,by simp[iH],gD,YV⟩ (by dsimp only;omega) ?_;refine aC.cO (cH rfl) (by simp[YG,List.map_set]) (by simp[YG,List.map_set])
  .have fA:¬ (k:Int) < (PT.length:Int):=by omega
   rw[List.drop_eq_nil_of_le (by omega),stN]at YV;subst YV;refine af (by simp;omega) ?_;refine bY (ay _ ?_);refine AW.imp (aC.freeze 701 (by decide)) ?_;refine AW.st (by simp[YG,List.take_of_length_le];rfl) ?_;refine AW.imp (aC.freeze 702 (by decide)) ?_;refine AW.st (by simp[YG,List.take_of_length_le];rfl) ?_;refine ab fw [4] [25,800,4] ?_;exact aV fw
theorem HH (G:YI) (p:YM) (aS:Y3 p=none) (st gE:Int) (nx:List (List D)) (n:Int) (h0:0<=n) (h1:n<=2^40):aq prog G 25 [jz p st gE nx,YG n] (kN (fY p n)):=by
 have hg:=ZU aS;have gZ:=hg.names;have bA:=JA G p (by omega);have pU:∀ x∈bl p,abX p x:=fun x hx=>jT hg hx
 have dH:(gM p).is.length=p.names.length:=by simp[gM]
 have Zv:(gM p).ct.length=p.names.length:=by simp[gM]
 have kS:stN ((bl p).drop 0) n (gM p)=fY p n:=rfl;have kh:=uN p p.names.length;have s5:dJ p p.names.length=bl p:=rfl;rw[s5]at kh;simp only[cA,cy,cz,cu]at bA;simp only[jz,lv,cz,cu,iA,eG,YG,kN,iQ,eW];generalize NJ:fY p n=yz at *;generalize N9:gM p=ST at *;generalize z7:bl p=YX at *
 have nh:(YX.map ZE).length=YX.length:=by simp
 have hTg:∀ i (h:i < YX.length),(YX.map ZE)[i]? = some [.v (.int .i64 YX[i].nm),.v (.int .i64 YX[i].most),.v (.bool YX[i].far)]:=fun i h=>by simp[h,ZE]
 generalize YX.map ZE=PT at *;generalize (YQ p).map (fun n=>[D.v (.int .i64 n)])=IN at *;generalize p.names.map bk=NN at *;generalize p.ar.map bF=RR at *;refine aq.aI (aw _) func25 rfl rfl (rs:=[.cell 4 68]) results25 (by simp[ntmps25]) fun X=>?_;simp only[ntmps25,List.map];have fw:=@YG.eq_1;refine ab fw [0,1,4] [4] ?_;refine YT fw bA [0,1,4,5] [4,5,701,702] ?_;refine ae fun K1 ay=>?_;refine ab fw [1,4,5,17,18,19] [4,5,701,702] ?_;refine Zb (S:=Nat×Int×Zd) (fun s=>s.1<=YX.length/\0<=s.2.1/\s.2.1<=2^40/\s.2.2.is.length=p.names.length/\s.2.2.ct.length=p.names.length/\stN (YX.drop s.1) s.2.1 s.2.2=yz) (fun s=>⟨aZ [(1,int s.2.1),(4,.ref 4 0 0),(5,.ref 5 0 0),(17,.d (.sl none PT)),(18,int PT.length),(19,int s.1)],YH [(4,.box 68 [.d (.sl (some false) []),.d (.sl (some false) [])]),(5,.box 68 [.own 701 0 s.2.2.is.length,.own 702 0 s.2.2.ct.length]),(701,.sl 4 1 (s.2.2.is.map fun b=>[.v (.bool b)])),(702,.sl 3 1 (s.2.2.ct.map fun n=>[.v (.int .i64 n)]))]⟩) (fun s=>YX.length - s.1) (0,n,ST) ?_ ⟨by simp,h0,h1,dH,Zv,kS⟩ ?_
 .refine bz fw
 .rintro⟨k,m,T⟩ ⟨hk,lO,oJ,iH,gD,YV⟩;dsimp only at hk lO oJ iH gD YV ⊢;obtain⟨TI,TC⟩:=T;dsimp only at iH gD ⊢;refine ab fw [1,4,5,17,18,19,20] [4,5,701,702] ?_;refine ae fun K2 aa=>?_;by_cases YJ:k < YX.length
  .have bZ:k < PT.length:=by omega
   have fA:(k:Int) < (PT.length:Int):=by omega
   refine YL (by simp<;>omega) ?_;refine ao (aa _ ?_);refine ae fun K3 YS=>?_;refine YR ?_;have hx:=pU _ (List.getElem_mem YJ)
   have gW:PT[k]=[.v (.int .i64 YX[k].nm),.v (.int .i64 YX[k].most),.v (.bool YX[k].far)]:=by
    have:=hTg k YJ;rw[List.getElem?_eq_getElem bZ]at this;exact Option.some.inj this
   rw[List.drop_eq_getElem_cons YJ,stN]at YV;have ZG:=hx.lt;have hm2:=hx.m2;have tF:=hx.m8;clear hx;generalize YX[k]=x at gW YV ZG hm2 tF;obtain⟨i,M,fa⟩:=x;dsimp only at gW YV ZG hm2 tF
   have pQ:¬ M=0:=by omega
   have qa:m.tmod M=m % M:=Int.tmod_eq_emod_of_nonneg lO;have eH:0<=m / M:=Int.ediv_nonneg lO (by omega);have hd1:m / M<=m:=Int.ediv_le_self _ lO
   have hdiv:IntKind.i64.wrap (m.tdiv M)=m / M:=by
    rw[Int.tdiv_eq_ediv_of_nonneg lO];exact Dt (by omega)
   have rD:0<=m % M:=Int.emod_nonneg _ pQ;have ic:m % M < M:=Int.emod_lt_of_pos _ (by omega);generalize hq:m / M=q at *;generalize hr:m % M=r at *
   have bO:i < TI.length:=by omega
   have Y8:i < TC.length:=by omega
   have qf:=(Aq fw (Aq @bZ @gW));refine aB [1,4,5,7,17,18,19] [4,5,7,701,702] ?_;refine cq fw 7 ?_;have qf:=(Aq fw (Aq @pQ @qa));refine aB [1,4,5,7,8,17,18,19] [4,5,701,702] ?_;have qf:=(Aq fw (Aq @pQ @hdiv));refine aB [1,4,5,7,8,17,18,19] [4,5,701,702] ?_;refine ab fw [1,4,5,7,8,17,18,19,32] [4,5,701,702] ?_
   cases fa with
   | true=>
    simp only[qy,if_true]at YV;refine YL rfl ?_;have qf:=(Aq fw @Y8);refine aB [1,4,5,7,8,17,18,19] [4,5,701,702] ?_;have qf:=(Aq fw @bO);refine gK YS [1,4,5,17,18,19] [4,5,701,702] ?_;refine cf fw ?_;(try simp only[YO,bd]);refine bn.mk (k+1,q,⟨TI.set i (decide (r=M - 1)),TC.set i r⟩) ⟨by dsimp only;omega,eH,by dsimp only;omega,by simp[iH],by simp[gD],YV⟩ (by dsimp only;omega) ?_;refine aC.cO (fun _ _=>trivial) (by simp[YG,List.map_set]) (by simp[YG,List.map_set])
   | false=>
    simp only[qy,Bool.false_eq_true,if_false]at YV;refine af rfl ?_;have qf:=(Aq fw @bO);refine gK YS [1,4,5,17,18,19] [4,5,701,702] ?_;refine cf fw ?_;(try simp only[YO,bd]);refine bn.mk (k+1,q,⟨TI.set i (decide (r=1)),TC⟩) ⟨by dsimp only;omega,eH,by dsimp only;omega,by simp[iH],gD,YV⟩ (by dsimp only;omega) ?_;refine aC.cO (fun _ _=>trivial) (by simp[YG,List.map_set]) (by simp[YG,List.map_set])
  .have fA:¬ (k:Int) < (PT.length:Int):=by omega
   rw[List.drop_eq_nil_of_le (by omega),stN]at YV;subst YV;refine af (by simp;omega) ?_;refine bY (ay _ ?_);refine AW.imp (aC.freeze 701 trivial) ?_;refine AW.st (by simp[YG,List.take_of_length_le];rfl) ?_;refine AW.imp (aC.freeze 702 trivial) ?_;refine AW.st (by simp[YG,List.take_of_length_le];rfl) ?_;refine ab fw [4] [4] ?_;exact aV fw
theorem Tp (G:YI) (p:YM) (aS:Y3 p=none) (st gE:Int) (nx:List (List D)) (s:Zd) (hs:eN p s) (hP:YU (bl p)<=4096):MC prog G [25,800] 29 [.ref 25 0 0,.d (kN s)] (YH (mz p st gE nx)) (.d (YG (Z2 (bl p) s))) (YH (mz p st gE nx)):=by
 have hg:=ZU aS;have gZ:=hg.names;have pU:∀ x∈bl p,abX p x:=fun x hx=>jT hg hx;have hdg:∀ x∈bl p,0<=mX x s/\mX x s < x.most:=fun x hx=>Ek hs (pU x hx);have gk:=Cp hdg;have hm2:∀ x∈bl p,2<=x.most:=fun x hx=>(pU x hx).m2;have mh:∀ k,0<=Z2 ((bl p).drop k) s:=fun k=>(Cp fun x hx=>hdg x (List.mem_of_mem_drop hx)).1;have OV:∀ k,0 < YU ((bl p).drop k):=fun k=>k9 fun x hx=>hm2 x (List.mem_of_mem_drop hx);have dH:=hs.l1;have Zv:=hs.l2;clear hs;have kh:=uN p p.names.length;have s5:dJ p p.names.length=bl p:=rfl;rw[s5]at kh;simp only[mz,cz,cu,iA,eG,YG,kN,iQ,eW];obtain⟨TI,TC⟩:=s;dsimp only at dH Zv ⊢;generalize z7:bl p=YX at *
 have nh:(YX.map ZE).length=YX.length:=by simp
 have hTg:∀ i (h:i < YX.length),(YX.map ZE)[i]? = some [.v (.int .i64 YX[i].nm),.v (.int .i64 YX[i].most),.v (.bool YX[i].far)]:=fun i h=>by simp[h,ZE]
 generalize YX.map ZE=PT at *;generalize (YQ p).map (fun n=>[D.v (.int .i64 n)])=IN at *;generalize p.names.map bk=NN at *;generalize p.ar.map bF=RR at *;refine MC.aI (aw _) func29 rfl rfl (rs:=[.tmp 4]) results29 (by simp[ntmps29]) rfl fun X=>?_;simp only[ntmps29];have fw:=@YG.eq_1;refine ab fw [0,3] [25,800,3] ?_;refine cq fw 3 ?_;refine ab fw [0,3,5,6] [25,800] ?_;refine ae fun K1 ay=>?_;refine ab fw [3,5,6,13,14,15] [25,800] ?_;refine Zb (S:=Nat×Int×Int) (fun s=>s.1<=YX.length/\0<=s.2.1/\0 < s.2.2/\s.2.2 * YU (YX.drop s.1)=YU YX/\s.2.1+s.2.2 * Z2 (YX.drop s.1) ⟨TI,TC⟩=Z2 YX ⟨TI,TC⟩) (fun s=>⟨aZ [(3,.d (.ip [.sl none (TI.map fun b=>[.v (.bool b)]),.sl none (TC.map fun n=>[.v (.int .i64 n)])])),(5,int s.2.1),(6,int s.2.2),(13,.d (.sl none PT)),(14,int PT.length),(15,int s.1)],YH [(25,.box 48 [.d (.sl none NN),.d (.sl none RR),.d (.v (.int .i64 st)),.d (.v (.int .i64 gE)),.own 800 0 nx.length,.d (.sl none PT),.d (.sl none IN)]),(800,.sl 46 1 nx)]⟩) (fun s=>YX.length - s.1) (0,0,1) ?_ ⟨by simp,by simp,by simp,by simp,by simp⟩ ?_
 .refine bz fw
 .rintro⟨k,n,b⟩ ⟨hk,oL,hb0,hpr,YV⟩;dsimp only at hk oL hb0 hpr YV ⊢;have kW:=mh k;have Ox:0<=b * Z2 (YX.drop k) ⟨TI,TC⟩:=Int.mul_nonneg (by omega) kW;refine ab fw [3,5,6,13,14,15,16] [25,800] ?_;refine ae fun K2 aa=>?_;by_cases YJ:k < YX.length
  .have bZ:k < PT.length:=by omega
   have fA:(k:Int) < (PT.length:Int):=by omega
   refine YL (by simp<;>omega) ?_;refine ao (aa _ ?_);refine ae fun K3 YS=>?_;refine YR ?_;have hx:=pU _ (List.getElem_mem YJ);obtain⟨eH,hd1⟩:=hdg _ (List.getElem_mem YJ)
   have gW:PT[k]=[.v (.int .i64 YX[k].nm),.v (.int .i64 YX[k].most),.v (.bool YX[k].far)]:=by
    have:=hTg k YJ;rw[List.getElem?_eq_getElem bZ]at this;exact Option.some.inj this
   have OS:=mh (k+1);have aeI:=OV (k+1);rw[List.drop_eq_getElem_cons YJ,Z2]at YV;rw[List.drop_eq_getElem_cons YJ,YU,<- Int.mul_assoc]at hpr;rw[Int.mul_add,<- Int.add_assoc,<- Int.mul_assoc]at YV;have ZG:=hx.lt;have hm2:=hx.m2;clear hx Ox kW;unfold mX at YV eH hd1;generalize YX[k]=x at gW YV hpr ZG hm2 eH hd1;obtain⟨i,M,fa⟩:=x;dsimp only at gW YV hpr ZG hm2 eH hd1;have wB:0 < b * M:=Int.mul_pos hb0 (by omega)
   have Xz:b * M<=4096:=by
    have:=Int.mul_le_mul_of_nonneg_left (show (1:Int)<=YU (YX.drop (k+1)) by omega) (Int.le_of_lt wB);omega
   have XA:0<=b * M * Z2 (YX.drop (k+1)) ⟨TI,TC⟩:=Int.mul_nonneg (by omega) OS
   have bO:i < TI.length:=by omega
   have Y8:i < TC.length:=by omega
   rw[cr bO,cr Y8]at YV eH hd1;generalize jI:TI[i]=bv at *;generalize ON:TC[i]=c at *;generalize Aj:b * M=bM at *;have qf:=(Aq fw (Aq @bZ @gW));refine aB [3,5,6,8,13,14,15] [25,800,8] ?_;refine cq fw 8 ?_;refine ab fw [3,5,6,8,9,13,14,15] [25,800] ?_;refine ae fun K4 Y4=>?_;refine ab fw [3,5,6,8,9,13,14,15,20] [25,800] ?_
   cases fa with
   | true=>
    simp only[if_true]at YV eH hd1;have pX:0<=b * c:=Int.mul_nonneg (by omega) eH
    have ZL:b * c<=bM:=by
     have:=Int.mul_le_mul_of_nonneg_left (Int.le_of_lt hd1) (Int.le_of_lt hb0);omega
    generalize Ow:b * c=bc at *;refine YL rfl ?_;have qf:=(Aq fw (Aq @Y8 @ON));refine gK Y4 [3,5,6,8,9,13,14,15] [25,800] ?_;have qf:=(Aq fw @Ow);refine aB [3,5,6,8,13,14,15] [25,800] ?_;have qf:=(Aq fw @Aj);refine gK YS [3,5,6,13,14,15] [25,800] ?_;refine cf fw ?_;(try simp only[YO,bd]);refine bn.mk (k+1,n+bc,bM) ⟨by dsimp only;omega,by dsimp only;omega,wB,hpr,YV⟩ (by dsimp only;omega) ?_;refine bz fw
   | false=>
    simp only[Bool.false_eq_true,if_false]at YV eH hd1;refine af rfl ?_;have qf:=(Aq fw (Aq @bO @jI));refine aB [3,5,6,8,9,13,14,15,32] [25,800] ?_
    cases bv with
    | true=>
     simp only[if_true,Int.mul_one]at YV
     have Zp:b<=bM:=by
      have:=Int.mul_le_mul_of_nonneg_left (show (1:Int)<=M by omega) (Int.le_of_lt hb0);omega
     refine YL rfl ?_;refine gJ fw Y4 [3,5,6,8,9,13,14,15] [25,800] ?_;refine ab fw [3,5,6,8,13,14,15] [25,800] ?_;have qf:=(Aq fw @Aj);refine gK YS [3,5,6,13,14,15] [25,800] ?_;refine cf fw ?_;(try simp only[YO,bd]);refine bn.mk (k+1,n+b,bM) ⟨by dsimp only;omega,by dsimp only;omega,wB,hpr,YV⟩ (by dsimp only;omega) ?_;refine bz fw
    | false=>
     simp only[Bool.false_eq_true,if_false,Int.mul_zero,Int.add_zero]at YV;refine af rfl ?_;refine ao (Y4 _ ?_);refine ab fw [3,5,6,8,13,14,15] [25,800] ?_;have qf:=(Aq fw @Aj);refine gK YS [3,5,6,13,14,15] [25,800] ?_;refine cf fw ?_;(try simp only[YO,bd]);refine bn.mk (k+1,n,bM) ⟨by dsimp only;omega,by dsimp only;omega,wB,hpr,YV⟩ (by dsimp only;omega) ?_;refine bz fw
  .have fA:¬ (k:Int) < (PT.length:Int):=by omega
   rw[List.drop_eq_nil_of_le (by omega),Z2,Int.mul_zero,Int.add_zero]at YV;subst YV;refine af (by simp;omega) ?_;refine bY (ay _ ?_);refine ab fw [4] [25,800] ?_;exact aV fw
theorem Tl (G:YI) (p:YM) (aS:Y3 p=none) (st gE:Int) (nx:List (List D)) (x:Int):MC prog G [25,800] 28 [.ref 25 0 0,.d (YG x)] (YH (mz p st gE nx)) (.d (eW (dO x (YQ p).length))) (YH (mz p st gE nx)):=by
 have gZ:=(ZU aS).names;have hiL:=acG p.names 1 p.names.length;have ny:gF p.names 1 p.names.length=YQ p:=rfl;rw[ny]at hiL;simp only[mz,cz,cu,iA,eG,YG,eW]
 have oA:((YQ p).map fun n=>[D.v (.int .i64 n)]).length=(YQ p).length:=by simp
 generalize (YQ p).length=m at *;generalize (YQ p).map (fun n=>[D.v (.int .i64 n)])=IN at *;generalize (bl p).map ZE=PT at *;generalize p.names.map bk=NN at *;generalize p.ar.map bF=RR at *;refine MC.aI (aw _) func28 rfl rfl (rs:=[.tmp 4]) results28 (by simp[ntmps28]) rfl fun X=>?_;simp only[ntmps28];have fw:=@YG.eq_1;refine ab fw [0,1] [25,800] ?_;refine ab fw [0,1,5] [25,800] ?_;refine ae fun K1 ay=>?_;refine ab fw [1,5,11,12] [25,800] ?_;refine Zb (S:=Nat) (fun k=>k<=m) (fun k=>⟨aZ [(1,int x),(5,.own 901 0 k),(11,int m),(12,int k)],YH [(25,.box 48 [.d (.sl none NN),.d (.sl none RR),.d (.v (.int .i64 st)),.d (.v (.int .i64 gE)),.own 800 0 nx.length,.d (.sl none PT),.d (.sl none IN)]),(800,.sl 46 1 nx),(901,.sl 4 1 ((dO x k).map fun b=>[.v (.bool b)]))]⟩) (fun k=>m - k) 0 ?_ (by omega) ?_
 .refine (aC.lu 5 901 4 1 rfl rfl).trans ?_;refine bz (Aq fw (Aq @dO.eq_1 (Aq @dO.eq_2 @oA)))
 .intro k Pt
  have gV:((dO x k).map fun b=>[D.v (.bool b)]).length=k:=by simp[uo]
  have lD:dO x (k+1)=dO x k ++ [inB x k]:=rfl;have tu:(kb .and .i64 (x.fdiv (2 ^ (min k IntKind.i64.bits))) 1 == 1)=inB x k:=rfl;generalize eO:dO x k=B at gV lD ⊢;refine ab fw [1,5,11,12,13] [25,800,901] ?_;refine ae fun K2 aa=>?_;refine eM (b:=k < m) (by simp[D.le,D.le.go,aQ,YG]) (fun hc=>?_) (fun hc=>?_)
  .refine ao (aa _ ?_);refine ae fun K3 YS=>?_;refine YR ?_;refine ab fw [1,5,6,11,12] [25,800,901] ?_;refine ff (aw _) fun K' ah=>?_;(repeat (refine aJ fun K2 aa=>?_;simp[YG,gV,List.take_of_length_le,kD,tu];(repeat (refine⟨by omega,?_⟩));refine aa _ ?_;clear aa K2));refine YZ (ah _ ?_);clear ah K';refine YS _ (AW.norm [1,5,11,12] [25,800,901] (cH rfl) (AW.st (by simp[YG,gV,List.take_of_length_le,kD,tu];rfl) ?_));refine cf fw ?_;(try simp only[YO,bd]);refine bn.mk (k+1) (by omega) (by omega) ?_;rw[lD];refine bz fw
  .obtain rfl:k=m:=by omega
   refine bY (ay _ ?_);rw[eO];refine AW.imp (aC.freeze 901 (by decide)) ?_;refine AW.st (by simp[YG,gV,List.take_of_length_le];rfl) ?_;refine ab fw [4] [25,800] ?_;exact aV fw
theorem Tm (G:YI) (p:YM) (aS:Y3 p=none) (st gE:Int) (nx:List (List D)) (x:Int):aq prog G 28 [jz p st gE nx,YG x] (eW (dO x (YQ p).length)):=by
 have gZ:=(ZU aS).names;have hiL:=acG p.names 1 p.names.length;have ny:gF p.names 1 p.names.length=YQ p:=rfl;rw[ny]at hiL;simp only[jz,lv,cz,cu,iA,eG,YG,eW]
 have oA:((YQ p).map fun n=>[D.v (.int .i64 n)]).length=(YQ p).length:=by simp
 generalize (YQ p).length=m at *;generalize (YQ p).map (fun n=>[D.v (.int .i64 n)])=IN at *;generalize (bl p).map ZE=PT at *;generalize p.names.map bk=NN at *;generalize p.ar.map bF=RR at *;refine aq.aI (aw _) func28 rfl rfl (rs:=[.tmp 4]) results28 (by simp[ntmps28]) fun X=>?_;simp only[ntmps28,List.map];have fw:=@YG.eq_1;refine ab fw [0,1] [] ?_;refine ab fw [0,1,5] [] ?_;refine ae fun K1 ay=>?_;refine ab fw [1,5,11,12] [] ?_;refine Zb (S:=Nat) (fun k=>k<=m) (fun k=>⟨aZ [(1,int x),(5,.own 901 0 k),(11,int m),(12,int k)],YH [(901,.sl 4 1 ((dO x k).map fun b=>[.v (.bool b)]))]⟩) (fun k=>m - k) 0 ?_ (by omega) ?_
 .refine (aC.lu 5 901 4 1 rfl rfl).trans ?_;refine bz (Aq fw (Aq @dO.eq_1 (Aq @dO.eq_2 @oA)))
 .intro k Pt
  have gV:((dO x k).map fun b=>[D.v (.bool b)]).length=k:=by simp[uo]
  have lD:dO x (k+1)=dO x k ++ [inB x k]:=rfl;have tu:(kb .and .i64 (x.fdiv (2 ^ (min k IntKind.i64.bits))) 1 == 1)=inB x k:=rfl;generalize eO:dO x k=B at gV lD ⊢;refine ab fw [1,5,11,12,13] [901] ?_;refine ae fun K2 aa=>?_;refine eM (b:=k < m) (by simp[D.le,D.le.go,aQ,YG]) (fun hc=>?_) (fun hc=>?_)
  .refine ao (aa _ ?_);refine ae fun K3 YS=>?_;refine YR ?_;refine ab fw [1,5,6,11,12] [901] ?_;refine ff (aw _) fun K' ah=>?_;(repeat (refine aJ fun K2 aa=>?_;simp[YG,gV,List.take_of_length_le,kD,tu];(repeat (refine⟨by omega,?_⟩));refine aa _ ?_;clear aa K2));refine YZ (ah _ ?_);clear ah K';refine YS _ (AW.norm [1,5,11,12] [901] (fun _ _=>trivial) (AW.st (by simp[YG,gV,List.take_of_length_le,kD,tu];rfl) ?_));refine cf fw ?_;(try simp only[YO,bd]);refine bn.mk (k+1) (by omega) (by omega) ?_;rw[lD];refine bz fw
  .obtain rfl:k=m:=by omega
   refine bY (ay _ ?_);rw[eO];refine AW.imp (aC.freeze 901 trivial) ?_;refine AW.st (by simp[YG,gV,List.take_of_length_le];rfl) ?_;refine ab fw [4] [] ?_;exact aV fw
