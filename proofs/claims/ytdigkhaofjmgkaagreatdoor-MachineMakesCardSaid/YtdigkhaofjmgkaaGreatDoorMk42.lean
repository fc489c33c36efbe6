/-
  Texts that belong together,in one file: Sh19,SG,JP,RT3,LE1,LT2,LD,KB,JR0,JR,LPA,Av37,SC2,C2,SC3,SC4,IP,MA0,MB0,MA1,MB1.
-/
import Derived.Test.YtdigkhaofjmgkaaGreatDoorMk26
import Derived.Test.YtdigkhaofjmgkaaGreatDoorMk33
import Derived.Test.YtdigkhaofjmgkaaGreatDoorMk41
import Derived.Ground.Names8Prog
import Derived.Shelf.Spec.SlicesGrow
set_option linter.unusedSectionVars false
set_option linter.unusedSimpArgs false
set_option linter.unusedVariables false
namespace Go.Proofs
open Go.Shelf
def Tryz.Oq:Go.Shelf.Ren:=⟨fun | 4=>178 | n=>n,fun | 22=>46 | 25=>3 | 3=>3 | 4=>4 | 9=>9 | 20=>20 | 0=>0 | n=>n,fun | n=>n⟩
theorem Tryz.Oo:Go.Proofs.Lays8.n4 Tryz.prog Tryz.Oq:={
 mixed:=by kernel_rfl
 f4:=⟨Tryz.f178.name,by decide,Tryz.func178.trans (congrArg some (by kernel_rfl))⟩
 t0:=Tryz.underlying0
 a0:=Tryz.isAgg0
 z0:=Tryz.sizeOf0
 v0:=Tryz.zeroValue0
 t3:=Tryz.underlying3
 a3:=Tryz.isAgg3
 z3:=Tryz.sizeOf3
 v3:=Tryz.zeroValue3
 t4:=Tryz.underlying4
 a4:=Tryz.isAgg4
 z4:=Tryz.sizeOf4
 v4:=Tryz.zeroValue4
 t9:=Tryz.underlying9
 a9:=Tryz.isAgg9
 z9:=Tryz.sizeOf9
 v9:=Tryz.zeroValue9
 t20:=Tryz.underlying20
 a20:=Tryz.isAgg20
 z20:=Tryz.sizeOf20
 v20:=Tryz.zeroValue20
 t22:=Tryz.underlying46
 a22:=Tryz.isAgg46
 z22:=Tryz.sizeOf46
 v22:=Tryz.zeroValue46 }
end Go.Proofs
namespace Go.Proofs.YtdigkhaofjmgkaaGreatDoor
open Go.Av Go.Shelf Go.RowKit
theorem WB (n G:Nat) (h:n<=G):(([]:List Value).toArray ++ Builtin.zeroCells (Value.int .i64 0).cells (0+n - 0) ++ Builtin.zeroCells (Value.int .i64 0).cells (G - (0+n))).size=G:=by
 simp [size_zeroCells,Value.cells];omega
theorem Ot (G:ao) (n:Nat) (hn:n<=2^40):MC Tryz.prog G [] 178 [.d (.sl (some false) []),.d (ab n)] (ZX []) (.own 900 0 0) (ZX [(900,.sl 3 1 [])]):=by
 refine ⟨eU.of Tryz.func178 rfl rfl,fun X w μ vs hs b8 aI hv=>?_⟩
 obtain ⟨a,b,rfl⟩:∃ a b,vs = #[a,b]:=by
  match vs,aI with
  | ⟨[a,b]⟩,_=>exact ⟨a,b,rfl⟩
 obtain rfl:a = .slice none 0 0:=by
  rcases (hv 0 a _ rfl rfl).data.l8 with ⟨rfl,_⟩ | ⟨_,_,_,hk,_⟩
  .rfl
  .exact absurd rfl hk
 obtain rfl:b = .int .i64 n:=(hv 1 b _ rfl rfl).scalar;have hL:=Tryz.Oo;have aC:In w X G μ ⟨0,[],none⟩ { tmps:=#[],defers:=[] } ⟨fun _=>none,ZX []⟩:=⟨hs,⟨rfl,rfl,fun i x h=>by cases h⟩,b8⟩
 have hH:∀ row,aJ (ZX []) 900 row=ZX [(900,row)]:=fun row=>by
  funext q;by_cases h:q=900
  .subst h;rfl
  .have hq:(q == 900)=false:=by simpa using h
   simp only [aJ,if_neg h,ZX,List.lookup,hq]
 by_cases h0:n=0
 .subst h0;refine (Any8.slices_Grow_room hL none 0 0 0 w (by omega) (by omega) (by omega) (by omega)).mono fun e w' ⟨he,hw⟩=>?_;subst hw;obtain ⟨h1,ev⟩:=aC.alloc (Mv:=fM []) (w':=w') (m:=⟨none,1,0⟩) (d:=900) rfl (bU.refl _) (by simp) (row:=.sl 3 1 []) fun _=>.nil rfl rfl;have h2:=h1.aS;dsimp only at h2;rw [hH] at h2;exact ⟨_,_,_,_,he,⟨rfl,rfl⟩,.own (m:=⟨none,1,0⟩) (by simp [cH]) (.inl ⟨rfl,rfl,rfl,rfl⟩),h2,ev⟩
 .obtain ⟨i0,hi,j0,tm,hz2⟩:=info_parts (P:=Tryz.prog) (e:=3) (z:=.int .i64 0) (size:=1) (bytes:=8) (by kernel_rfl);refine (Any8.slices_Grow_grow hL i0 (.int .i64 0) hi j0 (by omega) none 0 0 n [] w (by omega) (by omega) (by rw [hz2];omega) (by omega) (by simp) (fun _=>rfl) (fun a e=>by cases e)).mono fun e w' ⟨he,hw⟩=>?_
  have pz:n<=grownCap w (0+n) 0 3:=by have:=grownCap_ge w (0+n) 0 3;omega
  have hle:grownCap w (0+n) 0 3<=maxLen:=grownCap_le_maxLen w (0+n) 0 3 (by unfold maxLen;omega);have he:e = .returned (.slice (some ⟨w.heap.size,0,none⟩) 0 (grownCap w (0+n) 0 3)):=he;have hw:w'=w.drew.alloc (.cells (([]:List Value).toArray ++ Builtin.zeroCells (Value.int .i64 0).cells (0+n - 0) ++ Builtin.zeroCells (Value.int .i64 0).cells (grownCap w (0+n) 0 3 - (0+n))) 3):=hw;have aI:=WB n (grownCap w (0+n) 0 3) pz;generalize grownCap w (0+n) 0 3=C at he hw pz hle aI;generalize (([]:List Value).toArray ++ Builtin.zeroCells (Value.int .i64 0).cells (0+n - 0) ++ Builtin.zeroCells (Value.int .i64 0).cells (C - (0+n)))=Z at hw aI;subst hw;have g1:=bU.drew w;have g2:=bU.alloc w.drew (.cells Z 3);have hg:bU w (w.drew.alloc (.cells Z 3)):=⟨Nat.le_trans g1.size g2.size,g2.os.trans g1.os,g2.tape.trans g1.tape,g2.output.trans g1.output,fun b hb=>(g2.same b (Nat.lt_of_lt_of_le hb g1.size)).trans (g1.same b hb)⟩;have je:(w.drew.alloc (.cells Z 3)).heap[w.heap.size]? = some (.cells Z 3 (0,0)):=heap_alloc_new w.drew _
  obtain ⟨h1,ev⟩:=aC.alloc (Mv:=fM []) (w':=w.drew.alloc (.cells Z 3)) (m:=⟨some w.heap.size,1,C⟩) (d:=900) rfl hg (by rintro b h;injection h with h;omega) (row:=.sl 3 1 []) fun _=>
   .sl (b:=w.heap.size) rfl rfl je (by simpa using aI) (by simp) hle (by simp) (by omega) (by simp)
  have h2:=h1.aS;dsimp only at h2;rw [hH] at h2;exact ⟨_,_,_,_,he,⟨rfl,rfl⟩,.own (m:=⟨some w.heap.size,1,C⟩) (by simp [cH]) (.inr ⟨_,rfl,by simp,by simp⟩),h2,ev⟩
def aau (l:List Nat):List (List D):=l.map fun (n:Nat)=>[ab (n:Int)]
theorem sv (a b:List Nat):aau (a ++ b)=aau a ++ aau b:=by unfold aau;rw [List.map_append]
def ct3 {α:Type} (a b c:α):Nat->α
 | 0=>a
 | 1=>b
 | _=>c
set_option maxHeartbeats 4000000 in
theorem M5 (G:ao) (a b:List Nat) (ha:a.length<=2^30) (hb:b.length<=2^30):aw Tryz.prog G 123 [.sl none [[.sl none (aau a)],[.sl none (aau b)]]] (.sl none (aau (a ++ b))):=by
 rw [sv];have OC:(∀ el∈aau a,el.length=1)=True:=eq_true (by simp [aau]);have GG:(∀ el∈aau b,el.length=1)=True:=eq_true (by simp [aau]);have yc:(∀ el∈aau a,∀ c∈el,c.one=true)=True:=eq_true (by simp [aau,ab,D.one]);have GH:(∀ el∈aau b,∀ c∈el,c.one=true)=True:=eq_true (by simp [aau,ab,D.one])
 have GD:(aau a).length<=2^30:=by simpa [aau] using ha
 have nc:(aau b).length<=2^30:=by simpa [aau] using hb
 generalize aau a=A at *;generalize aau b=B at *;have dI:=Ot G (A.length+B.length) (by omega);simp only [ab] at dI;refine aw.aD (ZZ _) Tryz.func123 rfl rfl (rs:=[.tmp 2]) Tryz.results123 (by simp [Tryz.ntmps123]) fun X=>?_;simp only [Tryz.ntmps123,List.map];have fw:=@ab.eq_1;refine ZW fw [0] [] ?_;refine ZW fw [0,3] [] ?_;refine ae fun K1 ay=>?_;refine ZW fw [0,3,9,10,11] [] ?_;refine aam (S:=Nat) (fun n=>n<=2) (fun n=>⟨aX [(0,.d (.sl none [[.sl none A],[.sl none B]])),(3,int (ct3 0 (A.length:Int) ((A.length:Int)+B.length) n)),(9,.d (.sl none [[.sl none A],[.sl none B]])),(10,int 2),(11,int n)],ZX []⟩) (fun n=>2 - n) 0 ?_ (by omega) ?_
 .refine Z1.dK (fun _ _=>trivial) (by simp [ab,ct3]) (by simp [ab,ct3])
 .intro n hn
  rcases (by omega:n=0\/n=1\/n=2) with rfl | rfl | rfl
  .simp only [ct3];refine ZW fw [0,3,9,10,11,12] [] ?_;refine ae fun K2 aa=>?_;refine ak rfl ?_;refine ah (aa _ ?_);refine ae fun K3 aQ=>?_;refine aR ?_;refine ZW fw [0,3,5,9,10,11] [] ?_;refine ZW fw [0,3,9,10,11] [] ?_;refine ZW fw [0,3,9,10,11,20] [] ?_;refine ag rfl ?_;refine ah (aQ _ ?_);refine reQ fw ?_;(try simp only [aM,aP]);refine aV.mk 1 (by omega) (by omega) ?_;refine Z1.dK (fun _ _=>trivial) (by simp [ab,ct3]) (by simp [ab,ct3])
  .simp only [ct3];refine ZW fw [0,3,9,10,11,12] [] ?_;refine ae fun K2 aa=>?_;refine ak rfl ?_;refine ah (aa _ ?_);refine ae fun K3 aQ=>?_;refine aR ?_;refine ZW fw [0,3,5,9,10,11] [] ?_;refine ZW fw [0,3,9,10,11] [] ?_;refine ZW fw [0,3,9,10,11,20] [] ?_;refine ag rfl ?_;refine ah (aQ _ ?_);refine reQ fw ?_;(try simp only [aM,aP]);refine aV.mk 2 (by omega) (by omega) ?_;refine Z1.dK (fun _ _=>trivial) (by simp [ab,ct3]) (by simp [ab,ct3])
  .simp only [ct3];refine ZW fw [0,3,9,10,11,12] [] ?_;refine ae fun K2 aa=>?_;refine ag rfl ?_;refine bH (ay _ ?_);refine Z8 fw dI [0,6] [900] ?_;refine ae fun K4 bN=>?_;refine ZW fw [6,25,26,27] [900] ?_;refine aam (S:=Nat) (fun n=>n<=2) (fun n=>⟨aX [(6,.own 900 0 (ct3 0 A.length (A.length+B.length) n)),(25,.d (.sl none [[.sl none A],[.sl none B]])),(26,int 2),(27,int n)],ZX [(900,.sl 3 1 (ct3 [] A (A ++ B) n))]⟩) (fun n=>2 - n) 0 ?_ (by omega) ?_
   .refine Z1.dK (fun _ _=>trivial) (by simp [ab,ct3]) (by simp [ab,ct3])
   .intro n hn
    rcases (by omega:n=0\/n=1\/n=2) with rfl | rfl | rfl
    .simp only [ct3];refine ZW fw [6,25,26,27,28] [900] ?_;refine ae fun K5 hK5=>?_;refine ak rfl ?_;refine ah (hK5 _ ?_);refine ae fun K6 de=>?_;refine aR ?_;refine ZW fw [6,8,25,26,27] [900] ?_;have qf:=(Aq fw (Aq @OC @yc));refine dv de [6,25,26,27] [900] ?_;refine reQ fw ?_;(try simp only [aM,aP]);refine aV.mk 1 (by omega) (by omega) ?_;refine Z1.dK (fun _ _=>trivial) (by simp [ab,ct3]) (by simp [ab,ct3])
    .simp only [ct3];refine ZW fw [6,25,26,27,28] [900] ?_;refine ae fun K5 hK5=>?_;refine ak rfl ?_;refine ah (hK5 _ ?_);refine ae fun K6 de=>?_;refine aR ?_;refine ZW fw [6,8,25,26,27] [900] ?_;refine aaG (ZZ _) fun K' af=>?_;(repeat (refine Z0 fun K2 aa=>?_;simp [ab,GG,GH,List.take_of_length_le];(repeat (refine ⟨by omega,?_⟩));refine aa _ ?_;clear aa K2));refine Z9 (af _ ?_);clear af K';refine de _ (AW.norm [6,25,26,27] [900] (fun _ _=>trivial) (AW.st (by simp [ab,GG,GH,List.take_of_length_le];rfl) ?_));refine reQ fw ?_;(try simp only [aM,aP]);refine aV.mk 2 (by omega) (by omega) ?_;refine Z1.dK (fun _ _=>trivial) (by simp [ab,ct3]) (by simp [ab,ct3])
    .simp only [ct3];refine ZW fw [6,25,26,27,28] [900] ?_;refine ae fun K5 hK5=>?_;refine ag rfl ?_;refine bH (bN _ ?_);refine AW.imp (Z1.freeze 900 trivial) ?_;refine AW.st (by simp [ab];rfl) ?_;refine ZW fw [2] [] ?_;exact aK fw
end Go.Proofs.YtdigkhaofjmgkaaGreatDoor
namespace Go.Proofs.YtdigkhaofjmgkaaGreatDoor
open Go.Av
theorem Lr {P:Program} {Mv X:Nat->Prop} {G:ao} {n s:Nat} {x y:Code} {Q:Exit->St->Prop} {σ:St} (h:∀ K:St->Prop,(∀ ar,AW0 P Mv X G n s y Q ar->K ar)->∀ X' ds,AW P Mv X' G ⟨n,ds,none⟩ x (aM K Q) σ):AW0 P Mv X G n s (.seq x y) Q σ:=
 xl (xk (h _ fun _ h=>h))
theorem Ls {P:Program} {Mv X:Nat->Prop} {G:ao} {n s:Nat} {x y:Code} {Q:Exit->St->Prop} {σ:St} (h:∀ K:St->Prop,(∀ ar,AW0 P Mv X G n s y Q ar->K ar)->AW0 P Mv X G n s x (aM K Q) σ):AW0 P Mv X G n s (.seq x y) Q σ:=
 xl (h _ fun _ h=>h)
theorem V8 {P:Program} {Mv X:Nat->Prop} {G:ao} {N:Fr} {x y:Code} {Q:Exit->St->Prop} {σ:St} (h:∀ K:St->Prop,(∀ ar,AW P Mv X G N y Q ar->K ar)->AW P Mv X G N x (aM K (fun _ _=>False)) σ):AW P Mv X G N x (aM (AW P Mv X G N y Q) (fun _ _=>False)) σ:=
 h _ fun _ h=>h
section
variable {P:Program} {X:Nat->Prop} {G:ao} {n s:Nat} {σ τ ff:St} {p:Prop}
theorem AW0.norm (l ns:List Nat) {c:Code} {Q:Exit->St->Prop} (h:AW0 P (fun _=>True) X G n s c Q (σ.norm l ns)):AW0 P (fun _=>True) X G n s c Q σ:=AW0.imp (fun X' ds=>Z1.norm l ns fun _ _=>trivial) h
theorem AW0.st {c:Code} {Q:Exit->St->Prop} (h:σ=τ) (h':AW0 P (fun _=>True) X G n s c Q τ):AW0 P (fun _=>True) X G n s c Q σ:=h ▸ h'
theorem zY (q:p) (l ns:List Nat) {id:Nat} {ops:Array Oper} {y:Code} {Q:Exit->St->Prop} (k:AW0 P (fun _=>True) X G n s y Q ff)
  (h:p->∀ (X':Nat->Prop) (ds:List Deferred) (K':St->Prop),K' τ->sxf P (bQ P) (fun _=>True) X' G ⟨n,ds,none⟩ ops K' ops.toList σ:=by
   intro q X' ds K' af;repeat (refine Z0 fun K2 aa=>?_;simp [q];(repeat (refine ⟨by omega,?_⟩));refine aa _ ?_;clear aa K2)
   exact Z9 af)
  (hn:p->τ.norm l ns=ff:=by intro q;simp [q];rfl):AW0 P (fun _=>True) X G n s (.seq (.region id ops false) y) Q σ:=
 xl (xk fun X' ds=>aaG (ZZ _) fun K hK=>h q X' ds K (hK _ (AW0.norm l ns (hn q ▸ k))))
theorem Wt (q:p) {fx:List Nat} {g:FuncId} {xs:List AV} {bJ dT:List (Nat×Row)} {yv:AV} (hc:MC P G fx g xs (ZX bJ) yv (ZX dT)) (l ns:List Nat) {id:Nat} {ops:Array Oper} {y:Code} {Q:Exit->St->Prop} (k:AW0 P (fun _=>True) X G n s y Q ff)
  (h:p->MC P G fx g xs (ZX bJ) yv (ZX dT)->∀ (X':Nat->Prop) (ds:List Deferred) (K':St->Prop),K' τ->sxf P (bQ P) (fun _=>True) X' G ⟨n,ds,none⟩ ops K' ops.toList σ:=by
   intro q hc X' ds K' af;(repeat (refine Z0 fun K2 aa=>?_;simp [q];(repeat (refine ⟨by omega,?_⟩));refine aa _ ?_;clear aa K2));refine Z0 fun K2 aa=>?_;simp [q];refine aap.mc hc (by simp [q]) (by simp [q]) (by simp [q]) (by simp [q]) ?_;simp [q];refine aa _ ?_;clear aa K2;repeat (refine Z0 fun K2 aa=>?_;simp [q];(repeat (refine ⟨by omega,?_⟩));refine aa _ ?_;clear aa K2)
   exact Z9 af)
  (hn:p->τ.norm l ns=ff:=by intro q;simp [q];rfl):AW0 P (fun _=>True) X G n s (.seq (.region id ops false) y) Q σ:=
 xl (xk fun X' ds=>aaG (ZZ _) fun K hK=>h q hc X' ds K (hK _ (AW0.norm l ns (hn q ▸ k))))
end
def nC:D:=.sl (some false) []
def p5 (NN RR NA RA:List (List D)) (pl:Int):Heap:=ZX [(2,.box 25 [.d nC,.d nC]),(3,.box 36 [.d (.v .nilIface)]),(4,.box 25 [.own 801 0 NN.length,.own 802 0 RR.length]),(5,.box 46 [.own 803 0 NA.length]),(6,.box 46 [.own 804 0 RA.length]),(7,.box 3 [int pl]),(801,.sl 132 3 NN),(802,.sl 217 3 RR),(803,.sl 3 1 NA),(804,.sl 3 1 RA)]
theorem Nl (c:Option Ex):(dC c).one=true:=by
 cases c with
 | none=>rfl
 | some e=>obtain ⟨a,b,h⟩:=abq e;rw [dC,h];rfl
theorem Gu (l:List Nat) (i:Nat) (h:i < l.length):(aau l)[i]? = some [ab ((l.getD i 0:Nat):Int)]:=by
 rw [List.getD_eq_getElem?_getD];unfold aau;simp [h]
theorem FN {p:aF} {c:Int} {i:Nat} (h:aar p=some (c,some i)):i < p.names.length+p.ZY.length:=by
 unfold aar at h;split at h
 .cases h
 .split at h
  .rename_i e k hf;have:=uT hf;simp only [Option.some.injEq,Prod.mk.injEq] at h;omega
  .split at h
   .rename_i e k hf;have:=uT hf;simp only [Option.some.injEq,Prod.mk.injEq] at h;omega
   .cases h
theorem Ko {k:Int} {nm hd rest:Tx} {c:Int} {off:Nat} (h:jm k nm hd rest = .bad c off):off<=hd.length+1+rest.length:=by
 unfold jm at h;split at h
 .rename_i c' o hp;simp only [mg.bad.injEq] at h
  cases o with
  | none=>simp at h;omega
  | some o=>
   have:=wM hp;simp at h;omega
 .cases h
theorem Ss {s:Tx} {c:Int} {off:Nat} (h:eO s = .bad c off):off<=2 * s.length+1:=by
 have hle:=xJ 61 s
 have nb:∀ l,hU l≠.bad c off:=fun l=>by
  match l with
  | []=>simp [hU]
  | [a]=>simp [hU,eC]
  | [a,b]=>simp only [hU,eC];split<;>simp
  | [a,b,c]=>simp only [hU,eC];split<;>(try split)<;>simp
  | a :: b :: c :: d :: l=>simp [hU,eC]
 unfold eO at h;split at h
 .have h2:off<=(cutAt 61 s).1.length+1+(cutAt 61 s).2.length:=by
   match hw:fe (cutAt 61 s).1,h with
   | [a],h=>exact Ko h
   | [a,b],h=>
    simp only [lE] at h;split at h
    .cases h
    .exact Ko h
  omega
 .exact absurd h (nb _)
theorem ny:(⟨#[]⟩:ByteArray)=bs []:=rfl
theorem nz:(⟨#[32]⟩:ByteArray)=bs [32]:=rfl
set_option maxRecDepth 100000 in
set_option maxHeartbeats 32000000 in
theorem afU (G:ao) (hM:abJ G) (hP:nS G) (hG:mf G) {es er:Value} (hE:o4 G es er) (t:Tx):aw Tryz.prog G 60 [dS t] (.Z4 [dw (abg t).2,Z5 (abg t).1]):=by
 refine aw.UN (ZZ _) Tryz.func60 rfl rfl (rs:=[.cell 2 25,.cell 3 36]) Tryz.results60 (by simp [Tryz.ntmps60]) fun X s0=>?_;simp only [Tryz.ntmps60,List.map];have fw:=(Aq @ab.eq_1 @dS.eq_1);refine zY fw [0,2,3] [2,3] ?_;refine Lr fun K1 ay X' ds=>?_;by_cases ht:20000 < t.length
 .have mH:(t.length:Int) > 20000:=by omega
  have hp:abg t=(some (4,none),⟨[],[]⟩):=by unfold abg;rw [if_pos ht]
  have qf:=(Aq fw (Aq @bh @mH));refine al [0,2,3,19] [2,3] ?_;refine ak (by simp [mH]) ?_;refine ZW fw [2,3] [2,3] ?_;exact aK (Aq fw (Aq @hp (Aq @dw.eq_1 (Aq @cPg.eq_1 (Aq @bR.eq_1 (Aq @dW.eq_1 (Aq @Z5.eq_1 (Aq @Z5.eq_2 @Z5.eq_3))))))))
 have mH:¬ (t.length:Int) > 20000:=by omega
 have HI:=WM G t;have qf:=(Aq fw (Aq @bh @mH));refine al [0,2,3,19] [2,3] ?_;refine ag (by simp [mH]) ?_;refine ah (ay _ ?_);refine zY fw [0,2,3,4] [2,3,4] ?_;refine zY fw [0,2,3,4,5,6] [2,3,4,5,6] ?_;refine zY fw [0,2,3,4,5,6,7] [2,3,4,5,6,7] ?_;refine Ls fun K5 hK5=>?_;refine AW0.imp (fun X' ds=>Z1.lK 4 0 801 132 3 rfl rfl rfl) ?_;refine AW0.st (by simp;rfl) ?_;refine AW0.imp (fun X' ds=>Z1.lK 4 1 802 217 3 rfl rfl rfl) ?_;refine AW0.st (by simp;rfl) ?_;refine AW0.imp (fun X' ds=>Z1.lK 5 0 803 3 1 rfl rfl rfl) ?_;refine AW0.st (by simp;rfl) ?_;refine AW0.imp (fun X' ds=>Z1.lK 6 0 804 3 1 rfl rfl rfl) ?_;refine AW0.st (by simp;rfl) ?_;simp only [rW,wZ,dS,ab] at HI;refine Wt (Aq @IF fw) HI [2,3,4,5,6,7,23] [2,3,4,5,6,7,511,512,513,801,802,803,804] ?_;refine Lp ?_;obtain ⟨l,hl⟩:∃ l,l=cU 10 t:=⟨_,rfl⟩;have Cz:=xK 10 t;rw [<- hl] at Cz
 obtain ⟨inv,Qb⟩:∃ f:Nat->Heap,f=fun k=>match prK l k with
  | .inl _=>eA
  | .inr s=>p5 (s.names.map Z3) (s.ZY.map cg) (aau s.gh) (aau s.gl) (gk l k):=⟨_,rfl⟩
 have hinv:∀ k s,prK l k = .inr s->inv k=p5 (s.names.map Z3) (s.ZY.map cg) (aau s.gh) (aau s.gl) (gk l k):=fun k s h=>by rw [Qb];dsimp only;rw [h]
 refine Lq (l.map fun s=>.string (bs s)) [511,512,513] [2,3,4,5,6,7] (aX [(2,.ref 2 0 0),(3,.ref 3 0 0),(4,.ref 4 0 0),(5,.ref 5 0 0),(6,.ref 6 0 0),(7,.ref 7 0 0)]) inv (fun k=>∃ s,prK l k = .inr s) ⟨kV,rfl⟩ (gf:=210) (caps:=[.ref 512 0 0,.ref 511 0 0,.ref 513 0 0]) (by simp) (eU.of Tryz.func210 rfl rfl) (by decide) ?hIt ?he1 ?hH (fun _ _=>trivial) ?hfx ?round ?done
 case hIt=>
  intro w X μ lb hs b8 aI pE;rw [hl];refine Wx G hM t (by omega) w X μ lb ?_ b8 aI ?_
  .simpa [rW,dS,ab] using hs
  .intro i u x hu hx;have h:=pE i u x hu hx
   match i,hx with
   | 0,hx=>obtain rfl:=Option.some.inj hx;exact h
   | 1,hx=>obtain rfl:=Option.some.inj hx;exact h
   | 2,hx=>obtain rfl:=Option.some.inj hx;exact h
 case he1=>
  intro i x hx;have h:=zj hx;simp only [List.mem_cons,List.not_mem_nil,or_false,Prod.mk.injEq] at h
  rcases h with ⟨rfl,rfl⟩ | ⟨rfl,rfl⟩ | ⟨rfl,rfl⟩ | ⟨rfl,rfl⟩ | ⟨rfl,rfl⟩ | ⟨rfl,rfl⟩<;>exact ⟨rfl,_,rfl,rfl⟩
 case hH=>
  rw [hinv 0 kV rfl];simp [p5,kV,aau,Vb,nC]
  try rfl
 case hfx=>
  intro q h;simp at h ⊢;omega
 case done=>
  rintro ⟨s,hs⟩;rw [List.length_map] at hs ⊢;have dD:=D7 (s:=s) (by omega) (hl ▸ hs);have hok:=wU (t:=t) (by omega) (Nat.le_refl _) (hl ▸ hs);have hsm:=JE hok (by rw [<- hl];omega);have gH:=za G ⟨s.names,s.ZY⟩ hsm;rw [hinv _ _ hs];refine hK5 _ (xk fun X' ds=>?_);obtain ⟨eg,dN,ez,_,_⟩:=hok;rw [<- hl] at ez
  have CM:∀ c i,aar ⟨s.names,s.ZY⟩=some (c,some i)->i < (s.gh ++ s.gl).length:=fun c i h=>by have:=FN h;simp at this ⊢;omega
  unfold p5;refine AW.imp (Z1.freeze 801 trivial) ?_;refine AW.st (by simp [ab,dS];rfl) ?_;refine AW.imp (Z1.freeze 802 trivial) ?_;refine AW.st (by simp [ab,dS];rfl) ?_;refine AW.imp (Z1.freeze 803 trivial) ?_;refine AW.st (by simp [ab,dS];rfl) ?_;refine AW.imp (Z1.freeze 804 trivial) ?_;refine AW.st (by simp [ab,dS];rfl) ?_;have hcc:=M5 G s.gh s.gl (by omega) (by omega);have ja:=fun i h=>Gu (s.gh ++ s.gl) i h;simp only [dw,cPg,bR,dW] at gH;generalize px:s.names.map Z3=NN at gH ⊢;generalize oh:s.ZY.map cg=RR at gH ⊢;generalize aau s.gh=NA at hcc ⊢;generalize aau s.gl=RA at hcc ⊢;generalize aau (s.gh ++ s.gl)=CC at hcc ja
  cases aY:aar ⟨s.names,s.ZY⟩ with
  | none=>
   rw [aY] at gH dD;simp only [Z5] at gH;refine Z6 fw gH [2,3,4,5,6,14] [2,3,4,5,6,7] ?_;refine ae fun K7 dy=>?_;refine ZW (Aq fw (Aq @bl.eq_1 (Aq @bl.eq_2 @aai.eq_1))) [2,3,4,5,6,14,15,16] [2,3,4,5,6,7] ?_;refine ZW fw [2,3,4,5,6,14,15,108] [2,3,4,5,6,7] ?_;refine ag rfl ?_;refine ah (dy _ ?_);refine ae fun K8 dz=>?_;refine ZW fw [2,3,4,14,127] [2,3,4,5,6,7] ?_;refine ag rfl ?_;refine ah (dz _ ?_);refine ZW fw [2,3] [2,3,4,5,6,7] ?_;exact aK (Aq fw (Aq @dD (Aq @dw.eq_1 (Aq @cPg.eq_1 (Aq @bR.eq_1 (Aq @dW.eq_1 (Aq @Z5.eq_1 (Aq @Z5.eq_2 (Aq @Z5.eq_3 (Aq @px @oh))))))))))
  | some ci=>
   obtain ⟨c,i⟩:=ci;rw [aY] at gH dD
   cases i with
   | none=>
    simp only [Z5] at gH;refine Z6 fw gH [2,3,4,5,6,14] [2,3,4,5,6,7] ?_;refine ae fun K7 dy=>?_;refine ZW (Aq fw (Aq @bl.eq_1 (Aq @bl.eq_2 @aai.eq_1))) [2,3,4,5,6,14,15,16] [2,3,4,5,6,7] ?_;refine ZW fw [2,3,4,5,6,14,15,108] [2,3,4,5,6,7] ?_;refine ag rfl ?_;refine ah (dy _ ?_);refine ae fun K8 dz=>?_;refine ZW fw [2,3,4,14,127] [2,3,4,5,6,7] ?_;refine ak rfl ?_;refine ZW fw [2,3] [2,3,4,5,6,7] ?_;exact aK (Aq fw (Aq @dD (Aq @dw.eq_1 (Aq @cPg.eq_1 (Aq @bR.eq_1 (Aq @dW.eq_1 (Aq @Z5.eq_1 (Aq @Z5.eq_2 @Z5.eq_3))))))))
   | some i=>
    have hi:=CM c i aY;have Hd:=ja i hi;dsimp only at dD;obtain ⟨cQ,jU⟩:=List.getElem?_eq_some_iff.1 Hd;simp only [Z5] at gH;simp only [ab] at jU;clear Hd;generalize (s.gh ++ s.gl).getD i 0=pl at jU dD;refine Z6 fw gH [2,3,4,5,6,14] [2,3,4,5,6,7] ?_;refine ae fun K7 dy=>?_;refine ZW (Aq fw (Aq @bl.eq_1 (Aq @bl.eq_2 @aai.eq_1))) [2,3,4,5,6,14,15,16] [2,3,4,5,6,7] ?_;refine ZW fw [2,3,4,5,6,14,15,108] [2,3,4,5,6,7] ?_;refine ak rfl ?_;refine Lv (ZZ _) (by kernel_rfl) ([6,15]) (List.range 18) (by kernel_rfl) fun K' af=>?_;(repeat (refine adl rfl fun K2 aa=>?_;simp [ab,dS,cQ,jU];(repeat (refine ⟨by omega,?_⟩));refine aa _ ?_;clear aa K2));refine adl rfl fun K2 aa=>?_;simp [ab,dS,cQ,jU];refine mj.mk (hcc) (by simp;rfl) (by simp;rfl) (by first | exact D.bn _ | simp [aB,List.map_map,Function.comp_def,D.le,D.le.go,D.le_refl,D.bn,ab,dS,cQ,jU]) (by simp) ?_;refine aa _ ?_;clear aa K2;simp only [Z2,dk];(repeat (refine adl rfl fun K2 aa=>?_;simp [ab,dS,cQ,jU];(repeat (refine ⟨by omega,?_⟩));refine aa _ ?_;clear aa K2));refine r3 (af _ ?_);clear af K';refine dy _ (AW.norm [2,3,4,14] [2,3,4,5,6,7] (fun _ _=>trivial) (AW.st (by simp [ab,dS,cQ,jU];rfl) ?_));refine ae fun K8 dz=>?_;refine ZW fw [2,3,4,14,127] [2,3,4,5,6,7] ?_;refine ak rfl ?_;refine ZW fw [2,3] [2,3,4,5,6,7] ?_;exact aK (Aq fw (Aq @dD (Aq @dw.eq_1 (Aq @cPg.eq_1 (Aq @bR.eq_1 (Aq @dW.eq_1 (Aq @Z5.eq_1 (Aq @Z5.eq_2 @Z5.eq_3))))))))
 case round=>
  rintro X' L k hk ⟨s,hs⟩
  have hk':k < l.length:=by simpa using hk
  obtain ⟨ln,kM⟩:∃ ln,ln=l[k]:=⟨_,rfl⟩;rw [hinv k s hs,show (l.map fun s=>Value.string (bs s))[k] = .string (bs ln) by simp [kM]]
  have QL:gk l k+ln.length<=t.length:=by rw [kM];subst hl;exact Ec hk'
  have df:(gk l (k+1):Int)=(gk l k:Int)+((ln.length:Int)+1):=by rw [Ed hk',<- kM];omega
  have hok:=wU (t:=t) (by omega) (Nat.le_of_lt (hl ▸ hk')) (hl ▸ hs);have eo:∀ s',abY s (gk l k) ln = .inr s'->prK l (k+1) = .inr s':=fun s' h=>JA hk' hs (kM ▸ h);have abC:∀ c i,abY s (gk l k) ln = .inl (c,i)->abg t=(some (c,some i),⟨[],[]⟩):=fun c i h=>D6 (by omega) (hl ▸ Jz hk' hs (kM ▸ h));obtain ⟨eg,dN,ez,_,_⟩:=hok;have htr:=Xq G ln (by omega);have HN:=Xt ln;have Qs:=fun h=>afT G hM hP hG hE ln (by omega) h;generalize s9:gk l k=pk at *
  have O0:(s.names.map Z3).length=s.names.length:=by simp
  have O7:(s.ZY.map cg).length=s.ZY.length:=by simp
  have O1:(aau s.gh).length=s.names.length:=by simp [aau,eg]
  have qL:(aau s.gl).length=s.ZY.length:=by simp [aau,dN]
  generalize px:s.names.map Z3=NN at *;generalize oh:s.ZY.map cg=RR at *;generalize sL:aau s.gh=NA at *;generalize sN:aau s.gl=RA at *;unfold p5;refine AW.st (by simp;rfl) ?_;refine V8 fun K7 dy=>?_;refine reK fw dy [2,3,4,5,6,7,8] [2,3,4,5,6,7,801,802,803,804] ?_;refine aR ?_;refine ae fun K8 dz=>?_;simp only [dS] at htr;by_cases h0:fe ln=[]
  .have hz:=HN.2 h0;rw [hz] at htr
   have dO:abY s pk ln = .inr s:=by unfold abY;rw [if_pos h0]
   have hn:=eo _ dO;refine rg [2,3,4,5,6,7,8,27] [2,3,4,5,6,7,801,802,803,804] (cC rfl) fun K' af=>?_;(repeat (refine Z0 fun K2 aa=>?_;simp [ab,dS,ny,nz,aN,aT];(repeat (refine ⟨by omega,?_⟩));refine aa _ ?_;clear aa K2));refine Z0 fun K2 aa=>?_;simp [ab,dS,ny,nz,aN,aT];refine aap.data (htr) (by simp;rfl) (by first | exact D.bn _ | simp [aB,List.map_map,Function.comp_def,D.le,D.le.go,D.le_refl,D.bn,ab,dS,ny,nz,aN,aT]) ?_;refine aa _ ?_;clear aa K2;simp only [Z2,dk];(repeat (refine Z0 fun K2 aa=>?_;simp [ab,dS,ny,nz,aN,aT];(repeat (refine ⟨by omega,?_⟩));refine aa _ ?_;clear aa K2));refine Z9 (af _ (AW.st (by simp [ab,dS,ny,nz,aN,aT];rfl) ?_));clear af K';refine ag rfl ?_;refine ah (dz _ ?_);have qf:=(Aq fw @bh);refine wX ?_;(try simp only [aM,aP]);refine And.intro ⟨s,hn⟩ ?_;rw [hinv _ _ hn,df,px,oh,sL,sN];unfold p5;refine (show Z1 _ _ _ _ _ ⟨aX [],ZX _⟩ from ?_);refine aU (Aq fw @df)
  have hz:Lib.trimB ln 32≠[]:=fun h=>h0 (HN.1 h)
  have eh:abY s pk ln=match eO ln with
   | .form=>.inl (3,pk)
   | .bad c off=>.inl (c,pk+off)
   | .name n=>if s.ZY=[] then .inr ⟨s.names ++ [n],s.gh ++ [pk],s.ZY,s.gl⟩ else .inl (3,pk)
   | .kX r=>.inr ⟨s.names,s.gh,s.ZY ++ [r],s.gl ++ [pk]⟩:=by unfold abY;rw [if_neg h0];cases eO ln<;>rfl
  have iD:=Qs h0;simp only [dS] at iD;generalize Lib.trimB ln 32=tz at htr hz;refine rg [2,3,4,5,6,7,8,27] [2,3,4,5,6,7,801,802,803,804] (cC rfl) fun K' af=>?_;(repeat (refine Z0 fun K2 aa=>?_;simp [ab,dS,ny,nz,aN,aT,hz];(repeat (refine ⟨by omega,?_⟩));refine aa _ ?_;clear aa K2));refine Z0 fun K2 aa=>?_;simp [ab,dS,ny,nz,aN,aT,hz];refine aap.data (htr) (by simp;rfl) (by first | exact D.bn _ | simp [aB,List.map_map,Function.comp_def,D.le,D.le.go,D.le_refl,D.bn,ab,dS,ny,nz,aN,aT,hz]) ?_;refine aa _ ?_;clear aa K2;simp only [Z2,dk];(repeat (refine Z0 fun K2 aa=>?_;simp [ab,dS,ny,nz,aN,aT,hz];(repeat (refine ⟨by omega,?_⟩));refine aa _ ?_;clear aa K2));refine Z9 (af _ (AW.st (by simp [ab,dS,ny,nz,aN,aT,hz];rfl) ?_));clear af K';refine ak (by simp [hz]) ?_;have s4:=fun c off=>Ss (s:=ln) (c:=c) (off:=off)
  cases hlk:eO ln with
  | form=>
   rw [hlk] at iD eh;dsimp only at eh;simp only [b7] at iD;have hp:=abC _ _ eh;refine Z6 fw iD [2,3,4,5,6,7,8,9,10,11] [2,3,4,5,6,7,801,802,803,804] ?_;refine ae fun K9 hK9=>?_;refine ZW (Aq fw (Aq @bl.eq_1 (Aq @bl.eq_2 @aai.eq_1))) [2,3,4,5,6,7,8,9,10,11,12,13] [2,3,4,5,6,7,801,802,803,804] ?_;refine ZW fw [2,3,4,5,6,7,8,9,10,11,12,39] [2,3,4,5,6,7,801,802,803,804] ?_;refine ag rfl ?_;refine ah (hK9 _ ?_);refine aR ?_;refine ae fun kb aaA=>?_;refine ZW fw [2,3,4,5,6,7,8,9,10,66] [2,3,4,5,6,7,801,802,803,804] ?_;refine ak rfl ?_;refine ah (aaA _ ?_);refine ak rfl ?_;refine As (ZZ _) (by kernel_rfl) ([3]) ([(1,7),(5,2),(6,3)]) (List.range 7) [2,3] [2,3,4,5,6,7,801,802,803,804] (cC rfl) (by kernel_rfl) fun K' af=>?_;(repeat (refine EL rfl fun K2 aa=>?_;simp [ab,dS];(repeat (refine ⟨by omega,?_⟩));refine aa _ ?_;clear aa K2));refine EM (af _ ?_);refine AW.st (by simp [ab,dS];rfl) ?_;clear af K';refine bk (Exists.intro _ (And.intro (Z1.env (by intro i x h;cases h)) ?_));simp [D.le,D.le.go,aB,hp,dw,cPg,bR,dW,Z5,nC,ab]
  | bad c off=>
   rw [hlk] at iD eh;dsimp only at eh;simp only [b7] at iD;have hp:=abC _ _ eh;have ho:=s4 c off hlk
   have bW:((pk+off:Nat):Int)=(pk:Int)+(off:Int):=by omega
   refine Z6 fw iD [2,3,4,5,6,7,8,9,10,11] [2,3,4,5,6,7,801,802,803,804] ?_;refine ae fun K9 hK9=>?_;refine ZW (Aq fw (Aq @bl.eq_1 (Aq @bl.eq_2 @aai.eq_1))) [2,3,4,5,6,7,8,9,10,11,12,13] [2,3,4,5,6,7,801,802,803,804] ?_;refine ZW fw [2,3,4,5,6,7,8,9,10,11,12,39] [2,3,4,5,6,7,801,802,803,804] ?_;refine ak rfl ?_;refine As (ZZ _) (by kernel_rfl) ([12]) ([(4,999),(5,7),(9,999),(14,2),(15,3)]) (List.range 16) [2,3] [2,3,4,5,6,7,801,802,803,804] (cC rfl) (by kernel_rfl) fun K' af=>?_;(repeat (refine EL rfl fun K2 aa=>?_;simp [ab,dS];(repeat (refine ⟨by omega,?_⟩));refine aa _ ?_;clear aa K2));refine EM (af _ ?_);refine AW.st (by simp [ab,dS];rfl) ?_;clear af K';refine bk (Exists.intro _ (And.intro (Z1.env (by intro i x h;cases h)) ?_));simp [D.le,D.le.go,aB,hp,dw,cPg,bR,dW,Z5,nC,ab,bW]
  | name n=>
   rw [hlk] at iD eh;dsimp only at eh;simp only [b7] at iD;have eW:Z3 n=[.v (.string (bs n.name)),.v (.int .i64 n.kind),.v (.int .i64 n.count)]:=rfl
   have GS:(s.names ++ [n]).map Z3=NN ++ [Z3 n]:=by rw [List.map_append,px];rfl
   have sI:aau (s.gh ++ [pk])=NA ++ [[.v (.int .i64 pk)]]:=by rw [<- sL];unfold aau;rw [List.map_append];rfl
   generalize bs n.name=nm at eW;generalize n.kind=kd at eW;generalize n.count=ct at eW;rw [eW] at iD GS;refine Z6 fw iD [2,3,4,5,6,7,8,9,10,11] [2,3,4,5,6,7,801,802,803,804] ?_;refine ae fun K9 hK9=>?_;refine ZW (Aq fw (Aq @bl.eq_1 (Aq @bl.eq_2 @aai.eq_1))) [2,3,4,5,6,7,8,9,10,11,12,13] [2,3,4,5,6,7,801,802,803,804] ?_;refine ZW fw [2,3,4,5,6,7,8,9,10,11,12,39] [2,3,4,5,6,7,801,802,803,804] ?_;refine ag rfl ?_;refine ah (hK9 _ ?_);refine aR ?_;refine ae fun kb aaA=>?_;refine ZW fw [2,3,4,5,6,7,8,9,10,66] [2,3,4,5,6,7,801,802,803,804] ?_;refine ag rfl ?_;by_cases jC:s.ZY=[]
   .rw [if_pos jC] at eh;have hn:=eo _ eh;have acv:RA=[]:=List.length_eq_zero_iff.1 (by rw [qL,jC];rfl);subst acv;refine reK fw aaA [2,3,4,5,6,7,8,9,10,66] [2,3,4,5,6,7,801,802,803,804] ?_;refine ag rfl ?_;refine ZW fw [2,3,4,5,6,7,8,9,10,81] [2,3,4,5,6,7,801,802,803,804] ?_;refine ag rfl ?_;refine uq (ZZ _) (by kernel_rfl) ([(6,(801,59)),(10,(803,63))]) ([(7,[801]),(8,[801]),(9,[801]),(11,[803])]) ([0,1,2,3,4,7,8,5,9,6,11,10,12,13]) (by kernel_rfl) fun K' af=>?_;(repeat (refine ub rfl fun K2 aa=>?_;simp [ab,dS,List.take_of_length_le];(repeat (refine ⟨by omega,?_⟩));refine aa _ ?_;clear aa K2));refine uc (af _ ?_);clear af K';refine dz _ (AW.norm [2,3,4,5,6,7,8] [2,3,4,5,6,7,801,802,803,804] (cC rfl) (AW.st (by simp [ab,dS,List.take_of_length_le];rfl) ?_));have qf:=(Aq fw @bh);refine wX ?_;(try simp only [aM,aP]);refine And.intro ⟨_,hn⟩ ?_;rw [hinv _ _ hn,df];dsimp only;rw [GS,sI,oh,sN];unfold p5;refine (show Z1 _ _ _ _ _ ⟨aX [],ZX _⟩ from ?_);refine aU (Aq fw @df)
   .rw [if_neg jC] at eh;have hp:=abC _ _ eh
    have acv:0 < RA.length:=by rw [qL];exact List.length_pos_iff.2 jC
    have qf:=(Aq fw @acv);refine dv aaA [2,3,4,5,6,7,8,9,10,66] [2,3,4,5,6,7,801,802,803,804] ?_;refine ak (by simp [acv]) ?_;refine As (ZZ _) (by kernel_rfl) ([3]) ([(1,7),(5,2),(6,3)]) (List.range 7) [2,3] [2,3,4,5,6,7,801,802,803,804] (cC rfl) (by kernel_rfl) fun K' af=>?_;(repeat (refine EL rfl fun K2 aa=>?_;simp [ab,dS];(repeat (refine ⟨by omega,?_⟩));refine aa _ ?_;clear aa K2));refine EM (af _ ?_);refine AW.st (by simp [ab,dS];rfl) ?_;clear af K';refine bk (Exists.intro _ (And.intro (Z1.env (by intro i x h;cases h)) ?_));simp [D.le,D.le.go,aB,hp,dw,cPg,bR,dW,Z5,nC,ab]
  | kX r=>
   rw [hlk] at iD eh;dsimp only at eh;simp only [b7] at iD;have hn:=eo _ eh;have CI:=Nl r.cond;have fF:cg r=[.v (.int .i64 r.kind),.v (.string (bs r.name)),dC r.cond]:=rfl
   have yl:(s.ZY ++ [r]).map cg=RR ++ [cg r]:=by rw [List.map_append,oh];rfl
   have sI:aau (s.gl ++ [pk])=RA ++ [[.v (.int .i64 pk)]]:=by rw [<- sN];unfold aau;rw [List.map_append];rfl
   generalize bs r.name=nm at fF;generalize r.kind=kd at fF;generalize dC r.cond=dc at fF CI;rw [fF] at iD yl;refine Z6 fw iD [2,3,4,5,6,7,8,9,10,11] [2,3,4,5,6,7,801,802,803,804] ?_;refine ae fun K9 hK9=>?_;refine ZW (Aq fw (Aq @bl.eq_1 (Aq @bl.eq_2 @aai.eq_1))) [2,3,4,5,6,7,8,9,10,11,12,13] [2,3,4,5,6,7,801,802,803,804] ?_;refine ZW fw [2,3,4,5,6,7,8,9,10,11,12,39] [2,3,4,5,6,7,801,802,803,804] ?_;refine ag rfl ?_;refine ah (hK9 _ ?_);refine aR ?_;refine ae fun kb aaA=>?_;refine ZW fw [2,3,4,5,6,7,8,9,10,66] [2,3,4,5,6,7,801,802,803,804] ?_;refine ag rfl ?_;refine reK fw aaA [2,3,4,5,6,7,8,9,10,66] [2,3,4,5,6,7,801,802,803,804] ?_;refine ag rfl ?_;refine ZW fw [2,3,4,5,6,7,8,9,10,81] [2,3,4,5,6,7,801,802,803,804] ?_;refine ak rfl ?_;refine uq (ZZ _) (by kernel_rfl) ([(6,(802,89)),(10,(804,93))]) ([(7,[802]),(8,[802]),(9,[802]),(11,[804])]) ([0,1,2,3,4,7,8,5,9,6,11,10,12,13]) (by kernel_rfl) fun K' af=>?_;(repeat (refine ub rfl fun K2 aa=>?_;simp [ab,dS,List.take_of_length_le,CI];(repeat (refine ⟨by omega,?_⟩));refine aa _ ?_;clear aa K2));refine uc (af _ ?_);clear af K';refine dz _ (AW.norm [2,3,4,5,6,7,8] [2,3,4,5,6,7,801,802,803,804] (cC rfl) (AW.st (by simp [ab,dS,List.take_of_length_le,CI];rfl) ?_));have qf:=(Aq fw @bh);refine wX ?_;(try simp only [aM,aP]);refine And.intro ⟨_,hn⟩ ?_;rw [hinv _ _ hn,df];dsimp only;rw [yl,sI,px,sL];unfold p5;refine (show Z1 _ _ _ _ _ ⟨aX [],ZX _⟩ from ?_);refine aU (Aq fw @df)
end Go.Proofs.YtdigkhaofjmgkaaGreatDoor
namespace Go.Proofs.YtdigkhaofjmgkaaGreatDoor
open Go.Av
def Sm (S P:Int) (n:Nat):Prop:=S < 1\/3 < S\/P < 0\/2 < P\/n < 1\/3 < n
instance (S P:Int) (n:Nat):Decidable (Sm S P n):=inferInstanceAs (Decidable (_\/_))
set_option maxHeartbeats 1000000 in
theorem Dz (G:ao) (k0:Option Bool) (t:List (List UInt8)) (s:List UInt8) (hs:s≠[]) (ht:t.length < 2^60):aw Tryz.prog G 117 [.sl k0 (t.map fun x=>[dS x]),dS s] (ab (idx (fun x=>x == s) t)):=by
 have hs0:s.isEmpty=false:=by rw [List.isEmpty_eq_false_iff];exact hs
 refine aw.aD (ZZ _) Tryz.func117 rfl rfl (rs:=[.tmp 4]) Tryz.results117 (by simp [Tryz.ntmps117]) fun X=>?_;simp only [Tryz.ntmps117,List.map];have fw:=@ab.eq_1;refine ZW fw [0,1] [] ?_;refine ae fun K1 ay=>?_;refine ZW fw [1,7,8,9] [] ?_;refine aam (S:=Nat) (fun n=>n<=t.length/\∀ i (hi:i < t.length),i < n->(t[i] == s)=false) (fun n=>⟨aX [(1,.d (dS s)),(7,.d (.sl k0 (t.map fun x=>[dS x]))),(8,int t.length),(9,int n)],ZX []⟩) (fun n=>t.length - n) 0 ?_ (by simp) ?_
 .refine aU fw
 .rintro n ⟨hn,hp⟩;refine ZW fw [1,7,8,9,10] [] ?_;refine ae fun K2 aa=>?_;refine dG (b:=n < t.length) (by simp [D.le,D.le.go,aB,ab]) (fun hc=>?_) (fun hc=>?_)
  .have pI:n < t.length:=hc;refine ah (aa _ ?_);refine ae fun K3 aQ=>?_;refine aR ?_;have qf:=(Aq fw @pI);refine al [1,5,6,7,8,9] [] ?_
   cases he:(t[n] == s) with
   | true=>
    have ia:t[n]=s:=by simpa using he
    refine rg [1,5,7,8,9,20] [] (fun _ _=>trivial) fun K' af=>?_;(repeat (refine Z0 fun K2 aa=>?_;simp [ab,dS,ia,aN,bo,aT,hs,hs0];(repeat (refine ⟨by omega,?_⟩));refine aa _ ?_;clear aa K2));refine Z9 (af _ (AW.st (by simp [ab,dS,ia,aN,bo,aT,hs,hs0];rfl) ?_));clear af K';refine ak rfl ?_;refine ZW fw [4] [] ?_;refine bk ?_;simp [D.le,D.le.go,aB,ab];exact (rB pI he fun i hi=>hp i (by omega) hi).symm
   | false=>
    have ia:¬ t[n]=s:=by simpa using he
    refine rg [1,5,7,8,9,20] [] (fun _ _=>trivial) fun K' af=>?_;(repeat (refine Z0 fun K2 aa=>?_;simp [ab,dS,he,ia,aN,bo,aT];(repeat (refine ⟨by omega,?_⟩));refine aa _ ?_;clear aa K2));refine Z9 (af _ (AW.st (by simp [ab,dS,he,ia,aN,bo,aT];rfl) ?_));clear af K';refine ag rfl ?_;refine ah ?_;refine aQ _ (AW.norm [1,7,8,9] [] (fun _ _=>trivial) (AW.st (by simp [ab];rfl) ?_));refine reQ fw ?_;(try simp only [aM,aP]);refine aV.mk (n+1) ⟨by omega,fun i hi aC=>?_⟩ (by omega) ?_
    .by_cases h:i=n
     .subst h;exact he
     .exact hp i hi (by omega)
    refine aU (Aq fw @dS.eq_1)
  .refine bH (ay _ ?_);refine ZW fw [4] [] ?_;refine bk ?_;simp [D.le,D.le.go,aB,ab];exact (rC fun i hi=>hp i hi (by omega)).symm
theorem Ga {p:aF} (h:∀ r∈p.ZY,∃ e,r.cond=some e/\bE e<=2^28):∀ {n:Nat},n<=p.ZY.length->(abO p n).length<=2^28 * n
 | 0,_=>by simp [abO]
 | n+1,hn=>by
  have ih:=Ga h (n:=n) (by omega);obtain ⟨e,he,hb⟩:=h p.ZY[n] (List.getElem_mem _);rw [Bj (by omega),List.length_append]
  have:(adn p p.ZY[n]).length<=2^28:=by
   unfold adn;rw [he,List.length_map];have h1:=Lib.compact_length_le (jG (cf false e));have h2:=nI (cf false e);have h3:=rN false e;show (aaE false e).length<=_;unfold aaE;omega
  omega
set_option maxHeartbeats 16000000 in
theorem IA (G:ao) (p:aF) (eg:p.names.length < 2^62) (dN:p.ZY.length<=100) (hg:∀ r∈p.ZY,∃ e,r.cond=some e/\bE e<=2^28):aw Tryz.prog G 65 [dw p] (.sl none ((Lib.compact (kz (abO p p.ZY.length))).map fun x=>[.v (.int .i64 x)])):=by
 have bA:=fun s=>rI G p eg s;have hlen:=fun n hn=>Ga (n:=n) hg hn;have hL:=hlen _ (Nat.le_refl _);have rh:=WG G 300 3 (abO p p.ZY.length) (by omega);have hco:=M1 G 300 3 (kz (abO p p.ZY.length)) (by rw [aet];omega);rw [aet] at hco;have hcl:=Lib.compact_length_le (kz (abO p p.ZY.length));rw [aet] at hcl;generalize OU:abO p p.ZY.length=l at rh hco hcl hL ⊢;generalize kz l=z at rh hco hcl ⊢
 have cq:List.take (Lib.compact z).length ((Lib.compact z ++ List.replicate (l.length - (Lib.compact z).length) 0).map fun s=>[D.v (.int .i64 s)])=(Lib.compact z).map fun s=>[D.v (.int .i64 s)]:=by
  rw [List.map_append,List.take_append_of_le_length (by simp),List.take_of_length_le (by simp)]
 have Dc:(Lib.compact z ++ List.replicate (l.length - (Lib.compact z).length) 0).length=l.length:=by simp;omega
 generalize Lib.compact z ++ List.replicate (l.length - (Lib.compact z).length) 0=y at hco cq Dc;generalize Lib.compact z=c at hco hcl cq ⊢;simp only [dw,cPg,bR,dW,dS] at bA ⊢;refine aw.aD (ZZ _) Tryz.func65 rfl rfl (rs:=[.tmp 2]) Tryz.results65 (by simp [Tryz.ntmps65]) fun X=>?_;simp only [Tryz.ntmps65,List.map];have fw:=@ab.eq_1;refine ZW fw [1] [1] ?_;refine ck fw 1 ?_;refine ZW fw [1,3] [] ?_;refine ae fun K1 ay=>?_;refine ZW fw [1,3,9,10,11] [] ?_;refine aam (S:=Nat) (fun i=>i<=p.ZY.length) (fun i=>⟨aX [(1,.d (.ip [.sl none (p.names.map Z3),.sl none (p.ZY.map cg)])),(3,.own 300 0 (abO p i).length),(9,.d (.sl none (p.ZY.map cg))),(10,int p.ZY.length),(11,int i)],ZX [(300,.sl 3 1 ((abO p i).map fun x=>[.v (.int .i64 x)]))]⟩) (fun i=>p.ZY.length - i) 0 ?_ (by simp) ?_
 .refine (Z1.kc 3 300 3 1 rfl rfl).trans ?_;refine aU (Aq fw (Aq @abO.eq_1 @abO.eq_2))
 .intro i hi;have ye:=hlen i hi
  have qG:(abO p i).length < 2^40:=by omega
  have mF:=fun h=>Bj (p:=p) (i:=i) h
  have sX:i=p.ZY.length->abO p i=l:=fun h=>by rw [h];exact OU
  generalize GK:abO p i=E at qG mF sX ⊢;refine ZW fw [1,3,9,10,11,12] [300] ?_;refine ae fun K2 aa=>?_;refine dG (b:=i < p.ZY.length) (by simp [D.le,D.le.go,aB,ab]) (fun hc=>?_) (fun hc=>?_)
  .have ax:=hc;obtain ⟨e,he,hb⟩:=hg _ (List.getElem_mem ax);have dh:=mF ax;have fF:cg p.ZY[i]=[.v (.int .i64 p.ZY[i].kind),.v (.string (bs p.ZY[i].name)),dC p.ZY[i].cond]:=rfl;have hed:=afv G e hb
   have Hw:(aaE false e).length<=2^28:=by
    have h1:=Lib.compact_length_le (jG (cf false e));have h2:=nI (cf false e);have h3:=rN false e;unfold aaE;omega
   unfold adn at dh;rw [he] at dh fF;simp only [dC,dS] at dh fF hed;obtain ⟨ta,ca,lX⟩:=abq e;rw [lX] at fF hed;generalize aaE false e=ns at dh hed Hw;generalize p.ZY[i].kind=kd at fF;generalize p.ZY[i].name=nm at fF;refine ah (aa _ ?_);refine ae fun K3 aQ=>?_;refine aR ?_;have qf:=(Aq fw (Aq @ax @fF));refine al [1,3,5,9,10,11] [300,5] ?_;refine ck fw 5 ?_;refine Z6 fw hed [1,3,9,10,11,17,18,19] [300] ?_;obtain ⟨AA,sH⟩:∃ f:Nat->List Int,f=fun j=>E ++ (ns.take j).map (bB p):=⟨_,rfl⟩
   have BB:AA 0=E:=by rw [sH];simp
   have OD:AA ns.length=E ++ ns.map (bB p):=by rw [sH];simp
   have OG:∀ j (h:j < ns.length),AA (j+1)=AA j ++ [bB p ns[j]]:=fun j h=>by rw [sH];dsimp only;rw [List.take_succ_eq_append_getElem h,List.map_append,List.append_assoc];rfl
   have OE:∀ j,(AA j).length < 2^41:=fun j=>by rw [sH];dsimp only;rw [List.length_append,List.length_map,List.length_take];omega
   clear sH;refine aam (S:=Nat) (fun j=>j<=ns.length) (fun j=>⟨aX [(1,.d (.ip [.sl none (p.names.map Z3),.sl none (p.ZY.map cg)])),(3,.own 300 0 (AA j).length),(9,.d (.sl none (p.ZY.map cg))),(10,int p.ZY.length),(11,int i),(17,.d (.sl none (ns.map fun s=>[.v (.string (bs s))]))),(18,int ns.length),(19,int j)],ZX [(300,.sl 3 1 ((AA j).map fun x=>[.v (.int .i64 x)]))]⟩) (fun j=>ns.length - j) 0 ?_ (by simp) ?_
   .refine aU (Aq fw @BB)
   .intro j hj;have sI:=OG j;have GD:=OE j
    have GC:j=ns.length->E ++ ns.map (bB p)=AA j:=fun h=>by rw [h,OD]
    generalize sH:AA j=A at sI GD GC ⊢;refine ZW fw [1,3,9,10,11,17,18,19,20] [300] ?_;refine ae fun K4 bN=>?_;refine dG (b:=j < ns.length) (by simp [D.le,D.le.go,aB,ab]) (fun hc=>?_) (fun hc=>?_)
    .have ju:=hc;have yc:=sI ju;have Hv:=bA ns[j];generalize bB p ns[j]=z2 at yc Hv;refine ah (bN _ ?_);refine ae fun K5 hK5=>?_;refine aR ?_;have qf:=(Aq fw @ju);refine al [1,3,7,9,10,11,17,18,19] [300] ?_;refine aaG (ZZ _) fun K' af=>?_;(repeat (refine Z0 fun K2 aa=>?_;simp [ab,List.take_of_length_le];(repeat (refine ⟨by omega,?_⟩));refine aa _ ?_;clear aa K2));refine Z0 fun K2 aa=>?_;simp [ab,List.take_of_length_le];refine aap.data (Hv) (by simp;rfl) (by first | exact D.bn _ | simp [aB,List.map_map,Function.comp_def,D.le,D.le.go,D.le_refl,D.bn,ab,List.take_of_length_le]) ?_;refine aa _ ?_;clear aa K2;simp only [Z2,dk];(repeat (refine Z0 fun K2 aa=>?_;simp [ab,List.take_of_length_le];(repeat (refine ⟨by omega,?_⟩));refine aa _ ?_;clear aa K2));refine Z9 (af _ ?_);clear af K';refine hK5 _ (AW.norm [1,3,9,10,11,17,18,19] [300] (fun _ _=>trivial) (AW.st (by simp [ab,List.take_of_length_le];rfl) ?_));refine reQ fw ?_;(try simp only [aM,aP]);refine aV.mk (j+1) (by omega) (by omega) ?_;refine aU (Aq fw @yc)
    .obtain rfl:j=ns.length:=by omega
     rw [GC rfl] at dh;refine bH (aQ _ ?_);refine reQ fw ?_;(try simp only [aM,aP]);refine aV.mk (i+1) (by omega) (by omega) ?_;refine aU (Aq fw @dh)
  .obtain rfl:=sX (by omega);refine bH (ay _ ?_);refine Z8 fw rh [3] [300] ?_;refine Z8 fw hco [2] [300] ?_
   have hle:c.length<=y.length:=by omega
   by_cases ow:c.length=y.length
   .have lq:(y.map fun s=>[D.v (.int .i64 s)])=c.map fun s=>[D.v (.int .i64 s)]:=by rw [<- cq,ow,List.take_of_length_le (by simp)]
    refine AW.imp (Z1.freeze 300 trivial) ?_;refine AW.st (by simp [ab,ow,hle,lq];rfl) ?_;exact aK (Aq fw (Aq @ow @lq))
   .refine AW.imp (Z1.freeze 300 trivial) ?_;refine AW.st (by simp [ab,ow,hle,cq];rfl) ?_;exact aK (Aq fw @cq)
set_option maxHeartbeats 16000000 in
theorem XT (G:ao) (hM:abJ G) (p:aF) (eg:p.names.length < 2^40) (lV:∀ n∈p.names,n.name≠[]) (dN:p.ZY.length<=100) (hg:∀ r∈p.ZY,∃ e,r.cond=some e/\bE e<=2^28):aw Tryz.prog G 124 [cN p] (.sl none ((cY p p.names.length).map fun x=>[.v (.int .i64 x)])):=by
 simp only [cN,cPw,bR];refine aw.aD (ZZ _) Tryz.func124 rfl rfl (rs:=[.tmp 2]) Tryz.results124 (by simp [Tryz.ntmps124]) fun X=>?_;simp only [Tryz.ntmps124,List.map];have fw:=@ab.eq_1;refine ZW fw [1] [1] ?_;refine ck fw 1 ?_;refine ZW fw [1,3] [] ?_;refine ae fun K1 ay=>?_;refine ZW fw [1,3,9,10,11] [] ?_;refine aam (S:=Nat) (fun i=>i<=p.names.length) (fun i=>⟨aX [(1,.d (.ip [.sl none (p.names.map Z3),.sl none (p.ZY.map cZ)])),(3,.own 300 0 (cY p i).length),(9,.d (.sl none (p.names.map Z3))),(10,int p.names.length),(11,int i)],ZX [(300,.sl 3 1 ((cY p i).map fun x=>[.v (.int .i64 x)]))]⟩) (fun i=>p.names.length - i) 0 ?_ (by simp) ?_
 .refine (Z1.kc 3 300 3 1 rfl rfl).trans ?_;refine aU (Aq fw (Aq @cY.eq_1 @cY.eq_2))
 .intro i hi;have qG:=xj p i;have mF:=fun h=>Lc (p:=p) (i:=i) h;generalize GK:cY p i=E at qG mF ⊢;refine ZW fw [1,3,9,10,11,12] [300] ?_;refine ae fun K2 aa=>?_;refine dG (b:=i < p.names.length) (by simp [D.le,D.le.go,aB,ab]) (fun hc=>?_) (fun hc=>?_)
  .have ax:=hc;have dh:=mF ax;have aL:=lV _ (List.getElem_mem ax);have eW:Z3 p.names[i]=[.v (.string (bs p.names[i].name)),.v (.int .i64 p.names[i].kind),.v (.int .i64 p.names[i].count)]:=rfl;generalize p.names[i].name=nm at eW dh aL;generalize p.names[i].kind=kd at eW;generalize p.names[i].count=ct at eW;refine ah (aa _ ?_);refine ae fun K3 aQ=>?_;refine aR ?_;have qf:=(Aq fw (Aq @ax @eW));refine al [1,3,4,5,9,10,11] [300,5] ?_;refine ck fw 5 ?_;refine ZW fw [1,3,4,5,9,10,11,17,18,19] [300] ?_;refine aam (S:=Nat) (fun j=>j<=p.ZY.length/\∀ k (hk:k < p.ZY.length),k < j->ach nm p.ZY[k]=false) (fun j=>⟨aX [(1,.d (.ip [.sl none (p.names.map Z3),.sl none (p.ZY.map cZ)])),(3,.own 300 0 E.length),(4,int i),(5,.d (.ip [.v (.string (bs nm)),.v (.int .i64 kd),.v (.int .i64 ct)])),(9,.d (.sl none (p.names.map Z3))),(10,int p.names.length),(11,int i),(17,.d (.sl none (p.ZY.map cZ))),(18,int p.ZY.length),(19,int j)],ZX [(300,.sl 3 1 (E.map fun x=>[.v (.int .i64 x)]))]⟩) (fun j=>p.ZY.length - j) 0 ?_ (by simp) ?_
   .refine aU fw
   .rintro j ⟨hj,eA⟩;refine ZW fw [1,3,4,5,9,10,11,17,18,19,20] [300] ?_;refine ae fun K4 bN=>?_;refine dG (b:=j < p.ZY.length) (by simp [D.le,D.le.go,aB,ab]) (fun hc=>?_) (fun hc=>?_)
    .have ju:=hc;obtain ⟨e,he,hb⟩:=hg _ (List.getElem_mem ju);have fF:cZ p.ZY[j]=[.v (.int .i64 p.ZY[j].kind),.v (.string (bs p.ZY[j].name)),iu p.ZY[j].cond]:=rfl
     have nj:ach nm p.ZY[j]=false->∀ k (hk:k < p.ZY.length),k < j+1->ach nm p.ZY[k]=false:=fun h0 k hk pC=>by
      by_cases h:k=j
      .subst h;exact h0
      .exact eA k hk (by omega)
     have Hg:ach nm p.ZY[j]=true->p.ZY.any (ach nm)=true:=fun h=>List.any_eq_true.2 ⟨_,List.getElem_mem ju,h⟩
     have kQ:ach nm p.ZY[j]=decide (0<=idx (fun x=>x == nm) (aaE false e)):=by unfold ach;rw [he]
     have hed:=VJ G hM e hb
     have Hw:(aaE false e).length<=2^28:=by
      have h1:=Lib.compact_length_le (jG (cf false e));have h2:=nI (cf false e);have h3:=rN false e;unfold aaE;omega
     have eL:=Dz G none (aaE false e) nm aL (by omega);rw [he] at fF;simp only [iu] at fF;obtain ⟨ec,Cd⟩:∃ c,dR e = .ip c:=⟨_,mX e⟩;rw [Cd] at fF hed;generalize aaE false e=ns at hed eL kQ;generalize idx (fun x=>x == nm) ns=ix at eL kQ;generalize ach nm p.ZY[j]=hv at nj Hg kQ;simp only [dS,ab] at hed eL;generalize p.ZY[j].kind=YN at fF;generalize p.ZY[j].name=YU at fF;refine ah (bN _ ?_);refine ae fun K5 hK5=>?_;refine aR ?_;have qf:=(Aq fw (Aq @ju @fF));refine al [1,3,4,5,7,9,10,11,17,18,19] [300,7] ?_;refine ck fw 7 ?_;refine nO (ZZ _) (by kernel_rfl) [1,3,4,5,9,10,11,17,18,19,29] [300] (fun _ _=>trivial) (by kernel_rfl) fun K' af=>?_;(repeat (refine fo fun K2 aa=>?_;simp [ab];(repeat (refine ⟨by omega,?_⟩));refine aa _ ?_;clear aa K2));refine fo fun K2 aa=>?_;simp [ab];refine iT.data (hed) (by simp;rfl) (by simp;rfl) (by first | exact D.bn _ | simp [aB,List.map_map,Function.comp_def,D.le,D.le.go,D.le_refl,D.bn,ab]) ?_;refine aa _ ?_;clear aa K2;simp only [Z2,dk];(repeat (refine fo fun K2 aa=>?_;simp [ab];(repeat (refine ⟨by omega,?_⟩));refine aa _ ?_;clear aa K2));refine fo fun K2 aa=>?_;simp [ab];refine iT.data (eL) (by simp;rfl) (by simp;rfl) (by first | exact D.bn _ | simp [aB,List.map_map,Function.comp_def,D.le,D.le.go,D.le_refl,D.bn,ab]) ?_;refine aa _ ?_;clear aa K2;simp only [Z2,dk];(repeat (refine fo fun K2 aa=>?_;simp [ab];(repeat (refine ⟨by omega,?_⟩));refine aa _ ?_;clear aa K2));refine kZ (af _ ?_);refine AW.st (by simp [ab];rfl) ?_;clear af K';by_cases h0:0<=ix
     .have gg:hv=true:=by rw [kQ];simpa using h0
      rw [if_pos (Hg gg)] at dh;refine ak (by simp [h0]) ?_;refine rg [1,3,9,10,11] [300] (fun _ _=>trivial) fun K' af=>?_;(repeat (refine Z0 fun K2 aa=>?_;simp [ab,List.take_of_length_le];(repeat (refine ⟨by omega,?_⟩));refine aa _ ?_;clear aa K2));refine Z9 (af _ (AW.st (by simp [ab,List.take_of_length_le];rfl) ?_));clear af K';refine bH (aQ _ ?_);refine reQ fw ?_;(try simp only [aM,aP]);refine aV.mk (i+1) (by omega) (by omega) ?_;refine aU (Aq fw @dh)
     .have gg:hv=false:=by rw [kQ];simpa using h0
      refine ag (by simp [h0]) ?_;refine ah (hK5 _ ?_);refine reQ fw ?_;(try simp only [aM,aP]);refine aV.mk (j+1) ⟨by omega,nj gg⟩ (by omega) ?_;refine aU fw
    .have py:p.ZY.any (ach nm)=false:=by
      rw [List.any_eq_false];intro r hr;obtain ⟨k,hk,rfl⟩:=List.mem_iff_getElem.1 hr;simpa using eA k hk (by omega)
     rw [py,if_neg (by decide),List.append_nil] at dh;refine bH (aQ _ ?_);refine reQ fw ?_;(try simp only [aM,aP]);refine aV.mk (i+1) (by omega) (by omega) ?_;refine aU (Aq fw @dh)
  .obtain rfl:i=p.names.length:=by omega
   refine bH (ay _ ?_);refine AW.imp (Z1.freeze 300 trivial) ?_;refine AW.st (by simp [ab,List.take_of_length_le];rfl) ?_;refine ZW fw [2] [] ?_;exact aK (Aq fw @GK)
def xm (G:ao):Prop:=G 1=some (.ip [.sl none [[.v (.string (bs []))],[.v (.string (bs [105,110,112,117,116]))],[.v (.string (bs [99,111,105,108]))],[.v (.string (bs [116,105,109,101,114]))],[.v (.string (bs [99,111,117,110,116,101,114]))]]])
def xn (G:ao):Prop:=G 0=some (.ip [.sl none [[.v (.string (bs []))],[.v (.string (bs []))],[.v (.string (bs [115,101,116]))],[.v (.string (bs [114,101,115,101,116]))],[.v (.string (bs [114,117,110]))],[.v (.string (bs [99,111,117,110,116]))],[.v (.string (bs [122,101,114,111]))]]])
theorem A4 {p:aF} {c:Int} {o:Option Nat} (h:aar p=some (c,o)):c≠0:=by
 unfold aar at h;split at h
 .simp only [Option.some.injEq,Prod.mk.injEq] at h;omega
 split at h
 .rename_i hf;simp only [Option.some.injEq,Prod.mk.injEq] at h;have:=(uT hf).2.2;rw [<- h.1];exact this
 split at h
 .rename_i hf;simp only [Option.some.injEq,Prod.mk.injEq] at h;have:=(uT hf).2.2;rw [<- h.1];exact this
 .cases h
theorem Ut {s:Tx} (h:fL s=true):s≠[]/\s.length<=8:=by
 unfold fL at h;simp only [Bool.and_eq_true,decide_eq_true_eq] at h;exact ⟨h.1,h.2.1⟩
theorem Sn {s:Tx} {r:RgP} (h:eO s = .kX r):∃ e,r.cond=some e/\WfE e/\pg e<=20/\bE e<=10000:=by
 unfold eO at h;split at h
 .obtain ⟨k,nm,hm,hr⟩:=Kn h;obtain ⟨e,he,hp,_,hn,_⟩:=Kr hr;exact ⟨e,he,(D9 hp).1,(D9 hp).2,Jr hp⟩
 .exact absurd h IV
def j9 (r:RgP):Prop:=∃ e,r.cond=some e/\WfE e/\pg e<=20/\bE e<=10000
theorem Jy {l:List Tx}:∀ {k:Nat} {s:kC},prK l k = .inr s->∀ r∈s.ZY,j9 r
 | 0,s,h=>by
  simp only [prK,Sum.inr.injEq] at h;subst h;simp [kV]
 | k+1,s,h=>by
  rw [prK] at h
  cases hk:prK l k with
  | inl e=>rw [hk] at h;cases h
  | inr s0=>
   rw [hk] at h;dsimp only at h;have ih:=Jy hk;unfold abY at h;split at h
   .simp only [Sum.inr.injEq] at h;subst h;exact ih
   .split at h
    .cases h
    .cases h
    .split at h
     .simp only [Sum.inr.injEq] at h;subst h;exact ih
     .cases h
    .rename_i r hr;simp only [Sum.inr.injEq] at h;subst h;intro r' jY
     rcases List.mem_append.1 jY with h1 | h1
     .exact ih r' h1
     .obtain rfl:=List.mem_singleton.1 h1;exact Sn hr
theorem U5 {t:Tx} {p:aF} (h:abg t=(none,p)):aar p=none/\∀ r∈p.ZY,j9 r:=by
 unfold abg at h;split at h
 .cases h
 .split at h
  .cases h
  .rename_i s hs;split at h
   .rename_i hc;simp only [Prod.mk.injEq,true_and] at h;subst h;exact ⟨hc,Jy hs⟩
   .cases h
   .cases h
theorem U4 {t:Tx} {e:Int×Option Nat} (h:(abg t).1=some e):(abg t).2=⟨[],[]⟩:=by
 by_cases h1:20000 < t.length
 .unfold abg;rw [if_pos h1]
 .cases hs:prK (cU 10 t) (cU 10 t).length with
  | inl ci=>obtain ⟨c,i⟩:=ci;rw [D6 (by omega) hs]
  | inr s=>
   rw [D7 (by omega) hs] at h ⊢
   cases hc:aar ⟨s.names,s.ZY⟩ with
   | none=>rw [hc] at h;cases h
   | some co=>
    obtain ⟨c,o⟩:=co;cases o<;>rfl
theorem XV:(⟨#[32]⟩:ByteArray)=bs [32]:=rfl
theorem Ak:(⟨#[]⟩:ByteArray)=bs []:=rfl
def lQ (l:List Tx):List (List D):=(l.filter fun w=>decide (w≠[])).map fun s=>[dS s]
theorem Gt:lQ []=[]:=rfl
theorem Oi (l:List Tx) (n:Nat) (h:n < l.length):lQ (l.take (n+1))=if l[n]=[] then lQ (l.take n) else lQ (l.take n) ++ [[dS l[n]]]:=by
 unfold lQ;rw [List.take_succ_eq_append_getElem h,List.filter_append,List.map_append];by_cases h0:l[n]=[]
 .simp [h0]
 .simp [h0]
set_option maxHeartbeats 4000000 in
theorem Li (G:ao) (hM:abJ G) (t:Tx) (ht:t.length < 2^30):aw Tryz.prog G 115 [dS t] (.sl none ((fe t).map fun s=>[dS s])):=by
 have oM:=KF G hM t 32 ht
 have Rc:(fe t).map (fun s=>[dS s])=lQ (cU 32 t):=by
  unfold lQ fe cU;rw [<- Am]
 rw [Rc];have hll:=xK 32 t;simp only [dS] at oM;generalize cU 32 t=l at *;refine aw.aD (ZZ _) Tryz.func115 rfl rfl (rs:=[.tmp 2]) Tryz.results115 (by simp [Tryz.ntmps115]) fun X=>?_;simp only [Tryz.ntmps115,List.map];have fw:=@ab.eq_1;refine ZW fw [0] [] ?_;refine ZW fw [0,3] [] ?_;refine ae fun K1 ay=>?_;have qf:=(Aq fw @XV);refine aaF oM [3,7,8,9] [] ?_;refine AW.imp (Z1.kc 3 300 9 1 rfl rfl) ?_;refine aam (S:=Nat) (fun n=>n<=l.length) (fun n=>⟨aX [(3,.own 300 0 (lQ (l.take n)).length),(7,.d (.sl (some true) (l.map fun s=>[dS s]))),(8,int l.length),(9,int n)],ZX [(300,.sl 9 1 (lQ (l.take n)))]⟩) (fun n=>l.length - n) 0 ?_ (by omega) ?_
 .refine Z1.dK (fun _ _=>trivial) (by simp [ab,Gt,dS]) (by simp [ab,Gt,dS])
 .intro n hn;refine ZW fw [3,7,8,9,10] [300] ?_;refine ae fun K2 aa=>?_;by_cases ax:n < l.length
  .refine ak (by simp;omega) ?_;have hs:=Oi l n ax;generalize G0:lQ (l.take (n+1))=W2 at hs;generalize hW:lQ (l.take n)=W at *
   have Yn:W.length<=2^40:=by
    rw [<- hW];unfold lQ;rw [List.length_map];have h1:=List.length_filter_le (fun w=>decide (w≠[])) (l.take n);have h2:=List.length_take_le n l;omega
   refine ah (aa _ ?_);refine ae fun K3 aQ=>?_;refine aR ?_;simp only [dS] at hs;have qf:=(Aq fw (Aq @ax @dS.eq_1));refine al [3,5,7,8,9] [300] ?_;by_cases hx:l[n]=[]
   .rw [if_pos hx] at hs;refine rg [3,5,7,8,9,14] [300] (fun _ _=>trivial) fun K' af=>?_;(repeat (refine Z0 fun K2 aa=>?_;simp [ab,Ak,aN,aT,hx];(repeat (refine ⟨by omega,?_⟩));refine aa _ ?_;clear aa K2));refine Z9 (af _ (AW.st (by simp [ab,Ak,aN,aT,hx];rfl) ?_));clear af K';refine ag (by simp [hx]) ?_;refine ah (aQ _ ?_);refine reQ fw ?_;(try simp only [aM,aP]);refine aV.mk (n+1) (by omega) (by omega) ?_;refine aU (Aq fw (Aq @G0 (Aq @hs @dS.eq_1)))
   .rw [if_neg hx] at hs
    have jZ:l[n].isEmpty=false:=by rw [List.isEmpty_eq_false_iff];exact hx
    refine rg [3,5,7,8,9,14] [300] (fun _ _=>trivial) fun K' af=>?_;(repeat (refine Z0 fun K2 aa=>?_;simp [ab,Ak,aN,aT,hx];(repeat (refine ⟨by omega,?_⟩));refine aa _ ?_;clear aa K2));refine Z9 (af _ (AW.st (by simp [ab,Ak,aN,aT,hx];rfl) ?_));clear af K';refine ak (by simp [hx]) ?_;refine aaG (ZZ _) fun K' af=>?_;(repeat (refine Z0 fun K2 aa=>?_;simp [ab,List.take_of_length_le];(repeat (refine ⟨by omega,?_⟩));refine aa _ ?_;clear aa K2));refine Z9 (af _ ?_);clear af K';refine aQ _ (AW.norm [3,7,8,9] [300] (fun _ _=>trivial) (AW.st (by simp [ab,List.take_of_length_le];rfl) ?_));refine reQ fw ?_;(try simp only [aM,aP]);refine aV.mk (n+1) (by omega) (by omega) ?_;refine aU (Aq fw (Aq @G0 (Aq @hs @dS.eq_1)))
  .obtain rfl:n=l.length:=by omega
   refine ag (by simp) ?_;rw [List.take_length];refine bH (ay _ ?_);refine AW.imp (Z1.freeze 300 trivial) ?_;refine AW.st (by simp [ab];rfl) ?_;refine ZW fw [2] [] ?_;exact aK fw
def qw:Option Int->D
 | some v=>.Z4 [.v (.int .i64 v),.v (.bool true)]
 | none=>.Z4 [.v (.int .i64 0),.v (.bool false)]
set_option maxHeartbeats 4000000 in
theorem V6 (G:ao) (hP:nS G) {es er:Value} (hE:o4 G es er) (s:Tx) (hs:s.length < 2^40):aw Tryz.prog G 118 [dS s] (qw (adq s)):=by
 have hpi:=U2 G hE s hs
 have bA:adq s=match Lib.atoiAll s with
  | .ok v=>if Lib.itoa v=s then some v else none
  | _=>none:=rfl
 unfold qx at hpi;refine aw.aD (ZZ _) Tryz.func118 rfl rfl (rs:=[.tmp 2,.tmp 3]) Tryz.results118 (by simp [Tryz.ntmps118]) fun X=>?_;simp only [Tryz.ntmps118,List.map];have fw:=@dS.eq_1;refine ZW fw [0] [] ?_
 cases hn:Lib.atoiAll s with
 | ok v=>
  rw [hn] at hpi bA;dsimp only at hpi bA;obtain ⟨v0,v1⟩:=Lib.atoiAll_bounds hn;have hit:=Og G hP v v0 v1;simp only [dS] at hit;generalize Lib.itoa v=iv at hit bA;refine Z6 fw hpi [0,4,5] [] ?_;refine ae fun K1 ay=>?_;by_cases hc:iv=s
  .rw [if_pos hc] at bA;subst hc;refine rg [4,18] [] (fun _ _=>trivial) fun K' af=>?_;(repeat (refine Z0 fun K2 aa=>?_;simp [dS,aN,aT];(repeat (refine ⟨by omega,?_⟩));refine aa _ ?_;clear aa K2));refine Z0 fun K2 aa=>?_;simp [dS,aN,aT];refine aap.data (hit) (by simp;rfl) (by first | exact D.bn _ | simp [aB,List.map_map,Function.comp_def,D.le,D.le.go,D.le_refl,D.bn,dS,aN,aT]) ?_;refine aa _ ?_;clear aa K2;simp only [Z2,dk];(repeat (refine Z0 fun K2 aa=>?_;simp [dS,aN,aT];(repeat (refine ⟨by omega,?_⟩));refine aa _ ?_;clear aa K2));refine Z9 (af _ (AW.st (by simp [dS,aN,aT];rfl) ?_));clear af K';refine ag rfl ?_;refine ah (ay _ ?_);refine ZW fw [2,3] [] ?_;refine bk ?_;simp [D.le,D.le.go,aB,dS,bA,qw]
  .rw [if_neg hc] at bA;refine rg [4,18] [] (fun _ _=>trivial) fun K' af=>?_;(repeat (refine Z0 fun K2 aa=>?_;simp [dS,aN,aT,hc];(repeat (refine ⟨by omega,?_⟩));refine aa _ ?_;clear aa K2));refine Z0 fun K2 aa=>?_;simp [dS,aN,aT,hc];refine aap.data (hit) (by simp;rfl) (by first | exact D.bn _ | simp [aB,List.map_map,Function.comp_def,D.le,D.le.go,D.le_refl,D.bn,dS,aN,aT,hc]) ?_;refine aa _ ?_;clear aa K2;simp only [Z2,dk];(repeat (refine Z0 fun K2 aa=>?_;simp [dS,aN,aT,hc];(repeat (refine ⟨by omega,?_⟩));refine aa _ ?_;clear aa K2));refine Z9 (af _ (AW.st (by simp [dS,aN,aT,hc];rfl) ?_));clear af K';refine ak (by simp [hc]) ?_;refine ZW fw [2,3] [] ?_;refine bk ?_;simp [D.le,D.le.go,aB,dS,bA,qw]
 | range=>
  rw [hn] at hpi bA;dsimp only [n7] at hpi bA;refine Z6 fw hpi [0,4,5] [] ?_;refine ae fun K1 ay=>?_;refine ZW fw [4,18] [] ?_;refine ak rfl ?_;refine ZW fw [2,3] [] ?_;refine bk ?_;simp [D.le,D.le.go,aB,dS,bA,qw]
 | _=>
  rw [hn] at hpi bA;dsimp only [n7] at hpi bA;refine Z6 fw hpi [0,4,5] [] ?_;refine ae fun K1 ay=>?_;refine ZW fw [4,18] [] ?_;refine ak rfl ?_;refine ZW fw [2,3] [] ?_;refine bk ?_;simp [D.le,D.le.go,aB,dS,bA,qw]
def sG (l:List Tx) (n:Nat):kC:=match prK l n with
 | .inr s=>s
 | .inl _=>kV
theorem aey {l:List Tx} {n:Nat} {s:kC} (h:prK l n = .inr s):sG l n=s:=by unfold sG;rw [h]
theorem X0 {t:Tx}:∀ w∈fe t,w≠[]:=by
 intro w h;unfold fe at h;rw [<- Am] at h;have:=(List.mem_filter.1 h).2;simpa using this
theorem Ii {l:List Tx} {s:Tx} {k:Nat} (hk:k < l.length) (h0:l[k]≠s):gN l s≠k:=by
 intro e
 have h1:¬ gN l s < 0:=by omega
 unfold gN at e h1;obtain ⟨j,hj,he,hs⟩:=oS h1;rw [he] at e
 have:j=k:=by omega
 subst this;exact h0 (by simpa using hs)
theorem Nk {t:Tx} (h:(61:UInt8)∈t):(cutAt 61 t).1.length+1+(cutAt 61 t).2.length=t.length/\(bs t).extract 0 (cutAt 61 t).1.length=bs (cutAt 61 t).1/\(bs t).extract ((cutAt 61 t).1.length+1) t.length=bs (cutAt 61 t).2:=by
 obtain ⟨a,b,rfl,ha⟩:=List.eq_append_cons_of_mem h;rw [sr ha];refine ⟨by simp;omega,?_,?_⟩
 .rw [Lib.extract_eq];simp [bs]
 .rw [Lib.extract_eq]
  have:(a ++ 61 :: b).drop (a.length+1)=b:=by
   rw [show a.length+1=(a ++ [(61:UInt8)]).length by simp,show a ++ (61:UInt8) :: b=(a ++ [61]) ++ b by simp,List.drop_left]
  simp only [bs];rw [this,List.take_of_length_le (by simp;omega)]
theorem afV:(61:UInt8).toNat=61:=rfl
set_option maxRecDepth 100000 in
set_option maxHeartbeats 64000000 in
theorem Wc (G:ao) (hF:ql G) (hM:abJ G) (hP:nS G) {es er:Value} (hE:o4 G es er) (nd:xm G) (ng:xn G) (t:Tx):aw Tryz.prog G 59 [dS t] (.Z4 [cN (abg t).2,ch (abg t).1]):=by
 have G5:=xx G 4;simp only [ab] at G5;have GL:G 2=some (.ip [.v (.int .i64 0),.v (.int .i64 (-1))]):=hF;unfold xm at nd;unfold xn at ng;refine aw.aD (ZZ _) Tryz.func59 rfl rfl (rs:=[.cell 2 29,.cell 3 124]) Tryz.results59 (by simp [Tryz.ntmps59]) fun X=>?_;simp only [Tryz.ntmps59,List.map];have fw:=(Aq @ab.eq_1 @dS.eq_1);refine ZW fw [0,2,3] [2,3] ?_;refine ae fun K1 ay=>?_;by_cases ht:20000 < t.length
 .have mH:(t.length:Int) > 20000:=by omega
  have hp:abg t=(some (4,none),⟨[],[]⟩):=by unfold abg;rw [if_pos ht]
  have qf:=(Aq fw (Aq @bh @mH));refine al [0,2,3,23] [2,3] ?_;refine ak (by simp [mH]) ?_;refine Z6 fw G5 [2,3] [2,3] ?_;exact aK (Aq fw (Aq @hp (Aq @cN.eq_1 (Aq @cPw.eq_1 (Aq @bR.eq_1 (Aq @ch.eq_1 (Aq @codeF.eq_1 (Aq @codeF.eq_2 (Aq @aab.eq_1 @aab.eq_2)))))))))
 have mH:¬ (t.length:Int) > 20000:=by omega
 have qf:=(Aq fw (Aq @bh @mH));refine al [0,2,3,23] [2,3] ?_;refine ag (by simp [mH]) ?_;refine ah (ay _ ?_);refine ZW fw [0,2,3,4] [2,3,4] ?_;refine ZW fw [0,2,3,4,5,6] [2,3,4] ?_;refine ZW fw [0,2,3,4,5,6,7] [2,3,4] ?_;refine ae fun K2 aa=>?_;have oM:=KF G hM t 10 (by omega);obtain ⟨l,hl⟩:∃ l,l=cU 10 t:=⟨_,rfl⟩;have Cz:=xK 10 t;rw [<- hl] at oM Cz;simp only [dS] at oM;have qf:=(Aq fw @IF);refine aaF oM [2,3,4,5,6,7,27,28,29] [2,3,4] ?_;refine AW.imp (Z1.kc 5 803 3 1 rfl rfl) ?_;refine AW.st (by simp;rfl) ?_;refine AW.imp (Z1.kc 6 804 3 1 rfl rfl) ?_;refine AW.st (by simp;rfl) ?_;refine AW.imp (Z1.lK 4 0 801 140 3 rfl rfl rfl) ?_;refine AW.st (by simp;rfl) ?_;refine AW.imp (Z1.lK 4 1 802 142 3 rfl rfl rfl) ?_;refine AW.st (by simp;rfl) ?_;obtain ⟨NN,px⟩:∃ f:Nat->List (List D),f=fun n=>(sG l n).names.map Z3:=⟨_,rfl⟩;obtain ⟨RR,oh⟩:∃ f:Nat->List (List D),f=fun n=>(sG l n).ZY.map cZ:=⟨_,rfl⟩;obtain ⟨NA,sL⟩:∃ f:Nat->List (List D),f=fun n=>aau (sG l n).gh:=⟨_,rfl⟩;obtain ⟨RA,sN⟩:∃ f:Nat->List (List D),f=fun n=>aau (sG l n).gl:=⟨_,rfl⟩;obtain ⟨PL,GU⟩:∃ f:Nat->Int,f=fun n=>(gk l n:Int):=⟨_,rfl⟩
 have u5:∀ n s,prK l n = .inr s->NN n=s.names.map Z3:=fun n s h=>by rw [px];dsimp only;rw [aey h]
 have vg:∀ n s,prK l n = .inr s->RR n=s.ZY.map cZ:=fun n s h=>by rw [oh];dsimp only;rw [aey h]
 have aee:∀ n s,prK l n = .inr s->NA n=aau s.gh:=fun n s h=>by rw [sL];dsimp only;rw [aey h]
 have ve:∀ n s,prK l n = .inr s->RA n=aau s.gl:=fun n s h=>by rw [sN];dsimp only;rw [aey h]
 have BJ:∀ n,PL n=(gk l n:Int):=fun n=>by rw [GU]
 have z1:NN 0=[]:=u5 0 kV rfl;have z2:RR 0=[]:=vg 0 kV rfl;have z3:NA 0=[]:=aee 0 kV rfl;have z4:RA 0=[]:=ve 0 kV rfl;have z5:PL 0=0:=BJ 0;clear px oh sL sN GU;refine aam (S:=Nat) (fun n=>n<=l.length/\∃ s,prK l n = .inr s) (fun n=>⟨aX [(2,.ref 2 0 0),(3,.ref 3 0 0),(4,.ref 4 0 0),(5,.own 803 0 (NA n).length),(6,.own 804 0 (RA n).length),(7,int (PL n)),(27,.d (.sl (some true) (l.map fun s=>[.v (.string (bs s))]))),(28,int l.length),(29,int n)],ZX [(2,.box 29 [.d nC,.d nC]),(3,.box 124 [.d (.v (.int .i64 0)),.d (.v (.int .i64 0))]),(4,.box 29 [.own 801 0 (NN n).length,.own 802 0 (RR n).length]),(801,.sl 140 3 (NN n)),(802,.sl 142 3 (RR n)),(803,.sl 3 1 (NA n)),(804,.sl 3 1 (RA n))]⟩) (fun n=>l.length - n) 0 ?_ ⟨by omega,kV,rfl⟩ ?_
 .refine Z1.dK (fun _ _=>trivial) (by simp [ab,dS,z1,z2,z3,z4,z5,nC]) (by simp [ab,dS,z1,z2,z3,z4,z5,nC])
 .rintro n ⟨hn0,s,hs⟩;refine ZW fw [2,3,4,5,6,7,27,28,29,30] [2,3,4,801,802,803,804] ?_;refine ae fun K3 aQ=>?_;by_cases ax:n < l.length
  .refine ak (by simp [ax]) ?_;refine ah (aQ _ ?_);refine ae fun K4 bN=>?_;refine aR ?_
   have QL:gk l n+l[n].length<=t.length:=by subst hl;exact Ec ax
   have df:PL (n+1)=(gk l n:Int)+((l[n].length:Int)+1):=by rw [BJ,Ed ax];omega
   have hok:=wU (t:=t) (by omega) (Nat.le_of_lt (hl ▸ ax)) (hl ▸ hs);have eo:∀ s',abY s (gk l n) l[n] = .inr s'->prK l (n+1) = .inr s':=fun s' h=>JA ax hs h;have abC:∀ c i,abY s (gk l n) l[n] = .inl (c,i)->abg t=(some (c,some i),⟨[],[]⟩):=fun c i h=>D6 (by omega) (hl ▸ Jz ax hs h);obtain ⟨eg,dN,ez,_,_⟩:=hok
   have O0:(NN n).length=s.names.length:=by rw [u5 n s hs];simp
   have O7:(RR n).length=s.ZY.length:=by rw [vg n s hs];simp
   have O1:(NA n).length=s.names.length:=by rw [aee n s hs];simp [aau,eg]
   have qL:(RA n).length=s.ZY.length:=by rw [ve n s hs];simp [aau,dN]
   have aef:=fun s' h=>u5 (n+1) s' h;have vf:=fun s' h=>vg (n+1) s' h;have aed:=fun s' h=>aee (n+1) s' h;have vd:=fun s' h=>ve (n+1) s' h;have b1:=(u5 n s hs).symm;have b2:=(vg n s hs).symm;have b3:=(aee n s hs).symm;have b4:=(ve n s hs).symm;rw [BJ n];have th:=Li G hM l[n] (by omega);have hcw:=fun c=>WA G l[n] c
   have kM:∀ x,x=l[n]->x.length<=20000:=fun x h=>by rw [h];omega
   have qf:=(Aq fw @ax);refine al [2,3,4,5,6,7,9,27,28,29] [2,3,4,801,802,803,804] ?_;generalize Yz:l[n]=ln at *;generalize s9:gk l n=pk at *;generalize NN n=N1 at *;generalize RR n=R1 at *;generalize NA n=A1 at *;generalize RA n=A2 at *;refine ZW fw [2,3,4,5,6,7,9,10,27,28,29] [2,3,4,801,802,803,804] ?_;have qf:=(Aq fw @bh);refine al [2,3,4,5,6,7,9,10,27,28,29] [2,3,4,801,802,803,804] ?_;refine ae fun K5 hK5=>?_;have wb:=fun w h=>Ap (t:=ln) (w:=w) h;have jh:=Ao ln;by_cases h0:fe ln=[]
   .have dO:abY s pk ln = .inr s:=by unfold abY;rw [if_pos h0]
    have hn:=eo _ dO;rw [h0] at th;simp only [dS] at th;refine Z6 fw th [2,3,4,5,6,7,9,10,27,28,29,42] [2,3,4,801,802,803,804] ?_;refine ak rfl ?_;refine bH (bN _ ?_);refine reQ fw ?_;(try simp only [aM,aP]);refine aV.mk (n+1) ⟨by omega,s,hn⟩ (by omega) ?_;have e1:=aef _ hn;have e2:=vf _ hn;have e3:=aed _ hn;have e4:=vd _ hn;rw [b1] at e1;rw [b2] at e2;rw [b3] at e3;rw [b4] at e4;refine Z1.dK (fun _ _=>trivial) (by simp [ab,dS,e1,e2,e3,e4,df]) (by simp [ab,dS,e1,e2,e3,e4,df])
   have eh:abY s pk ln=match eO ln with
    | .form=>.inl (3,pk)
    | .bad c off=>.inl (c,pk+off)
    | .name n=>if s.ZY=[] then .inr ⟨s.names ++ [n],s.gh ++ [pk],s.ZY,s.gl⟩ else .inl (3,pk)
    | .kX r=>.inr ⟨s.names,s.gh,s.ZY ++ [r],s.gl ++ [pk]⟩:=by unfold abY;rw [if_neg h0];cases eO ln<;>rfl
   have ef:eO ln=if (61:UInt8)∈ln then lE (cutAt 61 ln).1 (cutAt 61 ln).2 (fe (cutAt 61 ln).1) else hU (fe ln):=rfl;have YL:0 < (fe ln).length:=List.length_pos_iff.2 h0;have hci:=hcw 61;simp only [afV,dS,ab] at hci;generalize pN:fe ln=ws at *
   have YK:(ws.map fun s=>[dS s]).length=ws.length:=by simp
   have lr:¬ (ws.length:Int)=0:=by omega
   simp only [dS] at th;have qf:=(Aq fw (Aq @lr @h0));refine aaF th [2,3,4,5,6,7,9,10,27,28,29,42] [2,3,4,801,802,803,804] ?_;refine ag (by simp [lr,h0]) ?_;refine ah (hK5 _ ?_);by_cases h61:(61:UInt8)∈ln
   .rw [if_pos h61] at ef hci;have hle:=xJ 61 ln;have PE:=Nk h61;have rA:=Li G hM (cutAt 61 ln).1 (by omega);have fv:=Wa G hF (cutAt 61 ln).2 (by omega);have Rb:=X0 (t:=(cutAt 61 ln).1);generalize (cutAt 61 ln).1=hd at *;generalize (cutAt 61 ln).2=rest at *;obtain ⟨hcl,yR,jZ⟩:=PE
    have aeG:¬ (-1:Int) > 0:=by omega
    simp only [dS] at rA fv;refine Z6 fw hci [2,3,4,5,6,7,9,10,11,27,28,29] [2,3,4,801,802,803,804] ?_;refine ae fun K6 de=>?_;refine ZW fw [2,3,4,5,6,7,9,10,11,27,28,29,46] [2,3,4,801,802,803,804] ?_;refine ak (by simp) ?_;have qf:=(Aq fw (Aq @bh @yR));refine aaF rA [2,3,4,5,6,7,9,10,11,12,27,28,29] [2,3,4,801,802,803,804] ?_;refine ZW fw [2,3,4,5,6,7,9,10,11,12,13,27,28,29] [2,3,4,13,801,802,803,804] ?_
    match pO:fe hd,Rb with
    | [],_=>
     rw [pO] at ef;simp only [pO,List.map_nil];refine ae fun K7 dy=>?_;refine ZW fw [2,3,4,5,6,7,9,10,11,12,13,27,28,29,53] [2,3,4,13,801,802,803,804] ?_;refine aR ?_;refine ZW fw [2,3,4,5,6,7,9,10,11,12,13,27,28,29,53,54] [2,3,4,13,801,802,803,804] ?_;refine ag rfl ?_;refine ZW fw [2,3,4,5,6,7,9,10,11,12,13,27,28,29,60] [2,3,4,13,801,802,803,804] ?_;refine ag rfl ?_;refine ah (dy _ ?_);have hp:=abC 3 pk (by rw [eh,ef];try rfl);refine ae fun K8 dz=>?_;have qf:=(Aq fw @hcl);refine al [2,3,4,5,6,7,9,10,11,13,27,28,29,84] [2,3,4,13,801,802,803,804] ?_;refine ak (by simp [hcl]) ?_;refine ZW fw [2,3] [2,3] ?_;exact aK (Aq fw (Aq @hp (Aq @cN.eq_1 (Aq @cPw.eq_1 (Aq @bR.eq_1 (Aq @ch.eq_1 (Aq @codeF.eq_1 (Aq @codeF.eq_2 (Aq @aab.eq_1 @aab.eq_2)))))))))
    | [a],_=>
     rw [pO] at ef;have hk1:True:=trivial;simp only [pO,List.map_nil,List.map_cons];refine ae fun K7 dy=>?_;refine ZW fw [2,3,4,5,6,7,9,10,11,12,13,27,28,29,53] [2,3,4,13,801,802,803,804] ?_;refine aR ?_;refine ZW fw [2,3,4,5,6,7,9,10,11,12,13,27,28,29,53,54] [2,3,4,13,801,802,803,804] ?_;refine ak rfl ?_;refine reK fw dy [2,3,4,5,6,7,9,10,11,12,13,27,28,29] [2,3,4,13,801,802,803,804] ?_;refine ae fun K8 dz=>?_;have qf:=(Aq fw @hk1);refine al [2,3,4,5,6,7,9,10,11,13,27,28,29,84] [2,3,4,13,801,802,803,804] ?_;refine ag (by simp [hk1]) ?_;refine ah (dz _ ?_);have dN:eO ln=jm 1 a hd rest:=ef;unfold jm at dN
     cases dD:(aba rest).2 with
     | some ci=>
      obtain ⟨c,o⟩:=ci;have hc0:=D8 dD
      have fi:¬ c=0:=by omega
      rw [dD] at fv dN;dsimp only at dN;have hp:=abC c (pk+(hd.length+1+o.getD 0)) (by rw [eh,dN])
      cases o with
      | none=>
       simp only [ch,codeF,aab,ab] at fv
       have bW:((pk+(hd.length+1+(none:Option Nat).getD 0):Nat):Int)=(pk:Int)+(hd.length:Int)+1:=by simp;omega
       rw [show (some (pk+(hd.length+1+(none:Option Nat).getD 0)))=some (pk+(hd.length+1+(none:Option Nat).getD 0)) from rfl] at hp;have qf:=(Aq fw (Aq @bh @jZ));refine aaF fv [2,3,4,5,6,7,10,11,13,14,15,27,28,29] [2,3,4,13,15,801,802,803,804] ?_;refine ae fun K9 hK9=>?_;have qf:=(Aq fw @fi);refine al [2,3,4,5,6,7,10,11,13,14,15,27,28,29,98] [2,3,4,13,15,801,802,803,804] ?_;refine ak (by simp [fi]) ?_;refine j8 (ZZ _) (by kernel_rfl) [(2,15),(8,15),(12,2),(13,3)] [2,3] [2,3,13,15] (fun _ _=>trivial) (by kernel_rfl) fun K' af=>?_;(repeat (refine fz fun K2 aa=>?_;simp [ab,dS,aeG];(repeat (refine ⟨by omega,?_⟩));refine aa _ ?_;clear aa K2));refine gO (af _ ?_);refine AW.st (by simp [ab,dS,aeG];rfl) ?_;clear af K';refine bk ?_;simp [D.le,D.le.go,aB,ab,dS,hp,cN,cPw,bR,ch,codeF,aab,bW];omega
      | some o=>
       have mB:=wM dD;simp only [ch,codeF,aab,ab] at fv
       have bW:((pk+(hd.length+1+(some o).getD 0):Nat):Int)=(pk:Int)+(hd.length:Int)+1+(o:Int):=by simp;omega
       have vI:¬ (o:Int) < 0:=by omega
       have qf:=(Aq fw (Aq @bh @jZ));refine aaF fv [2,3,4,5,6,7,10,11,13,14,15,27,28,29] [2,3,4,13,15,801,802,803,804] ?_;refine ae fun K9 hK9=>?_;have qf:=(Aq fw @fi);refine al [2,3,4,5,6,7,10,11,13,14,15,27,28,29,98] [2,3,4,13,15,801,802,803,804] ?_;refine ak (by simp [fi]) ?_;refine j8 (ZZ _) (by kernel_rfl) [(2,15),(8,15),(12,2),(13,3)] [2,3] [2,3,13,15] (fun _ _=>trivial) (by kernel_rfl) fun K' af=>?_;(repeat (refine fz fun K2 aa=>?_;simp [ab,dS,vI];(repeat (refine ⟨by omega,?_⟩));refine aa _ ?_;clear aa K2));refine gO (af _ ?_);refine AW.st (by simp [ab,dS,vI];rfl) ?_;clear af K';refine bk ?_;simp [D.le,D.le.go,aB,ab,dS,hp,cN,cPw,bR,ch,codeF,aab,bW];split<;>omega
     | none=>
      rw [dD] at fv dN;dsimp only at dN;obtain ⟨e,CL⟩:=wN dD;rw [CL] at fv dN;have hn:=eo _ (by rw [eh,dN])
      have gd:(s.ZY ++ [(⟨1,a,some e⟩:RgP)]).map cZ=R1 ++ [[.v (.int .i64 1),.v (.string (bs a)),dR e]]:=by rw [List.map_append,b2];rfl
      have hps:aau (s.gl ++ [pk])=A2 ++ [[.v (.int .i64 pk)]]:=by rw [sv,b4];rfl
      obtain ⟨cs,Ca⟩:=adP e;simp only [ch,codeF,aab,ab,iu] at fv;rw [Ca] at fv gd;have qf:=(Aq fw (Aq @bh @jZ));refine aaF fv [2,3,4,5,6,7,10,11,13,14,15,27,28,29] [2,3,4,13,15,801,802,803,804] ?_;refine ae fun K9 hK9=>?_;refine ZW fw [2,3,4,5,6,7,10,11,13,14,15,27,28,29,98] [2,3,4,13,15,801,802,803,804] ?_;refine ag rfl ?_;refine ah (hK9 _ ?_);refine ZW fw [2,3,4,5,6,7,10,13,27,28,29] [2,3,4,13,801,802,803,804] ?_;refine rg [2,3,4,5,6,7,27,28,29] [2,3,4,801,802,803,804] (fun _ _=>trivial) fun K' af=>?_;(repeat (refine Z0 fun K2 aa=>?_;simp [ab,dS,List.take_of_length_le];(repeat (refine ⟨by omega,?_⟩));refine aa _ ?_;clear aa K2));refine Z9 (af _ (AW.st (by simp [ab,dS,List.take_of_length_le];rfl) ?_));clear af K';refine bH (bN _ ?_);refine reQ fw ?_;(try simp only [aM,aP]);refine aV.mk (n+1) ⟨by omega,_,hn⟩ (by omega) ?_;have e1:=aef _ hn;have e2:=vf _ hn;have e3:=aed _ hn;have e4:=vd _ hn
      try dsimp only at e1 e2 e3 e4
      rw [b1] at e1;rw [gd] at e2;rw [b3] at e3;rw [hps] at e4;refine Z1.dK (fun _ _=>trivial) (by simp [ab,dS,e1,e2,e3,e4,df]) (by simp [ab,dS,e1,e2,e3,e4,df])
    | [a,b],BT=>
     rw [pO] at ef;simp only [pO,List.map_nil,List.map_cons];have ha:=BT a (by simp);have eL:aw Tryz.prog G 117 [.sl none [[.v (.string (bs []))],[.v (.string (bs []))],[.v (.string (bs [115,101,116]))],[.v (.string (bs [114,101,115,101,116]))],[.v (.string (bs [114,117,110]))],[.v (.string (bs [99,111,117,110,116]))],[.v (.string (bs [122,101,114,111]))]],.v (.string (bs a))] (.v (.int .i64 (gN kwR a))):=Dz G none kwR a ha (by decide);have YE:gN kwR a≠0:=Ii (l:=kwR) (k:=0) (by decide) (fun h=>ha h.symm);have YF:gN kwR a≠1:=Ii (l:=kwR) (k:=1) (by decide) (fun h=>ha h.symm);have kI:=aeJ kwR a;refine ae fun K7 dy=>?_;refine ZW fw [2,3,4,5,6,7,9,10,11,12,13,27,28,29,53] [2,3,4,13,801,802,803,804] ?_;refine aR ?_;refine ZW fw [2,3,4,5,6,7,9,10,11,12,13,27,28,29,53,54] [2,3,4,13,801,802,803,804] ?_;refine ag rfl ?_;refine ZW fw [2,3,4,5,6,7,9,10,11,12,13,27,28,29,60] [2,3,4,13,801,802,803,804] ?_;refine ak rfl ?_;refine acS (ZZ _) (by kernel_rfl) [(2,999),(3,999),(6,999),(7,999),(9,13),(11,13)] (by kernel_rfl) fun K' af=>?_;(repeat (refine fz fun K2 aa=>?_;simp [ab,dS,ng];(repeat (refine ⟨by omega,?_⟩));refine aa _ ?_;clear aa K2));refine fz fun K2 aa=>?_;simp [ab,dS,ng];refine iT.data (eL) (by simp;rfl) (by simp;rfl) (by first | exact D.bn _ | simp [aB,List.map_map,Function.comp_def,D.le,D.le.go,D.le_refl,D.bn,ab,dS,ng]) ?_;refine aa _ ?_;clear aa K2;simp only [Z2,dk];(repeat (refine fz fun K2 aa=>?_;simp [ab,dS,ng];(repeat (refine ⟨by omega,?_⟩));refine aa _ ?_;clear aa K2));refine gO (af _ ?_);clear af K';refine dy _ (AW.norm [2,3,4,5,6,7,9,10,11,12,13,27,28,29] [2,3,4,13,801,802,803,804] (fun _ _=>trivial) (AW.st (by simp [ab,dS,ng];rfl) ?_));simp only [lE] at ef;generalize gN kwR a=kk at *;by_cases eM:kk < 2
     .rw [if_pos eM] at ef
      have hk1:kk < 1:=by omega
      have hp:=abC 3 pk (by rw [eh,ef];try rfl);refine ae fun K8 dz=>?_;have qf:=(Aq fw @hk1);refine al [2,3,4,5,6,7,9,10,11,13,27,28,29,84] [2,3,4,13,801,802,803,804] ?_;refine ak (by simp [hk1]) ?_;refine ZW fw [2,3] [2,3] ?_;exact aK (Aq fw (Aq @hp (Aq @cN.eq_1 (Aq @cPw.eq_1 (Aq @bR.eq_1 (Aq @ch.eq_1 (Aq @codeF.eq_1 (Aq @codeF.eq_2 (Aq @aab.eq_1 @aab.eq_2)))))))))
     .rw [if_neg eM] at ef
      have hk1:¬ kk < 1:=by omega
      refine ae fun K8 dz=>?_;have qf:=(Aq fw @hk1);refine al [2,3,4,5,6,7,9,10,11,13,27,28,29,84] [2,3,4,13,801,802,803,804] ?_;refine ag (by simp [hk1]) ?_;refine ah (dz _ ?_);have dN:eO ln=jm kk b hd rest:=ef;unfold jm at dN
      cases dD:(aba rest).2 with
      | some ci=>
       obtain ⟨c,o⟩:=ci;have hc0:=D8 dD
       have fi:¬ c=0:=by omega
       rw [dD] at fv dN;dsimp only at dN;have hp:=abC c (pk+(hd.length+1+o.getD 0)) (by rw [eh,dN])
       cases o with
       | none=>
        simp only [ch,codeF,aab,ab] at fv
        have bW:((pk+(hd.length+1+(none:Option Nat).getD 0):Nat):Int)=(pk:Int)+(hd.length:Int)+1:=by simp;omega
        rw [show (some (pk+(hd.length+1+(none:Option Nat).getD 0)))=some (pk+(hd.length+1+(none:Option Nat).getD 0)) from rfl] at hp;have qf:=(Aq fw (Aq @bh @jZ));refine aaF fv [2,3,4,5,6,7,10,11,13,14,15,27,28,29] [2,3,4,13,15,801,802,803,804] ?_;refine ae fun K9 hK9=>?_;have qf:=(Aq fw @fi);refine al [2,3,4,5,6,7,10,11,13,14,15,27,28,29,98] [2,3,4,13,15,801,802,803,804] ?_;refine ak (by simp [fi]) ?_;refine j8 (ZZ _) (by kernel_rfl) [(2,15),(8,15),(12,2),(13,3)] [2,3] [2,3,13,15] (fun _ _=>trivial) (by kernel_rfl) fun K' af=>?_;(repeat (refine fz fun K2 aa=>?_;simp [ab,dS,aeG];(repeat (refine ⟨by omega,?_⟩));refine aa _ ?_;clear aa K2));refine gO (af _ ?_);refine AW.st (by simp [ab,dS,aeG];rfl) ?_;clear af K';refine bk ?_;simp [D.le,D.le.go,aB,ab,dS,hp,cN,cPw,bR,ch,codeF,aab,bW];omega
       | some o=>
        have mB:=wM dD;simp only [ch,codeF,aab,ab] at fv
        have bW:((pk+(hd.length+1+(some o).getD 0):Nat):Int)=(pk:Int)+(hd.length:Int)+1+(o:Int):=by simp;omega
        have vI:¬ (o:Int) < 0:=by omega
        have qf:=(Aq fw (Aq @bh @jZ));refine aaF fv [2,3,4,5,6,7,10,11,13,14,15,27,28,29] [2,3,4,13,15,801,802,803,804] ?_;refine ae fun K9 hK9=>?_;have qf:=(Aq fw @fi);refine al [2,3,4,5,6,7,10,11,13,14,15,27,28,29,98] [2,3,4,13,15,801,802,803,804] ?_;refine ak (by simp [fi]) ?_;refine j8 (ZZ _) (by kernel_rfl) [(2,15),(8,15),(12,2),(13,3)] [2,3] [2,3,13,15] (fun _ _=>trivial) (by kernel_rfl) fun K' af=>?_;(repeat (refine fz fun K2 aa=>?_;simp [ab,dS,vI];(repeat (refine ⟨by omega,?_⟩));refine aa _ ?_;clear aa K2));refine gO (af _ ?_);refine AW.st (by simp [ab,dS,vI];rfl) ?_;clear af K';refine bk ?_;simp [D.le,D.le.go,aB,ab,dS,hp,cN,cPw,bR,ch,codeF,aab,bW];split<;>omega
      | none=>
       rw [dD] at fv dN;dsimp only at dN;obtain ⟨e,CL⟩:=wN dD;rw [CL] at fv dN;have hn:=eo _ (by rw [eh,dN])
       have gd:(s.ZY ++ [(⟨kk,b,some e⟩:RgP)]).map cZ=R1 ++ [[.v (.int .i64 kk),.v (.string (bs b)),dR e]]:=by rw [List.map_append,b2];rfl
       have hps:aau (s.gl ++ [pk])=A2 ++ [[.v (.int .i64 pk)]]:=by rw [sv,b4];rfl
       obtain ⟨cs,Ca⟩:=adP e;simp only [ch,codeF,aab,ab,iu] at fv;rw [Ca] at fv gd;have qf:=(Aq fw (Aq @bh @jZ));refine aaF fv [2,3,4,5,6,7,10,11,13,14,15,27,28,29] [2,3,4,13,15,801,802,803,804] ?_;refine ae fun K9 hK9=>?_;refine ZW fw [2,3,4,5,6,7,10,11,13,14,15,27,28,29,98] [2,3,4,13,15,801,802,803,804] ?_;refine ag rfl ?_;refine ah (hK9 _ ?_);refine ZW fw [2,3,4,5,6,7,10,13,27,28,29] [2,3,4,13,801,802,803,804] ?_;refine rg [2,3,4,5,6,7,27,28,29] [2,3,4,801,802,803,804] (fun _ _=>trivial) fun K' af=>?_;(repeat (refine Z0 fun K2 aa=>?_;simp [ab,dS,List.take_of_length_le];(repeat (refine ⟨by omega,?_⟩));refine aa _ ?_;clear aa K2));refine Z9 (af _ (AW.st (by simp [ab,dS,List.take_of_length_le];rfl) ?_));clear af K';refine bH (bN _ ?_);refine reQ fw ?_;(try simp only [aM,aP]);refine aV.mk (n+1) ⟨by omega,_,hn⟩ (by omega) ?_;have e1:=aef _ hn;have e2:=vf _ hn;have e3:=aed _ hn;have e4:=vd _ hn
       try dsimp only at e1 e2 e3 e4
       rw [b1] at e1;rw [gd] at e2;rw [b3] at e3;rw [hps] at e4;refine Z1.dK (fun _ _=>trivial) (by simp [ab,dS,e1,e2,e3,e4,df]) (by simp [ab,dS,e1,e2,e3,e4,df])
    | a :: b :: c :: r,_=>
     rw [pO] at ef;simp only [pO,List.map_cons]
     have fI:¬ ((r.length:Int)+1+1+1=1):=by omega
     have e8:¬ ((r.length:Int)+1+1+1=2):=by omega
     have hq3:¬ ((r.length:Int)+1+1+1 < 1):=by omega
     have HD:(r.length:Int)+1+1+1 > 2:=by omega
     refine ae fun K7 dy=>?_;refine ZW fw [2,3,4,5,6,7,9,10,11,12,13,27,28,29,53] [2,3,4,13,801,802,803,804] ?_;refine aR ?_;have qf:=(Aq fw @fI);refine al [2,3,4,5,6,7,9,10,11,12,13,27,28,29,53,54] [2,3,4,13,801,802,803,804] ?_;refine ag (by simp [fI]) ?_;have qf:=(Aq fw @e8);refine al [2,3,4,5,6,7,9,10,11,12,13,27,28,29,60] [2,3,4,13,801,802,803,804] ?_;refine ag (by simp [e8]) ?_;refine ah (dy _ ?_);have hp:=abC 3 pk (by rw [eh,ef];try rfl);refine ae fun K8 dz=>?_;have qf:=(Aq fw (Aq @hq3 @HD));refine al [2,3,4,5,6,7,9,10,11,13,27,28,29,84] [2,3,4,13,801,802,803,804] ?_;refine ak (by simp [hq3,HD]) ?_;refine ZW fw [2,3] [2,3] ?_;exact aK (Aq fw (Aq @hp (Aq @cN.eq_1 (Aq @cPw.eq_1 (Aq @bR.eq_1 (Aq @ch.eq_1 (Aq @codeF.eq_1 (Aq @codeF.eq_2 (Aq @aab.eq_1 @aab.eq_2)))))))))
   .rw [if_neg h61] at ef hci;refine Z6 fw hci [2,3,4,5,6,7,9,10,11,27,28,29] [2,3,4,801,802,803,804] ?_;refine ae fun K6 de=>?_;refine ZW fw [2,3,4,5,6,7,9,10,11,27,28,29,46] [2,3,4,801,802,803,804] ?_;refine ag rfl ?_;refine ah (de _ ?_);refine Z6 fw th [2,3,4,5,6,7,10,16,27,28,29] [2,3,4,801,802,803,804] ?_
    obtain ⟨a,r,rfl⟩:∃ a r,ws=a :: r:=by
     cases ws with
     | nil=>exact absurd rfl h0
     | cons a r=>exact ⟨a,r,rfl⟩
    have ha:=(wb a (by simp)).1;have eL:aw Tryz.prog G 117 [.sl none [[.v (.string (bs []))],[.v (.string (bs [105,110,112,117,116]))],[.v (.string (bs [99,111,105,108]))],[.v (.string (bs [116,105,109,101,114]))],[.v (.string (bs [99,111,117,110,116,101,114]))]],.v (.string (bs a))] (.v (.int .i64 (gN nv a))):=Dz G none nv a ha (by decide);have kI:=aeJ nv a;simp only [hU] at ef;generalize gN nv a=kk at *;simp only [List.map_cons];refine j8 (ZZ _) (by kernel_rfl) [(2,999),(3,999),(7,17)] [2,3,4,5,6,7,10,16,17,27,28,29] [2,3,4,17,801,802,803,804] (fun _ _=>trivial) (by kernel_rfl) fun K' af=>?_;(repeat (refine fz fun K2 aa=>?_;simp [ab,dS,nd];(repeat (refine ⟨by omega,?_⟩));refine aa _ ?_;clear aa K2));refine fz fun K2 aa=>?_;simp [ab,dS,nd];refine iT.data (eL) (by simp;rfl) (by simp;rfl) (by first | exact D.bn _ | simp [aB,List.map_map,Function.comp_def,D.le,D.le.go,D.le_refl,D.bn,ab,dS,nd]) ?_;refine aa _ ?_;clear aa K2;simp only [Z2,dk];(repeat (refine fz fun K2 aa=>?_;simp [ab,dS,nd];(repeat (refine ⟨by omega,?_⟩));refine aa _ ?_;clear aa K2));refine gO (af _ ?_);refine AW.st (by simp [ab,dS,nd];rfl) ?_;clear af K'
    have dN:((r.map fun s=>[D.v (.string (bs s))]).length:Int)=(r.length:Int):=by simp
    by_cases k1:kk < 1
    .have acd:eO ln = .form:=by
      rw [ef]
      match r with
      | []=>rfl
      | [b]=>rw [eC,if_neg (by omega)]
      | [b,c]=>rw [eC,if_neg (by omega)]
      | b :: c :: d :: r=>rfl
     have hp:=abC 3 pk (by rw [eh,acd]);refine ae fun kb aaA=>?_;have qf:=(Aq fw @k1);refine al [2,3,4,5,6,7,10,16,17,27,28,29,153] [2,3,4,17,801,802,803,804] ?_;refine ak (by simp [k1]) ?_;refine ZW fw [2,3] [2,3] ?_;exact aK (Aq fw (Aq @hp (Aq @cN.eq_1 (Aq @cPw.eq_1 (Aq @bR.eq_1 (Aq @ch.eq_1 (Aq @codeF.eq_1 (Aq @codeF.eq_2 (Aq @aab.eq_1 @aab.eq_2)))))))))
    by_cases k3:kk < 3
    .have fK:¬ kk >= 3:=by omega
     match r,ef with
     | [b],ef=>
      have acd:eO ln = .name ⟨b,kk,0⟩:=by rw [ef,eC,if_pos (by omega)]
      simp only [List.map_cons,List.map_nil];refine ae fun kb aaA=>?_;have qf:=(Aq fw (Aq @k1 (Aq @k3 @fK)));refine al [2,3,4,5,6,7,10,16,17,27,28,29,153] [2,3,4,17,801,802,803,804] ?_;refine ag (by simp [k1,k3,fK]) ?_;refine ah (aaA _ ?_);refine ZW fw [2,3,4,5,6,7,10,16,17,27,28,29] [2,3,4,17,801,802,803,804] ?_;refine ae fun nT iW=>?_;have qf:=(Aq fw (Aq @k1 (Aq @k3 @fK)));refine al [2,3,4,5,6,7,10,16,17,27,28,29,163] [2,3,4,17,801,802,803,804] ?_;refine ag (by simp [fK]) ?_;refine ah (iW _ ?_);refine ae fun jK eI=>?_;by_cases jC:s.ZY=[]
      .have hn:=eo _ (by rw [eh,acd];exact if_pos jC);have acv:A2=[]:=List.length_eq_zero_iff.1 (by rw [qL,jC];rfl)
       have gd:(s.names ++ [(⟨b,kk,0⟩:NmP)]).map Z3=N1 ++ [[.v (.string (bs b)),.v (.int .i64 kk),.v (.int .i64 0)]]:=by rw [List.map_append,b1];rfl
       have hps:aau (s.gh ++ [pk])=A1 ++ [[.v (.int .i64 pk)]]:=by rw [sv,b3];rfl
       subst acv;refine ZW fw [2,3,4,5,6,7,10,17,27,28,29,180] [2,3,4,17,801,802,803,804] ?_;refine ag rfl ?_;refine ah (eI _ ?_);refine aaG (ZZ _) fun K' af=>?_;(repeat (refine Z0 fun K2 aa=>?_;simp [ab,dS,List.take_of_length_le];(repeat (refine ⟨by omega,?_⟩));refine aa _ ?_;clear aa K2));refine Z9 (af _ ?_);clear af K';refine bN _ (AW.norm [2,3,4,5,6,7,27,28,29] [2,3,4,801,802,803,804] (fun _ _=>trivial) (AW.st (by simp [ab,dS,List.take_of_length_le];rfl) ?_));refine reQ fw ?_;(try simp only [aM,aP]);refine aV.mk (n+1) ⟨by omega,_,hn⟩ (by omega) ?_;have e1:=aef _ hn;have e2:=vf _ hn;have e3:=aed _ hn;have e4:=vd _ hn
       try dsimp only at e1 e2 e3 e4
       rw [gd] at e1;rw [b2] at e2;rw [hps] at e3;rw [b4] at e4;refine Z1.dK (fun _ _=>trivial) (by simp [ab,dS,e1,e2,e3,e4,df]) (by simp [ab,dS,e1,e2,e3,e4,df])
      .have hp:=abC 3 pk (by rw [eh,acd];exact if_neg jC)
       have acv:0 < A2.length:=by rw [qL];exact List.length_pos_iff.2 jC
       have qf:=(Aq fw @acv);refine al [2,3,4,5,6,7,10,17,27,28,29,180] [2,3,4,17,801,802,803,804] ?_;refine ak (by simp [acv]) ?_;refine ZW fw [2,3] [2,3] ?_;exact aK (Aq fw (Aq @hp (Aq @cN.eq_1 (Aq @cPw.eq_1 (Aq @bR.eq_1 (Aq @ch.eq_1 (Aq @codeF.eq_1 (Aq @codeF.eq_2 (Aq @aab.eq_1 @aab.eq_2)))))))))
     | [],ef=>
      have acd:eO ln = .form:=ef;simp only [List.map_nil];have hp:=abC 3 pk (by rw [eh,acd]);refine ae fun kb aaA=>?_;have qf:=(Aq fw (Aq @k1 @k3));refine al [2,3,4,5,6,7,10,16,17,27,28,29,153] [2,3,4,17,801,802,803,804] ?_;refine ak (by simp [k1,k3]) ?_;refine ZW fw [2,3] [2,3] ?_;exact aK (Aq fw (Aq @hp (Aq @cN.eq_1 (Aq @cPw.eq_1 (Aq @bR.eq_1 (Aq @ch.eq_1 (Aq @codeF.eq_1 (Aq @codeF.eq_2 (Aq @aab.eq_1 @aab.eq_2)))))))))
     | b :: c :: r,ef=>
      have acd:eO ln = .form:=by
       rw [ef]
       match r with
       | []=>rw [eC,if_neg (by omega)]
       | d :: r=>rfl
      have hq:¬ ((r.length:Int)+1+1+1=2):=by omega
      simp only [List.map_cons];have hp:=abC 3 pk (by rw [eh,acd]);refine ae fun kb aaA=>?_;have qf:=(Aq fw (Aq @k1 (Aq @k3 @hq)));refine al [2,3,4,5,6,7,10,16,17,27,28,29,153] [2,3,4,17,801,802,803,804] ?_;refine ak (by simp [k1,k3,hq]) ?_;refine ZW fw [2,3] [2,3] ?_;exact aK (Aq fw (Aq @hp (Aq @cN.eq_1 (Aq @cPw.eq_1 (Aq @bR.eq_1 (Aq @ch.eq_1 (Aq @codeF.eq_1 (Aq @codeF.eq_2 (Aq @aab.eq_1 @aab.eq_2)))))))))
    have fK:kk >= 3:=by omega
    match r,ef with
    | [b,c],ef=>
     have hcl:c.length<=20000:=by have:=(wb c (by simp)).2;omega
     have hnb:=V6 G hP hE c (by omega);simp only [dS] at hnb;simp only [eC,if_pos fK] at ef;simp only [List.map_cons,List.map_nil];refine ae fun kb aaA=>?_;have qf:=(Aq fw (Aq @k1 (Aq @k3 @fK)));refine al [2,3,4,5,6,7,10,16,17,27,28,29,153] [2,3,4,17,801,802,803,804] ?_;refine ag (by simp [k1,k3,fK]) ?_;refine ah (aaA _ ?_);refine ZW fw [2,3,4,5,6,7,10,16,17,27,28,29] [2,3,4,17,801,802,803,804] ?_;refine ae fun nT iW=>?_;have qf:=(Aq fw (Aq @k1 (Aq @k3 @fK)));refine al [2,3,4,5,6,7,10,16,17,27,28,29,163] [2,3,4,17,801,802,803,804] ?_;refine ak (by simp [fK]) ?_
     cases s7:adq c with
     | none=>
      rw [s7] at hnb ef;simp only [qw] at hnb;have acd:eO ln = .form:=ef;have hp:=abC 3 pk (by rw [eh,acd]);refine Z6 fw hnb [2,3,4,5,6,7,10,17,18,19,27,28,29] [2,3,4,17,801,802,803,804] ?_;refine ae fun sd abB=>?_;refine ZW fw [2,3,4,5,6,7,10,17,18,27,28,29,172] [2,3,4,17,801,802,803,804] ?_;refine ak rfl ?_;refine ZW fw [2,3] [2,3] ?_;exact aK (Aq fw (Aq @hp (Aq @cN.eq_1 (Aq @cPw.eq_1 (Aq @bR.eq_1 (Aq @ch.eq_1 (Aq @codeF.eq_1 (Aq @codeF.eq_2 (Aq @aab.eq_1 @aab.eq_2)))))))))
     | some v=>
      rw [s7] at hnb ef;simp only [qw] at hnb;have acd:eO ln = .name ⟨b,kk,v⟩:=ef;refine Z6 fw hnb [2,3,4,5,6,7,10,17,18,19,27,28,29] [2,3,4,17,801,802,803,804] ?_;refine ae fun sd abB=>?_;refine ZW fw [2,3,4,5,6,7,10,17,18,27,28,29,172] [2,3,4,17,801,802,803,804] ?_;refine ag rfl ?_;refine ah (abB _ ?_);refine reK fw iW [2,3,4,5,6,7,10,17,27,28,29] [2,3,4,17,801,802,803,804] ?_;refine ae fun jK eI=>?_;by_cases jC:s.ZY=[]
      .have hn:=eo _ (by rw [eh,acd];exact if_pos jC);have acv:A2=[]:=List.length_eq_zero_iff.1 (by rw [qL,jC];rfl)
       have gd:(s.names ++ [(⟨b,kk,v⟩:NmP)]).map Z3=N1 ++ [[.v (.string (bs b)),.v (.int .i64 kk),.v (.int .i64 v)]]:=by rw [List.map_append,b1];rfl
       have hps:aau (s.gh ++ [pk])=A1 ++ [[.v (.int .i64 pk)]]:=by rw [sv,b3];rfl
       subst acv;refine ZW fw [2,3,4,5,6,7,10,17,27,28,29,180] [2,3,4,17,801,802,803,804] ?_;refine ag rfl ?_;refine ah (eI _ ?_);refine aaG (ZZ _) fun K' af=>?_;(repeat (refine Z0 fun K2 aa=>?_;simp [ab,dS,List.take_of_length_le];(repeat (refine ⟨by omega,?_⟩));refine aa _ ?_;clear aa K2));refine Z9 (af _ ?_);clear af K';refine bN _ (AW.norm [2,3,4,5,6,7,27,28,29] [2,3,4,801,802,803,804] (fun _ _=>trivial) (AW.st (by simp [ab,dS,List.take_of_length_le];rfl) ?_));refine reQ fw ?_;(try simp only [aM,aP]);refine aV.mk (n+1) ⟨by omega,_,hn⟩ (by omega) ?_;have e1:=aef _ hn;have e2:=vf _ hn;have e3:=aed _ hn;have e4:=vd _ hn
       try dsimp only at e1 e2 e3 e4
       rw [gd] at e1;rw [b2] at e2;rw [hps] at e3;rw [b4] at e4;refine Z1.dK (fun _ _=>trivial) (by simp [ab,dS,e1,e2,e3,e4,df]) (by simp [ab,dS,e1,e2,e3,e4,df])
      .have hp:=abC 3 pk (by rw [eh,acd];exact if_neg jC)
       have acv:0 < A2.length:=by rw [qL];exact List.length_pos_iff.2 jC
       have qf:=(Aq fw @acv);refine al [2,3,4,5,6,7,10,17,27,28,29,180] [2,3,4,17,801,802,803,804] ?_;refine ak (by simp [acv]) ?_;refine ZW fw [2,3] [2,3] ?_;exact aK (Aq fw (Aq @hp (Aq @cN.eq_1 (Aq @cPw.eq_1 (Aq @bR.eq_1 (Aq @ch.eq_1 (Aq @codeF.eq_1 (Aq @codeF.eq_2 (Aq @aab.eq_1 @aab.eq_2)))))))))
    | [],ef=>
     have acd:eO ln = .form:=ef;simp only [List.map_nil];have hp:=abC 3 pk (by rw [eh,acd]);refine ae fun kb aaA=>?_;have qf:=(Aq fw (Aq @k1 (Aq @k3 @fK)));refine al [2,3,4,5,6,7,10,16,17,27,28,29,153] [2,3,4,17,801,802,803,804] ?_;refine ak (by simp [k1,k3,fK]) ?_;refine ZW fw [2,3] [2,3] ?_;exact aK (Aq fw (Aq @hp (Aq @cN.eq_1 (Aq @cPw.eq_1 (Aq @bR.eq_1 (Aq @ch.eq_1 (Aq @codeF.eq_1 (Aq @codeF.eq_2 (Aq @aab.eq_1 @aab.eq_2)))))))))
    | [b],ef=>
     have acd:eO ln = .form:=by rw [ef,eC,if_neg (by omega)]
     simp only [List.map_cons,List.map_nil];have hp:=abC 3 pk (by rw [eh,acd]);refine ae fun kb aaA=>?_;have qf:=(Aq fw (Aq @k1 (Aq @k3 @fK)));refine al [2,3,4,5,6,7,10,16,17,27,28,29,153] [2,3,4,17,801,802,803,804] ?_;refine ak (by simp [k1,k3,fK]) ?_;refine ZW fw [2,3] [2,3] ?_;exact aK (Aq fw (Aq @hp (Aq @cN.eq_1 (Aq @cPw.eq_1 (Aq @bR.eq_1 (Aq @ch.eq_1 (Aq @codeF.eq_1 (Aq @codeF.eq_2 (Aq @aab.eq_1 @aab.eq_2)))))))))
    | b :: c :: d :: r,ef=>
     have acd:eO ln = .form:=ef
     have hq:¬ ((r.length:Int)+1+1+1+1=3):=by omega
     simp only [List.map_cons];have hp:=abC 3 pk (by rw [eh,acd]);refine ae fun kb aaA=>?_;have qf:=(Aq fw (Aq @k1 (Aq @k3 (Aq @fK @hq))));refine al [2,3,4,5,6,7,10,16,17,27,28,29,153] [2,3,4,17,801,802,803,804] ?_;refine ak (by simp [k1,k3,fK,hq]) ?_;refine ZW fw [2,3] [2,3] ?_;exact aK (Aq fw (Aq @hp (Aq @cN.eq_1 (Aq @cPw.eq_1 (Aq @bR.eq_1 (Aq @ch.eq_1 (Aq @codeF.eq_1 (Aq @codeF.eq_2 (Aq @aab.eq_1 @aab.eq_2)))))))))
  .obtain rfl:n=l.length:=by omega
   refine ag (by simp) ?_;have dD:=D7 (s:=s) (by omega) (hl ▸ hs);have hok:=wU (t:=t) (by omega) (Nat.le_refl _) (hl ▸ hs);have hsm:=JE hok (by rw [<- hl];omega);have gH:=Sj G hF hM ⟨s.names,s.ZY⟩ hsm;obtain ⟨eg,dN,ez,_,_⟩:=hok;rw [<- hl] at ez;have b1:=u5 _ s hs;have b2:=vg _ s hs;have b3:=aee _ s hs;have b4:=ve _ s hs;simp only [cN,cPw,bR] at gH;rw [<- b1,<- b2] at gH
   have Ye:(NA l.length).length=s.names.length:=by rw [b3];simp [aau,eg]
   have Yf:(RA l.length).length=s.ZY.length:=by rw [b4];simp [aau,dN]
   have ja:=fun i h=>Gu (s.gh ++ s.gl) i h;rw [sv,<- b3,<- b4] at ja;have q1:(∀ el∈RA l.length,el.length=1)=True:=eq_true (by rw [b4];simp [aau]);have q2:(∀ el∈RA l.length,∀ c∈el,c.one=true)=True:=eq_true (by rw [b4];simp [aau,ab,D.one])
   have yK:cN ⟨s.names,s.ZY⟩ = .agg [.sl none (NN l.length),.sl none (RR l.length)]:=by rw [b1,b2];rfl
   have PA:=fun c o=>A4 (p:=⟨s.names,s.ZY⟩) (c:=c) (o:=o)
   have CM:∀ c i,aar ⟨s.names,s.ZY⟩=some (c,some i)->i < (s.gh ++ s.gl).length:=fun c i h=>by have:=FN h;simp at this ⊢;omega
   refine bH (aa _ ?_);generalize NN l.length=N1 at *;generalize RR l.length=R1 at *;generalize NA l.length=A1 at *;generalize RA l.length=A2 at *;refine AW.imp (Z1.freeze 801 trivial) ?_;refine AW.st (by simp [ab,dS];rfl) ?_;refine AW.imp (Z1.freeze 802 trivial) ?_;refine AW.st (by simp [ab,dS];rfl) ?_;refine AW.imp (Z1.freeze 804 trivial) ?_;refine AW.st (by simp [ab,dS];rfl) ?_
   cases aY:aar ⟨s.names,s.ZY⟩ with
   | none=>
    rw [aY] at gH dD;dsimp only at dD;simp only [ch,codeF,aab,ab] at gH;refine Z6 fw gH [2,3,4,5,6,20] [2,3,4,20,803] ?_;refine ae fun K14 adb=>?_;refine ZW fw [2,3,4,5,6,20,199] [2,3,4,20,803] ?_;refine ag rfl ?_;refine ah (adb _ ?_);refine j8 (ZZ _) (by kernel_rfl) [(0,4),(2,2),(3,3)] [2,3] [2,3] (fun _ _=>trivial) (by kernel_rfl) fun K' af=>?_;(repeat (refine fz fun K2 aa=>?_;simp [ab,dS,GL];(repeat (refine ⟨by omega,?_⟩));refine aa _ ?_;clear aa K2));refine gO (af _ ?_);refine AW.st (by simp [ab,dS,GL];rfl) ?_;clear af K';exact aK (Aq fw (Aq @dD (Aq @yK (Aq @ch.eq_1 (Aq @codeF.eq_1 (Aq @codeF.eq_2 (Aq @aab.eq_1 @aab.eq_2)))))))
   | some ci=>
    obtain ⟨c,o⟩:=ci;have hc0:=PA c o aY;rw [aY] at gH dD
    cases o with
    | none=>
     dsimp only at dD;simp only [ch,codeF,aab,ab] at gH;refine Z6 fw gH [2,3,4,5,6,20] [2,3,4,20,803] ?_;refine ae fun K14 adb=>?_;have qf:=(Aq fw @hc0);refine al [2,3,4,5,6,20,199] [2,3,4,20,803] ?_;refine ak (by simp [hc0]) ?_;refine ae fun Aw qI=>?_;refine ZW fw [2,3,5,6,20,202] [2,3,4,20,803] ?_;refine ag rfl ?_;refine ah (qI _ ?_);refine j8 (ZZ _) (by kernel_rfl) [(1,20),(2,2),(3,3)] [2,3] [2,3] (fun _ _=>trivial) (by kernel_rfl) fun K' af=>?_;(repeat (refine fz fun K2 aa=>?_;simp [ab,dS];(repeat (refine ⟨by omega,?_⟩));refine aa _ ?_;clear aa K2));refine gO (af _ ?_);refine AW.st (by simp [ab,dS];rfl) ?_;clear af K';exact aK (Aq fw (Aq @dD (Aq @cN.eq_1 (Aq @cPw.eq_1 (Aq @bR.eq_1 (Aq @ch.eq_1 (Aq @codeF.eq_1 (Aq @codeF.eq_2 (Aq @aab.eq_1 @aab.eq_2)))))))))
    | some i=>
     dsimp only at dD;have hi:=CM c i aY;obtain ⟨cQ,jU⟩:=List.getElem?_eq_some_iff.1 (ja i hi);clear ja
     have Hi:i < A1.length+A2.length:=by simpa using cQ
     have sZ:(i:Int) < (A1.length:Int)+(A2.length:Int):=by omega
     simp only [ch,codeF,aab,ab] at gH jU;generalize (s.gh ++ s.gl).getD i 0=pl at jU dD;refine Z6 fw gH [2,3,4,5,6,20] [2,3,4,20,803] ?_;refine ae fun K14 adb=>?_;have qf:=(Aq fw @hc0);refine al [2,3,4,5,6,20,199] [2,3,4,20,803] ?_;refine ak (by simp [hc0]) ?_;refine ae fun Aw qI=>?_;refine ZW fw [2,3,5,6,20,202] [2,3,4,20,803] ?_;refine ak (by simp) ?_;refine uq (ZZ _) (by kernel_rfl) ([(2,(803,803))]) ([(3,[803]),(4,[803]),(7,[803])]) ([0,1,3,4,2,5,6,7,8]) (by kernel_rfl) fun K' af=>?_;(repeat (refine ub rfl fun K2 aa=>?_;simp [ab,dS,uR,q1,q2,cQ,Hi,sZ,jU,List.take_of_length_le];(repeat (refine ⟨by omega,?_⟩));refine aa _ ?_;clear aa K2));refine uc (af _ ?_);clear af K';refine qI _ (AW.norm [2,3,20] [2,3,4,20] (fun _ _=>trivial) (AW.st (by simp [ab,dS,uR,q1,q2,cQ,Hi,sZ,jU,List.take_of_length_le];rfl) ?_));refine j8 (ZZ _) (by kernel_rfl) [(1,20),(2,2),(3,3)] [2,3] [2,3] (fun _ _=>trivial) (by kernel_rfl) fun K' af=>?_;(repeat (refine fz fun K2 aa=>?_;simp [ab,dS];(repeat (refine ⟨by omega,?_⟩));refine aa _ ?_;clear aa K2));refine gO (af _ ?_);refine AW.st (by simp [ab,dS];rfl) ?_;clear af K';exact aK (Aq fw (Aq @dD (Aq @cN.eq_1 (Aq @cPw.eq_1 (Aq @bR.eq_1 (Aq @ch.eq_1 (Aq @codeF.eq_1 (Aq @codeF.eq_2 (Aq @aab.eq_1 @aab.eq_2)))))))))
theorem Kq {k:Int} {nm hd rest:Tx} {c:Int} {o:Nat} (h:jm k nm hd rest = .bad c o):c≠0:=by
 unfold jm at h;split at h
 .rename_i c' o' he;simp only [mg.bad.injEq] at h;have:=D8 he;omega
 .cases h
theorem Wq {hd rest:Tx} {l:List Tx} {c:Int} {o:Nat} (h:lE hd rest l = .bad c o):c≠0:=by
 unfold lE at h;split at h
 .exact Kq h
 .split at h
  .cases h
  .exact Kq h
 .cases h
theorem Uu {l:List Tx} {c:Int} {o:Nat} (h:hU l = .bad c o):c≠0:=by
 unfold hU at h;split at h
 .unfold eC at h;split at h
  .split at h<;>cases h
  .split at h
   .split at h<;>cases h
   .cases h
  .cases h
 .cases h
theorem Sq {s:Tx} {c:Int} {o:Nat} (h:eO s = .bad c o):c≠0:=by
 unfold eO at h;split at h
 .exact Wq h
 .exact Uu h
theorem afa {l:List Tx}:∀ {k:Nat} {c:Int} {i:Nat},prK l k = .inl (c,i)->c≠0
 | 0,c,i,h=>by cases h
 | k+1,c,i,h=>by
  rw [prK] at h
  cases hk:prK l k with
  | inl e=>
   rw [hk] at h;obtain ⟨c',i'⟩:=e;simp only [Sum.inl.injEq,Prod.mk.injEq] at h;have:=afa hk;omega
  | inr s0=>
   rw [hk] at h;dsimp only at h;unfold abY at h;split at h
   .cases h
   .split at h
    .simp only [Sum.inl.injEq,Prod.mk.injEq] at h;omega
    .rename_i hb;simp only [Sum.inl.injEq,Prod.mk.injEq] at h;have:=Sq hb;omega
    .split at h
     .cases h
     .simp only [Sum.inl.injEq,Prod.mk.injEq] at h;omega
    .cases h
theorem U3 {t:Tx} {c:Int} {o:Option Nat} (h:(abg t).1=some (c,o)):c≠0:=by
 unfold abg at h;split at h
 .simp only [Option.some.injEq,Prod.mk.injEq] at h;omega
 .split at h
  .rename_i c' i' hp;simp only [Option.some.injEq,Prod.mk.injEq] at h;have:=afa hp;omega
  .split at h
   .cases h
   .rename_i c' hc;simp only [Option.some.injEq,Prod.mk.injEq] at h;have:=A4 hc;omega
   .rename_i c' i' hc;simp only [Option.some.injEq,Prod.mk.injEq] at h;have:=A4 hc;omega
end Go.Proofs.YtdigkhaofjmgkaaGreatDoor
namespace Go.Av
section
variable {P:Program} {T:Ty} {Mv X:Nat->Prop} {G:ao} {N:Fr} {w:World} {μ:Mu} {a:Act} {σ:St} {ops:Array Oper}
def patch (R:List Nat) (H0 H2:Heap):Heap:=fun q=>if R.contains q then H0 q else H2 q
def nR (R:List Nat) (H:Heap):Prop:=∀ q,R.contains q=true->H q=none\/∃ (t:TypeId) (cs:List D),H q=some (.box t (cs.map AV.d))
def qo (R:List Nat) (H0 H:Heap):Prop:=∀ q,R.contains q=false->H0 q=H q
def tI (R:List Nat):AV->Bool
 | .ref r _ _=>!R.contains r
 | _=>true
def qk (P:Program) (G:ao) (mvd R:List Nat) (g:FuncId) (xs:List AV) (H:Heap) (y:AV) (H2:Heap):Prop:=
 nR R H/\(∀ q,R.contains q=true->H2 q=H q)/\∀ H0,nR R H0->qo R H0 H->HC P G mvd g xs H0 y (patch R H0 H2)
theorem Eb {R:List Nat} {H H2:Heap} (h:∀ q,R.contains q=true->H2 q=H q):patch R H H2=H2:=by
 funext q;unfold patch;split
 .rename_i hq;exact (h q hq).symm
 .rfl
theorem qk.hc {mvd R:List Nat} {g:FuncId} {xs:List AV} {H H2:Heap} {y:AV} (h:qk P G mvd R g xs H y H2):HC P G mvd g xs H y H2:=by
 have:=h.2.2 H h.1 fun _ _=>rfl
 rwa [Eb h.2.1] at this
theorem qk.swap {mvd R:List Nat} {g:FuncId} {xs:List AV} {H H2 H':Heap} {y:AV} (h:qk P G mvd R g xs H y H2) (hc:nR R H') (ho:qo R H' H):qk P G mvd R g xs H' y (patch R H' H2):=by
 refine ⟨hc,fun q hq=>by unfold patch;rw [if_pos hq],fun H0 h0 vO=>?_⟩
 have e:patch R H0 (patch R H' H2)=patch R H0 H2:=by
  funext q;unfold patch;split
  .rfl
  .rfl
 rw [e];exact h.2.2 H0 h0 fun q hq=>(vO q hq).trans (ho q hq)
theorem gq.swap {R:List Nat} {H H2 H':Heap} {p:Nat×AV} (h:gq T ops H H2 p) (hp:tI R p.2=true) (ho:qo R H' H):gq T ops H' (patch R H' H2) p:=by
 obtain ⟨k,v⟩:=p;unfold gq at h ⊢;dsimp only at h hp ⊢
 cases he:ops[k]? with
 | none=>rw [he] at h;exact h.elim
 | some o=>
  rw [he] at h;dsimp only at h ⊢
  split at h<;>try exact h.elim
  cases v with
  | ref r e j=>
   simp only [tI,Bool.not_eq_true'] at hp;have e1:=ho r hp
   have e2:patch R H' H2 r=H2 r:=by unfold patch;rw [if_neg (by rw [hp];decide)]
   unfold j3 at h ⊢;dsimp only at h ⊢;rw [e1,e2];exact h
  | d x=>cases x<;>rfl
  | _=>rfl
theorem MV {R:List Nat} {H:Heap} {d:Nat} {t:TypeId} {cs:List D} (h:nR R H):nR R (aJ H d (.box t (cs.map AV.d))):=fun q hq=>by
 unfold aJ;split
 .exact .inr ⟨t,cs,rfl⟩
 .exact h q hq
theorem MW {R:List Nat} {H:Heap} {d:Nat} {b:Row} (h:nR R (aJ H d b)) (hd:H d=none):nR R H:=fun q hq=>by
 by_cases e:q=d
 .subst e;exact .inl hd
 .have:=h q hq;unfold aJ at this
  rwa [if_neg e] at this
theorem D4 {R:List Nat} {H:Heap} {d:Nat} {b:Row} (hd:R.contains d=true):qo R (aJ H d b) H:=fun q hq=>by
 unfold aJ;rw [if_neg (fun e=>by subst e;rw [hd] at hq;cases hq)]
theorem qo.symm {R:List Nat} {H H':Heap} (h:qo R H H'):qo R H' H:=fun q hq=>(h q hq).symm
theorem Jv {R:List Nat} {H H2:Heap} {d:Nat} {b:Row} (hd:R.contains d=true):aJ (patch R H H2) d b=patch R (aJ H d b) H2:=by
 funext q;unfold aJ patch;by_cases e:q=d
 .subst e;simp only [if_true,hd]
 .simp only [if_neg e]
theorem U8 {R:List Nat} {H H2:Heap} {d:Nat} {b:Row} (hd:R.contains d=true) (h:∀ q,R.contains q=true->H2 q=H q):patch R (aJ H d b) H2=aJ H2 d b:=by
 rw [<- Jv hd,Eb h]
def rD (R:List Nat) (o:Oper):Bool:=match o.op,o.dst with
 | .alloc _,some d=>R.contains d
 | _,_=>false
theorem LN {R:List Nat} {o:Oper} (h:rD R o=true):∃ t d,o.op = .alloc t/\o.dst=some d/\R.contains d=true:=by
 unfold rD at h;split at h
 .rename_i t d h1 h2;exact ⟨t,d,h1,h2,h⟩
 .cases h
theorem Ft {R:List Nat} {o:Oper} (h:rD R o=true) {e:Env} {H H':Heap} {x:AV} (hx:Ex P T Mv G o e H x H'):∃ (d:Nat) (t:TypeId) (cs:List D),R.contains d=true/\H d=none/\H'=aJ H d (.box t (cs.map AV.d))/\∀ e2 H2,H2 d=none->Ex P T Mv G o e2 H2 x (aJ H2 d (.box t (cs.map AV.d))):=by
 obtain ⟨t,d,h1,h2,h3⟩:=LN h;obtain ⟨dst,op,type,pos,after,guard⟩:=o;dsimp only at h1 h2;subst h1 h2;unfold Ex at hx ⊢;simp only [cr,aaU,if_true] at hx ⊢;obtain ⟨c,hw,hc⟩:=hx;unfold wr at hw ⊢;dsimp only at hw ⊢
 cases hT:T t with
 | none=>rw [hT] at hw;cases hw
 | some ti=>
  rw [hT] at hw;dsimp only at hw;simp only [Option.some.injEq,Prod.mk.injEq,St.mk.injEq] at hw;obtain ⟨rfl,rfl,_,rfl⟩:=hw;exact ⟨d,t,gB ti.zero,h3,hc,rfl,fun e2 H2 hn=>⟨_,rfl,hn⟩⟩
def Lo (P:Program) (T:Ty) (Mv:Nat->Prop) (G:ao) (mvd R:List Nat) (ops:Array Oper) (ex:List (Nat×AV)) (o:Oper) (σ ar:St):Prop:=∃ c g xs y H2,cr o.op=some c/\tgt G σ.env c=some (g,xs)/\(∀ r∈mvd,Mv r)/\qk P G mvd R g xs σ.H y H2/\(∀ p∈ex,gq T ops σ.H H2 p/\tI R p.2=true)/\abm mvd y/\ar=⟨Z2 σ.env o.dst y,H2⟩
def r8 (P:Program) (T:Ty) (Mv:Nat->Prop) (G:ao) (N:Fr) (mvd R db hv:List Nat) (ex:List (Nat×AV)) (ops:Array Oper) (i:Nat) (o:Oper) (σ ar:St):Prop:=
 eQ N o/\o.guard=none/\acB mvd σ.env/\((db.contains i=true/\∃ c y,ke T G σ.env o=some (c,y)/\c/\ar=⟨Z2 σ.env o.dst (.d y),σ.H⟩)\/
  (db.contains i=false/\hv.contains i=true/\Lo P T Mv G mvd R ops ex o σ ar)\/
  (db.contains i=false/\hv.contains i=false/\kindOf o.op≠9/\lx G ex i o σ.env/\∃ x H',Ex P T Mv G o σ.env σ.H x H'/\abm mvd x/\ar=⟨Z2 σ.env o.dst x,H'⟩))
theorem Ml {mvd R db hv:List Nat} {ex:List (Nat×AV)} {i:Nat} {o:Oper} {σ ar:St} (h:r8 P T Mv G N mvd R db hv ex ops i o σ ar):qm P T Mv G N mvd db hv ex ops i o σ ar:=by
 obtain ⟨h1,h2,h3,h⟩:=h;refine ⟨h1,h2,h3,?_⟩
 rcases h with h | ⟨b,v,c,g,xs,y,H2,hc,ht,hm,hh,hl,ho,e⟩ | h
 .exact .inl h
 .exact .inr (.inl ⟨b,v,c,g,xs,y,H2,hc,ht,hm,hh.hc,fun p hp=>(hl p hp).1,ho,e⟩)
 .exact .inr (.inr h)
theorem Mm (hg:Good P T) (mvd R db hv:List Nat) (ex:List (Nat×AV)):Sound P X G N Mv (r8 P T Mv G N mvd R db hv ex ops) ops:=fun i o ho σ ar h=>IU hg mvd db hv ex i o ho σ ar (Ml h)
def xF (R db hv:List Nat) (ex:List (Nat×AV)) (ops:Array Oper) (i j:Nat) (oi oj:Oper):Bool:=oi.apart ops oj && (db.contains i || db.contains j ||
 (if hv.contains i then !hv.contains j && (kindOf oj.op == 0 || (ex.lookup j).isSome || rD R oj) else if hv.contains j then kindOf oi.op == 0 || (ex.lookup i).isSome || rD R oi else oU (kindOf oi.op) (kindOf oj.op)))
theorem Mn (mvd R db hv:List Nat) (ex:List (Nat×AV)):sf (r8 P T Mv G N mvd R db hv ex ops) (xF R db hv ex ops) ops:=fun i j oi oj hoi bq hc σ aH eu h1 h2=>by
 simp only [xF,Bool.and_eq_true] at hc;obtain ⟨eJ,fH⟩:=hc;obtain ⟨di,gi,oE,h1⟩:=h1;obtain ⟨dj,gj,_,h2⟩:=h2;have dV:∀ v,fg oj.op (Z2 σ.env oi.dst v) σ.env:=fun v t ht=>(abn eJ (e:=σ.env) (v:=v)).1 t (il ht);have eG:∀ v,fg oi.op σ.env (Z2 σ.env oj.dst v):=fun v t ht=>((abn eJ (e:=σ.env) (v:=v)).2.1 t (il ht)).symm;have aL:=(abn eJ (e:=σ.env) (v:=cu)).2.2;have tg:∀ {o:Oper} {c:Call} {e e':Env},cr o.op=some c->fg o.op e e'->tgt G e c=tgt G e' c:=fun {o c e e'} hc ha=>ud fun t ht=>ha t (by rw [(pQ hc).1];exact ht)
 have ly:∀ {k:Nat} {o:Oper} {e e':Env},fg o.op e e'->lx G ex k o e->lx G ex k o e':=fun {k o e e'} ha h=>by
  unfold lx at h ⊢;split
  .rename_i pv hl;simp only [hl] at h;split
   .rename_i t x gW;simp only [gW] at h;rw [<- aaH (x:=x) fun t' pL=>ha t' (by rw [gW,pL];simp [Op.operands])];exact h
   .rename_i eA;split at h
    .rename_i t x gW;exact absurd gW (eA t x)
    .exact h
  .trivial
 rcases h1 with ⟨bi,c,y,e1,c1,rfl⟩ | ⟨bi,vi,c,g,xs,y,H2,hci,ti,hmv,hcl,gK,oy,rfl⟩ | ⟨bi,vi,k1,l1,x,H',e1,ox,rfl⟩
 .-- data first
  rcases h2 with ⟨bj,c',z,e2,c2,rfl⟩ | ⟨bj,vj,c',g,xs,z,H2,kJ,tj,hmv,hcl,gK,oz,rfl⟩ | ⟨bj,vj,k2,l2,z,H2,e2,oz,rfl⟩
  .rw [jO (dV _)] at e2;refine ⟨⟨Z2 σ.env oj.dst (.d z),σ.H⟩,⟨dj,gj,oE,.inl ⟨bj,c',z,e2,c2,rfl⟩⟩,di,gi,oE.put (abm.d _ _) _,.inl ⟨bi,c,y,?_,c1,?_⟩⟩
   .rw [<- jO (eG _)];exact e1
   .rw [fm aL]
  .rw [tg kJ (dV _)] at tj;refine ⟨⟨Z2 σ.env oj.dst z,H2⟩,⟨dj,gj,oE,.inr (.inl ⟨bj,vj,c',g,xs,z,H2,kJ,tj,hmv,hcl,gK,oz,rfl⟩)⟩,di,gi,oE.put oz _,.inl ⟨bi,c,y,?_,c1,?_⟩⟩
   .rw [<- jO (eG _)];exact e1
   .rw [fm aL]
  .refine ⟨⟨Z2 σ.env oj.dst z,H2⟩,⟨dj,gj,oE,.inr (.inr ⟨bj,vj,k2,ly (dV _) l2,z,H2,e2.congr k2 (dV _),oz,rfl⟩)⟩,di,gi,oE.put oz _,.inl ⟨bi,c,y,?_,c1,?_⟩⟩
   .rw [<- jO (eG _)];exact e1
   .rw [fm aL]
 .-- a call first
  rcases h2 with ⟨bj,c',z,e2,c2,rfl⟩ | ⟨bj,vj,_⟩ | ⟨bj,vj,k2,l2,z,H3,e2,oz,rfl⟩
  .rw [jO (dV _)] at e2;refine ⟨⟨Z2 σ.env oj.dst (.d z),σ.H⟩,⟨dj,gj,oE,.inl ⟨bj,c',z,e2,c2,rfl⟩⟩,di,gi,oE.put (abm.d _ _) _,.inr (.inl ⟨bi,vi,c,g,xs,y,H2,hci,?_,hmv,hcl,gK,oy,?_⟩)⟩
   .rw [<- tg hci (eG _)];exact ti
   .rw [fm aL]
  .rw [bi,bj,vi] at fH;simp [vj] at fH
   simp_all
  .rw [bi,bj] at fH;have pj:=e2.congr k2 (dV _);have l2':=ly (dV _) l2
   have hp:(kindOf oj.op=0\/(ex.lookup j).isSome=true)\/rD R oj=true:=by
    simp only [Bool.false_or,vi,vj,if_true,Bool.not_false,Bool.true_and] at fH;simpa [or_assoc] using fH
   rcases hp with hp | hp
   .have hq:H3=H2/\Ex P T Mv G oj σ.env σ.H z σ.H:=by
     rcases hp with hp | hp
     .exact ⟨pj.keeps (by omega),pj.free hp σ.H⟩
     .obtain ⟨pv,jg⟩:=Option.isSome_iff_exists.1 hp;have hs:=(gK _ (zi jg)).1;refine ad3 bq jg l2' ?_ pj;unfold gq at hs ⊢;simp only [bq] at hs ⊢;split<;>simp_all
    obtain ⟨rfl,e3⟩:=hq;refine ⟨⟨Z2 σ.env oj.dst z,σ.H⟩,⟨dj,gj,oE,.inr (.inr ⟨bj,vj,k2,l2',z,σ.H,e3,oz,rfl⟩)⟩,di,gi,oE.put oz _,.inr (.inl ⟨bi,vi,c,g,xs,y,H3,hci,?_,hmv,hcl,gK,oy,?_⟩)⟩
    .rw [<- tg hci (eG _)];exact ti
    .rw [fm aL]
   .obtain ⟨d,t,cs,hd,hn,rfl,np⟩:=Ft hp pj
    have vJ:σ.H d=none:=by rw [<- hcl.2.1 d hd];exact hn
    refine ⟨⟨Z2 σ.env oj.dst z,aJ σ.H d (.box t (cs.map AV.d))⟩,⟨dj,gj,oE,.inr (.inr ⟨bj,vj,k2,l2',z,_,np _ _ vJ,oz,rfl⟩)⟩,di,gi,oE.put oz _,.inr (.inl ⟨bi,vi,c,g,xs,y,patch R (aJ σ.H d (.box t (cs.map AV.d))) H2,hci,?_,hmv,hcl.swap (MV hcl.1) (D4 hd),fun p hp=>⟨(gK p hp).1.swap (gK p hp).2 (D4 hd),(gK p hp).2⟩,oy,?_⟩)⟩
    .rw [<- tg hci (eG _)];exact ti
    .rw [fm aL,U8 hd hcl.2.1]
 .rcases h2 with ⟨bj,c',z,e2,c2,rfl⟩ | ⟨bj,vj,c',g,xs,z,H2,kJ,tj,hmv,hcl,gK,oz,rfl⟩ | ⟨bj,vj,k2,l2,z,H2,e2,oz,rfl⟩
  .rw [jO (dV _)] at e2;refine ⟨⟨Z2 σ.env oj.dst (.d z),σ.H⟩,⟨dj,gj,oE,.inl ⟨bj,c',z,e2,c2,rfl⟩⟩,di,gi,oE.put (abm.d _ _) _,.inr (.inr ⟨bi,vi,k1,ly (eG _) l1,x,H',e1.congr k1 (eG _),ox,?_⟩)⟩;rw [fm aL]
  .rw [tg kJ (dV _)] at tj;rw [bi,bj] at fH
   have hp:(kindOf oi.op=0\/(ex.lookup i).isSome=true)\/rD R oi=true:=by
    simp only [Bool.false_or,vi,vj,if_true,Bool.false_eq_true,if_false] at fH;simpa [or_assoc] using fH
   have sy:=e1.congr k1 (eG z);have pS:=ly (eG z) l1
   rcases hp with (hp | hp) | hp
   .obtain rfl:=e1.keeps (by omega);refine ⟨⟨Z2 σ.env oj.dst z,H2⟩,⟨dj,gj,oE,.inr (.inl ⟨bj,vj,c',g,xs,z,H2,kJ,tj,hmv,hcl,gK,oz,rfl⟩)⟩,di,gi,oE.put oz _,.inr (.inr ⟨bi,vi,k1,pS,x,H2,sy.free hp H2,ox,?_⟩)⟩;rw [fm aL]
   .obtain ⟨pv,jg⟩:=Option.isSome_iff_exists.1 hp;have hs:=(gK _ (zi jg)).1;have hH:H'=σ.H:=(ad3 (H2:=σ.H) hoi jg l1 (by unfold gq;simp only [hoi];unfold gq at hs;simp only [hoi] at hs;split<;>simp_all) e1).1;subst hH;obtain ⟨_,e3⟩:=ad3 hoi jg pS hs sy;refine ⟨⟨Z2 σ.env oj.dst z,H2⟩,⟨dj,gj,oE,.inr (.inl ⟨bj,vj,c',g,xs,z,H2,kJ,tj,hmv,hcl,gK,oz,rfl⟩)⟩,di,gi,oE.put oz _,.inr (.inr ⟨bi,vi,k1,pS,x,H2,e3,ox,?_⟩)⟩;rw [fm aL]
   .obtain ⟨d,t,cs,hd,hn,rfl,np⟩:=Ft hp sy;have hO:=D4 (H:=σ.H) (b:=.box t (cs.map AV.d)) hd;have Pz:=hcl.swap (MW hcl.1 hn) hO.symm
    have jX:patch R σ.H H2 d=none:=by unfold patch;rw [if_pos hd];exact hn
    refine ⟨⟨Z2 σ.env oj.dst z,patch R σ.H H2⟩,⟨dj,gj,oE,.inr (.inl ⟨bj,vj,c',g,xs,z,patch R σ.H H2,kJ,tj,hmv,Pz,fun p hp=>⟨(gK p hp).1.swap (gK p hp).2 hO.symm,(gK p hp).2⟩,oz,rfl⟩)⟩,di,gi,oE.put oz _,.inr (.inr ⟨bi,vi,k1,pS,x,_,np _ _ jX,ox,?_⟩)⟩;rw [fm aL,Jv hd,Eb hcl.2.1]
  .rw [bi,bj] at fH
   have hcc:abo ops oi oj=true:=by simp only [abo,Bool.and_eq_true];simp only [Bool.false_or,vi,vj,Bool.false_eq_true,if_false] at fH;exact ⟨eJ,fH⟩
   obtain ⟨H3,f1,f2⟩:=adN (N:=N) hcc ⟨di,.inl ⟨af8 gi,e1⟩⟩ ⟨dj,.inl ⟨af8 gj,e2⟩⟩ k1 k2
   have un:∀ {o:Oper} {e:Env} {H H':Heap} {x:AV},o.guard=none->Sx P T Mv G N ops o e H x H'->Ex P T Mv G o e H x H':=fun c8 h=>by
    rcases h.2 with ⟨_,h⟩ | ⟨hw,_⟩
    .exact h
    .rw [af8 c8] at hw;cases hw
   refine ⟨⟨Z2 σ.env oj.dst z,H3⟩,⟨dj,gj,oE,.inr (.inr ⟨bj,vj,k2,ly (dV _) l2,z,H3,un gj f1,oz,rfl⟩)⟩,di,gi,oE.put oz _,.inr (.inr ⟨bi,vi,k1,ly (eG _) l1,x,H2,un gi f2,ox,?_⟩)⟩;rw [fm aL]
def vl (P:Program) (T:Ty) (Mv:Nat->Prop) (G:ao) (mvd R:List Nat) (ops:Array Oper) (ex:List (Nat×AV)) (g:FuncId) (xs:List AV) (σ:St) (dst:Option Tmp) (K:St->Prop):Prop:=∃ y H2,(∀ r∈mvd,Mv r)/\qk P G mvd R g xs σ.H y H2/\(∀ p∈ex,gq T ops σ.H H2 p/\tI R p.2=true)/\abm mvd y/\K ⟨Z2 σ.env dst y,H2⟩
theorem Xp (o f:Nat->Nat->Nat->AV) (t:TypeId) (cs:List D):Row.tr o f (.box t (cs.map AV.d)) = .box t (cs.map AV.d):=by
 simp [Row.tr,AV.tr,Function.comp_def]
theorem Qt {l:List (Nat×Row)} {q:Nat} (h:(ZX l q).isSome=true):∃ p∈l,p.1=q:=by
 induction l with
 | nil=>simp [ZX] at h
 | cons p l ih=>
  simp only [ZX,List.lookup] at h
  cases jB:(q == p.1) with
  | true=>exact ⟨p,by simp,by simpa using (beq_iff_eq.1 jB).symm⟩
  | false=>
   rw [jB] at h;obtain ⟨p',h1,h2⟩:=ih h;exact ⟨p',by simp [h1],h2⟩
theorem vl.mc {mvd R:List Nat} {ex:List (Nat×AV)} {dst:Option Tmp} {K:St->Prop} {fx:List Nat} {g:FuncId} {jJ xs:List AV} {bJ dT:List (Nat×Row)} {y:AV} (hc:MC P G fx g xs (ZX bJ) y (ZX dT)) (hx:jJ.map (AV.tr (du (bJ.map (·.1))) (dt (bJ.map (·.1))))=xs)
  (hR:∀ r∈R,(bJ.map (·.1)).contains r=false/\(dT.map (·.1)).contains r=false/\(σ.H r=none\/∃ (t:TypeId) (cs:List D),σ.H r=some (.box t (cs.map AV.d))))
  (hH:∀ p∈bJ,(σ.H p.1).map (Row.tr (du (bJ.map (·.1))) (dt (bJ.map (·.1))))=ZX bJ p.1) (hd:∀ p∈dT,(bJ.map (·.1)).contains p.1=true\/σ.H p.1=none) (hm:∀ r∈bJ.map (·.1),fx.contains r=false->r∈mvd) (hmv:∀ r∈mvd,Mv r) (ho:∀ r∈mvd,y.kill r=y)
  (hl:∀ p∈ex,gq T ops σ.H (jv (ZX dT) (trH (dP (bJ.map (·.1))) (iQ (bJ.map (·.1)) fx) (iP (bJ.map (·.1)) fx) σ.H)) p/\tI R p.2=true)
  (h:K ⟨Z2 σ.env dst y,jv (ZX dT) (trH (dP (bJ.map (·.1))) (iQ (bJ.map (·.1)) fx) (iP (bJ.map (·.1)) fx) σ.H)⟩):vl P T Mv G mvd R ops ex g jJ σ dst K:=by
 have aC:∀ q,R.contains q=true->q∈R:=fun q hq=>List.contains_iff_mem.1 hq;have hcl:nR R σ.H:=fun q hq=>(hR q (aC q hq)).2.2
 have dO:∀ (H0:Heap),nR R H0->∀ q,R.contains q=true->jv (ZX dT) (trH (dP (bJ.map (·.1))) (iQ (bJ.map (·.1)) fx) (iP (bJ.map (·.1)) fx) H0) q=H0 q:=fun H0 hc0 q hq=>by
  obtain ⟨a1,a2,_⟩:=hR q (aC q hq)
  have e1:ZX dT q=none:=by
   cases he:ZX dT q with
   | none=>rfl
   | some r=>
    obtain ⟨p,hp,rfl⟩:=Qt (l:=dT) (q:=q) (by rw [he];rfl);have:(dT.map (·.1)).contains p.1=true:=List.contains_iff_mem.2 (List.mem_map.2 ⟨p,hp,rfl⟩);rw [this] at a2;cases a2
  unfold jv;rw [e1];dsimp only;unfold trH dP;rw [a1];simp only [Bool.not_false,if_true]
  rcases hc0 q hq with h0 | ⟨t,cs,h0⟩
  .rw [h0];rfl
  .rw [h0,Option.map_some,Xp]
 refine ⟨y,_,hmv,⟨hcl,dO σ.H hcl,fun H0 hc0 vO=>?_⟩,hl,ho,h⟩
 have rQ:∀ p∈bJ,R.contains p.1=false:=fun p hp=>by
  cases he:R.contains p.1 with
  | false=>rfl
  | true=>
   have h1:=(hR p.1 (aC _ he)).1;have:(bJ.map (·.1)).contains p.1=true:=List.contains_iff_mem.2 (List.mem_map.2 ⟨p,hp,rfl⟩);rw [this] at h1;cases h1
 have zw:∀ p∈dT,R.contains p.1=false:=fun p hp=>by
  cases he:R.contains p.1 with
  | false=>rfl
  | true=>
   have h1:=(hR p.1 (aC _ he)).2.1;have:(dT.map (·.1)).contains p.1=true:=List.contains_iff_mem.2 (List.mem_map.2 ⟨p,hp,rfl⟩);rw [this] at h1;cases h1
 have key:=HC.mc (mvd:=mvd) (H:=H0) hc hx (fun p hp=>by rw [vO p.1 (rQ p hp)];exact hH p hp) (fun p hp=>by rw [vO p.1 (zw p hp)];exact hd p hp) hm
 have e:patch R H0 (jv (ZX dT) (trH (dP (bJ.map (·.1))) (iQ (bJ.map (·.1)) fx) (iP (bJ.map (·.1)) fx) σ.H))=jv (ZX dT) (trH (dP (bJ.map (·.1))) (iQ (bJ.map (·.1)) fx) (iP (bJ.map (·.1)) fx) H0):=by
  funext q;unfold patch;split
  .rename_i hq;exact (dO H0 hc0 q hq).symm
  .rename_i hq
   have hq':R.contains q=false:=by simpa using hq
   unfold jv trH;rw [vO q hq']
 rw [e];exact key
def aeN (P:Program) (T:Ty) (Mv:Nat->Prop) (G:ao) (N:Fr) (mvd R db hv:List Nat) (ex:List (Nat×AV)) (ops:Array Oper) (i:Nat) (o:Oper) (σ:St) (K:St->Prop):Prop:=eQ N o/\o.guard=none/\
 if db.contains i=true then (match ke T G σ.env o with
  | some (c,y)=>c/\K ⟨Z2 σ.env o.dst (.d y),σ.H⟩
  | none=>False)
 else if hv.contains i=true then (match cr o.op with
  | some c=>match tgt G σ.env c with
   | some (g,xs)=>vl P T Mv G mvd R ops ex g xs σ o.dst K
   | none=>False
  | none=>False)
 else kindOf o.op≠9/\lx G ex i o σ.env/\match cr o.op with
  | some c=>mj P G c σ.env o.dst σ.H [] [] K
  | none=>wR T G Mv mvd o σ K
def o0 (P:Program) (T:Ty) (Mv:Nat->Prop) (G:ao) (N:Fr) (mvd R db hv:List Nat) (ex:List (Nat×AV)) (ops:Array Oper) (K:St->Prop):List (Nat×Oper)->St->Prop
 | [],σ=>K σ
 | (i,o) :: rest,σ=>aeN P T Mv G N mvd R db hv ex ops i o σ (o0 P T Mv G N mvd R db hv ex ops K rest)
theorem WZ {mvd R db hv:List Nat} {ex:List (Nat×AV)} {K:St->Prop}:∀ (l:List Nat) (σ:St),(∀ i∈l,i < ops.size)->acB mvd σ.env->o0 P T Mv G N mvd R db hv ex ops K (aak ops l) σ->∃ bp,K bp/\Go.Av.gz (r8 P T Mv G N mvd R db hv ex ops) ops l σ bp:=by
 intro l
 induction l with
 | nil=>intro σ _ _ h;exact ⟨σ,h,rfl⟩
 | cons i l ih=>
  intro σ hl gb h;have hi:=hl i (by simp)
  have ho:ops[i]? = some ops[i]:=by simp [hi]
  simp only [aak,ho] at h;generalize ops[i]=o at ho h;simp only [o0,aeN] at h;obtain ⟨hd,c8,h⟩:=h
  have fin:∀ aH,r8 P T Mv G N mvd R db hv ex ops i o σ aH->acB mvd aH.env->o0 P T Mv G N mvd R db hv ex ops K (aak ops l) aH->∃ bp,K bp/\Go.Av.gz (r8 P T Mv G N mvd R db hv ex ops) ops (i :: l) σ bp:=fun aH hs hE h1=>by
   obtain ⟨bp,hk,hr⟩:=ih aH (fun j hj=>hl j (by simp [hj])) hE h1;exact ⟨bp,hk,o,ho,aH,hs,hr⟩
  split at h
  .rename_i hb;split at h
   .rename_i c y hw;obtain ⟨hc,h⟩:=h;exact fin _ ⟨hd,c8,gb,.inl ⟨hb,c,y,hw,hc,rfl⟩⟩ (gb.put (abm.d _ _) _) h
   .exact h.elim
  .rename_i hb
   have hb:db.contains i=false:=by simpa using hb
   split at h
   .rename_i gg;split at h
    .rename_i c hc;split at h
     .rename_i g xs ht;obtain ⟨y,H2,h0,h1,h2,h3,h⟩:=h;exact fin _ ⟨hd,c8,gb,.inr (.inl ⟨hb,gg,c,g,xs,y,H2,hc,ht,h0,h1,h2,h3,rfl⟩)⟩ (gb.put h3 _) h
     .exact h.elim
    .exact h.elim
   .rename_i gg
    have gg:hv.contains i=false:=by simpa using gg
    obtain ⟨hk,hla,h⟩:=h;split at h
    .rename_i c hc;obtain ⟨y,g,ds,ht,hp,e7,h⟩:=h;refine fin _ ⟨hd,c8,gb,.inr (.inr ⟨hb,gg,hk,hla,.d y,σ.H,?_,abm.d _ _,rfl⟩)⟩ (gb.put (abm.d _ _) _) h;unfold Ex;simp only [hc];exact ⟨y,⟨g,_,ht,.inl ⟨ds,rfl,hp⟩⟩,rfl,trivial⟩
    .rename_i hc;unfold wR at h;split at h
     .rename_i hw;split at h
      .rename_i c x aH h1;obtain ⟨hcc,e7,h⟩:=h;have he:=ad9 hk h1;obtain ⟨e,H⟩:=σ;obtain ⟨e1,H1⟩:=aH;dsimp only at he;subst he;refine fin _ ⟨hd,c8,gb,.inr (.inr ⟨hb,gg,hk,hla,x,H1,?_,e7,rfl⟩)⟩ (gb.put e7 _) h;unfold Ex;simp only [hc];rw [if_pos hw];exact ⟨c,h1,hcc⟩
      .exact h.elim
     .rename_i hw;split at h
      .rename_i c x h1;obtain ⟨hcc,e7,h⟩:=h;refine fin _ ⟨hd,c8,gb,.inr (.inr ⟨hb,gg,hk,hla,x,σ.H,?_,e7,rfl⟩)⟩ (gb.put e7 _) h;unfold Ex;simp only [hc];rw [if_neg hw];exact ⟨c,h1,hcc,trivial⟩
      .exact h.elim
theorem Lw (hg:Good P T) (hm:P.follows .mixedOrders=true) (mvd R db hv:List Nat) (ex:List (Nat×AV)) (ord:List Nat) {id:Nat} (hok:p3 (xF R db hv ex ops) ord ops=true) (gb:acB mvd σ.env) {Q:Exit->St->Prop} (h:o0 P T Mv G N mvd R db hv ex ops (fun ar=>Q .normal ar) (aak ops ord) σ):AW P Mv X G N (.region id ops true) Q σ:=
 Fg hm (Mm hg mvd R db hv ex) (Mn mvd R db hv ex) ord hok fun ax=>WZ ord σ ax gb h
theorem Lu (hg:Good P T) (hm:P.follows .mixedOrders=true) (mvd R db hv:List Nat) (ex:List (Nat×AV)) (ord:List Nat) (l ns:List Nat) (hM:∀ r,ns.contains r=false->Mv r) {id:Nat} (hok:p3 (xF R db hv ex ops) ord ops=true) (gb:acB mvd σ.env) {y:Code} {Q:Exit->St->Prop}
  (h:∀ K:St->Prop,(∀ τ:St,AW P Mv X G N y Q (τ.norm l ns)->K τ)->o0 P T Mv G N mvd R db hv ex ops K (aak ops ord) σ):AW P Mv X G N (.seq (.region id ops true) y) Q σ:=
 nP (Lw hg hm mvd R db hv ex ord hok gb (h _ fun _ h=>h.norm l ns hM))
theorem xc {mvd R db hv:List Nat} {ex:List (Nat×AV)} {K:St->Prop} {i:Nat} {l:List Nat} {o:Oper} (ho:ops[i]? = some o) (h:∀ K':St->Prop,(∀ τ,o0 P T Mv G N mvd R db hv ex ops K (aak ops l) τ->K' τ)->aeN P T Mv G N mvd R db hv ex ops i o σ K'):o0 P T Mv G N mvd R db hv ex ops K (aak ops (i :: l)) σ:=by
 have:aak ops (i :: l)=(i,o) :: aak ops l:=by simp [aak,ho]
 rw [this];exact h _ fun _ h=>h
theorem WY {mvd R db hv:List Nat} {ex:List (Nat×AV)} {K:St->Prop} (h:K σ):o0 P T Mv G N mvd R db hv ex ops K (aak ops []) σ:=h
end
attribute [simp] aeN
attribute [simp] tI
end Go.Av
namespace Go.Proofs.YtdigkhaofjmgkaaGreatDoor
open Go.Av
theorem UW (l:List Int):(∀ el∈l.map (fun n=>[D.v (.int .i64 n)]),el.length=1)=True:=eq_true (by simp)
theorem one_one (l:List Int):(∀ el∈l.map (fun n=>[D.v (.int .i64 n)]),∀ c∈el,c.one=true)=True:=eq_true (by simp [D.one])
theorem UP (l:List Bool):(∀ el∈l.map (fun n=>[D.v (.bool n)]),el.length=1)=True:=eq_true fun el h=>by obtain ⟨b,_,rfl⟩:=List.mem_map.1 h;rfl
theorem UQ (l:List Bool):(∀ el∈l.map (fun n=>[D.v (.bool n)]),∀ c∈el,c.one=true)=True:=eq_true fun el h c hc=>by
 obtain ⟨b,_,rfl⟩:=List.mem_map.1 h;obtain rfl:=List.mem_singleton.1 hc;rfl
set_option maxHeartbeats 2000000 in
theorem MU (G:ao) (l:List Int) (h:l.length < 2^40):MC Tryz.prog G [] 131 [.d (gE l)] (ZX []) (.own 702 0 l.length) (ZX [(702,.sl 3 1 (l.map fun n=>[.v (.int .i64 n)]))]):=by
 have gV:(l.map fun n=>[D.v (.int .i64 n)]).length=l.length:=by simp
 have q1:=UW l;have q2:=one_one l;simp only [gE];rw [<- gV];rw [<- gV] at h;generalize (l.map fun n=>[D.v (.int .i64 n)])=L at *;refine MC.aD (ZZ _) Tryz.func131 rfl rfl (rs:=[.tmp 2]) Tryz.results131 (by simp [Tryz.ntmps131]) rfl fun X=>?_;simp only [Tryz.ntmps131];refine AW.I7 0 rfl ?_ fun hl=>?_
 .refine aq [0] [] ?_;refine ae fun K1 ay=>?_;refine aq [0,4] [] ?_;refine acI false rfl (fun hc=>by cases hc) (fun hc=>?_);refine ah (ay _ ?_);have qf:=(Aq @q1 @q2);refine al [2] [5] ?_;refine AW.imp (Z1.ren (r:=5) (r':=702) (by decide) (by simp)) ?_;refine AW.st (by simp [eS,aa2,Go.Av.ren,l7];rfl) ?_;exact gm
 .subst hl;refine aq [0] [] ?_;refine ae fun K1 ay=>?_;refine aq [0,4] [] ?_;refine acI true rfl (fun hc=>?_) (fun hc=>by cases hc);refine aq [2] [] ?_;refine AW.imp (Z1.kc 2 702 3 1 rfl rfl) ?_;refine AW.st (by simp;rfl) ?_;exact gm
set_option maxHeartbeats 2000000 in
theorem MT (G:ao) (l:List Bool) (h:l.length < 2^40):MC Tryz.prog G [] 130 [.d (iU l)] (ZX []) (.own 701 0 l.length) (ZX [(701,.sl 4 1 (l.map fun n=>[.v (.bool n)]))]):=by
 have gV:(l.map fun n=>[D.v (.bool n)]).length=l.length:=by simp
 have q1:=UP l;have q2:=UQ l;simp only [iU];rw [<- gV];rw [<- gV] at h;generalize (l.map fun n=>[D.v (.bool n)])=L at *;refine MC.aD (ZZ _) Tryz.func130 rfl rfl (rs:=[.tmp 2]) Tryz.results130 (by simp [Tryz.ntmps130]) rfl fun X=>?_;simp only [Tryz.ntmps130];refine AW.I7 0 rfl ?_ fun hl=>?_
 .refine aq [0] [] ?_;refine ae fun K1 ay=>?_;refine aq [0,4] [] ?_;refine acI false rfl (fun hc=>by cases hc) (fun hc=>?_);refine ah (ay _ ?_);have qf:=(Aq @q1 @q2);refine al [2] [5] ?_;refine AW.imp (Z1.ren (r:=5) (r':=701) (by decide) (by simp)) ?_;refine AW.st (by simp [eS,aa2,Go.Av.ren,l7];rfl) ?_;exact gm
 .subst hl;refine aq [0] [] ?_;refine ae fun K1 ay=>?_;refine aq [0,4] [] ?_;refine acI true rfl (fun hc=>?_) (fun hc=>by cases hc);refine aq [2] [] ?_;refine AW.imp (Z1.kc 2 701 4 1 rfl rfl) ?_;refine AW.st (by simp;rfl) ?_;exact gm
theorem wC {s:Tx} (h:fL s=true):s≠[]:=(Uw h).1
theorem AO {S1 S2:Tx->Prop}:∀ (n:Nat) (e:Ex),SizeOf.sizeOf e<=n->WfE e->(∀ s∈cf true e,S1 s)->(∀ s∈cf false e,S2 s)->fq S1 S2 e
 | 0,e,hn,_,_,_=>by cases e<;>simp at hn
 | n+1,e,hn,hw,h1,h2=>by
  have many:∀ l:List Ex,(∀ x∈l,SizeOf.sizeOf x<=n)->(∀ s∈aaQ true l,S1 s)->(∀ s∈aaQ false l,S2 s)->(∀ x∈l,WfE x)->nQ S1 S2 l:=by
   intro l
   induction l with
   | nil=>intro _ _ _ _;rw [nQ];trivial
   | cons x l ih=>
    intro hs h1 h2 h3;simp only [aaQ,List.mem_append] at h1 h2;rw [nQ];exact ⟨AO n x (hs x (by simp)) (h3 x (by simp)) (fun s h=>h1 s (.inl h)) (fun s h=>h2 s (.inl h)),ih (fun y hy=>hs y (by simp [hy])) (fun s h=>h1 s (.inr h)) (fun s h=>h2 s (.inr h)) (fun y hy=>h3 y (by simp [hy]))⟩
  cases e with
  | eV b=>rw [fq];trivial
  | bit s=>
   rw [fq];rw [WfE] at hw;exact h1 s (by simp [cf,cm,eE,wC hw])
  | fQ s=>
   rw [fq];rw [WfE] at hw;exact ⟨h1 s (by simp [cf,cm,eE,wC hw]),h2 s (by simp [cf,cm,eE,wC hw])⟩
  | fC s=>
   rw [fq];rw [WfE] at hw;exact ⟨h1 s (by simp [cf,cm,eE,wC hw]),h2 s (by simp [cf,cm,eE,wC hw])⟩
  | not x=>
   rw [fq];rw [WfE] at hw;exact AO n x (by simp at hn;omega) hw (fun s h=>h1 s (by rw [cf];exact h)) (fun s h=>h2 s (by rw [cf];exact h))
  | and l=>
   rw [fq];rw [WfE] at hw;exact many l (fun x hx=>by have:=List.sizeOf_lt_of_mem hx;simp only [Ex.and.sizeOf_spec] at hn;omega) (fun s h=>h1 s (by rw [cf];exact h)) (fun s h=>h2 s (by rw [cf];exact h)) ((qp l).1 hw.2)
  | or l=>
   rw [fq];rw [WfE] at hw;exact many l (fun x hx=>by have:=List.sizeOf_lt_of_mem hx;simp only [Ex.or.sizeOf_spec] at hn;omega) (fun s h=>h1 s (by rw [cf];exact h)) (fun s h=>h2 s (by rw [cf];exact h)) ((qp l).1 hw.2)
theorem Mj {S1 S2:Tx->Prop} {e:Ex} (hw:WfE e) (h1:∀ s∈cf true e,S1 s) (h2:∀ s∈cf false e,S2 s):fq S1 S2 e:=AO _ e (Nat.le_refl _) hw h1 h2
theorem Wr (p:aF) (s t0:StP) {n:Nat} (h:n < p.ZY.length):(p.ZY.take (n+1)).foldl (iM p s) t0=iM p s ((p.ZY.take n).foldl (iM p s) t0) p.ZY[n]:=by
 rw [List.take_succ_eq_append_getElem h,List.foldl_append];rfl
theorem Ks {p:aF} (hc:aar p=none) (hk:∀ r∈p.ZY,j9 r) {r:RgP} (hr:r∈p.ZY):∃ e,r.cond=some e/\fq (fun nm=>¬ bB p nm < 0) (fun nm=>¬ bB p nm < 0) e/\bE e<=2^28:=by
 obtain ⟨e,he,hw,_,hb⟩:=hk r hr;obtain ⟨_,_,e',gJ,aC⟩:=qt hc r hr;rw [he] at gJ;obtain rfl:=Option.some.inj gJ;refine ⟨e,he,Mj hw (fun s hs=>aC s (wD.2 hs)) (fun s hs=>aC s (I0 (wD.2 hs))),by omega⟩
set_option maxRecDepth 100000 in
set_option maxHeartbeats 32000000 in
theorem Ns (G:ao) (p:aF) (aY:aar p=none) (hk:∀ r∈p.ZY,j9 r) (s:StP) (hs:dU p s) (bL:List Bool) (aC:bL.length=(aZ p).length):aw Tryz.prog G 66 [dw p,pd s,iU bL] (pd (lO p s bL)):=by
 have hg:=gC aY;have ez:=hg.names;have oK:=hg.ZY;have cW:=hs.l1;have dh:=hs.l2;have dB:=zh G p (by omega) 1;have sT:=MT G s.is (by omega);have hci:=MU G s.ct (by omega);have bA:=fun x=>rI G p (by omega) x;have vw:=rH p.names 1 p.names.length;obtain ⟨t0,lp,uZ⟩:∃ t0,t0=(⟨jF (aZ p) bL s.is (aZ p).length,s.ct⟩:StP)/\dU p t0:=⟨_,rfl,(rT bL hs _ (Nat.le_refl _)).1⟩;obtain ⟨T,hT⟩:∃ T:Nat->StP,∀ n,T n=(p.ZY.take n).foldl (iM p s) t0:=⟨_,fun _=>rfl⟩;have Pa:T 0=t0:=hT 0
 have Pd:∀ n (h:n < p.ZY.length),T (n+1)=iM p s (T n) p.ZY[n]:=fun n h=>by rw [hT,hT,Wr p s t0 h]
 have ym:T p.ZY.length=lO p s bL:=by rw [hT,List.take_length,lp];rfl
 have sO:∀ n,dU p (T n):=fun n=>by rw [hT];exact (zW aY s _ (fun r hr=>List.mem_of_mem_take hr) uZ).1
 have eK:∀ n (h:n < p.ZY.length),∃ e,p.ZY[n].cond=some e/\aw Tryz.prog G 51 [dE e,.fn (.func 132) [.ip (lM (T n)),.ip (cPg p)],.fn (.func 133) [.ip (lM s),.ip (cPg p)]] (.v (.bool (evE (ew p (T n).is) (ew p s.is) e))):=fun n h=>by
  obtain ⟨e,he,ha,hb⟩:=Ks aY hk (List.getElem_mem h);exact ⟨e,he,afz G _ _ _ _ _ _ _ _ (Mh G p (by omega) (T n) (sO n).l1) (Mi G p (by omega) s cW) e ha hb⟩
 clear hT;rw [<- ym];have kp:∀ k,k<=(aZ p).length->(jF (aZ p) bL s.is k).length=p.names.length:=fun k hk=>(rT bL hs k hk).1.l1
 have HB:∀ k (h:k < (aZ p).length) (h2:k < bL.length),∃ i,i < p.names.length/\(aZ p)[k]=(i:Int)/\jF (aZ p) bL s.is (k+1)=(jF (aZ p) bL s.is k).set i bL[k]:=fun k h h2=>by
  obtain ⟨i,hi,he,_⟩:=ad0 h;refine ⟨i,hi,he,?_⟩;rw [Eh h he];congr 1;exact fD h2
 have yG:jF (aZ p) bL s.is 0=s.is:=rfl;have dD:t0=⟨jF (aZ p) bL s.is (aZ p).length,s.ct⟩:=lp;clear lp;generalize O2:jF (aZ p) bL s.is=PI at kp HB yG dD;clear O2;have hkI:abe p.names 1 p.names.length=aZ p:=rfl;rw [hkI] at dB vw;generalize aZ p=KI at *;simp only [dw,cPg,bR,dW,iU,gE,lM] at dB sT hci bA eK;simp only [dw,cPg,bR,dW,pd,lM,iU,gE]
 have hNl:(p.names.map Z3).length=p.names.length:=by simp
 have kG:∀ i (h:i < p.names.length),(p.names.map Z3)[i]? = some [.v (.string (bs p.names[i].name)),.v (.int .i64 p.names[i].kind),.v (.int .i64 p.names[i].count)]:=fun i h=>by simp [h,Z3,dS]
 have hRl:(p.ZY.map cg).length=p.ZY.length:=by simp
 have hRg:∀ i (h:i < p.ZY.length),(p.ZY.map cg)[i]? = some (cg p.ZY[i]):=fun i h=>by simp [h]
 generalize p.names.map Z3=NN at *;generalize p.ZY.map cg=RR at *;refine aw.aD (ZZ _) Tryz.func66 rfl rfl (rs:=[.cell 6 68]) Tryz.results66 (by simp [Tryz.ntmps66]) fun X=>?_;simp only [Tryz.ntmps66,List.map];have fw:=@ab.eq_1;refine ZW fw [2,3,4,6] [3,4,6] ?_;refine ck fw 3 ?_;refine ck fw 4 ?_;refine Lu (ZZ _) (by kernel_rfl) ([]) ([7]) ([]) ([2,5]) ([(1,.d (.ip [.sl none (s.is.map fun b=>[.v (.bool b)]),.sl none (s.ct.map fun n=>[.v (.int .i64 n)])])),(4,.d (.ip [.sl none (s.ct.map fun n=>[.v (.int .i64 n)])]))]) (List.range 9) [2,3,4,6,7] [6,7,701,702] (fun _ _=>trivial) (by kernel_rfl) (by simp [acB]) fun K' af=>?_;(repeat (refine xc rfl fun K2 aa=>?_;simp [ab];(repeat (refine ⟨by omega,?_⟩));refine aa _ ?_;clear aa K2));refine xc rfl fun K2 aa=>?_;simp [ab];refine vl.mc (sT) (by simp [ab]) (by simp [ab]) (by simp [ab]) (by simp [ab]) (by simp [ab]) (by simp [ab]) (by simp [ab]) (by simp [gq,ab]) ?_;simp [ab];refine aa _ ?_;clear aa K2;(repeat (refine xc rfl fun K2 aa=>?_;simp [ab];(repeat (refine ⟨by omega,?_⟩));refine aa _ ?_;clear aa K2));refine xc rfl fun K2 aa=>?_;simp [ab];refine vl.mc (hci) (by simp [ab]) (by simp [ab]) (by simp [ab]) (by simp [ab]) (by simp [ab]) (by simp [ab]) (by simp [ab]) (by simp [gq,ab]) ?_;simp [ab];refine aa _ ?_;clear aa K2;(repeat (refine xc rfl fun K2 aa=>?_;simp [ab];(repeat (refine ⟨by omega,?_⟩));refine aa _ ?_;clear aa K2));refine WY (af _ ?_);refine AW.st (by simp [ab];rfl) ?_;clear af K';refine ae fun K1 ay=>?_;refine Z6 fw dB [2,3,4,6,7,24,25,26] [6,7,701,702] ?_;refine aam (S:=Nat) (fun k=>k<=KI.length) (fun k=>⟨aX [(2,.d (.sl none (bL.map fun b=>[.v (.bool b)]))),(3,.d (.ip [.sl none NN,.sl none RR])),(4,.d (.ip [.sl none (s.is.map fun b=>[.v (.bool b)]),.sl none (s.ct.map fun n=>[.v (.int .i64 n)])])),(6,.ref 6 0 0),(7,.ref 7 0 0),(24,.d (.sl none (KI.map fun x=>[.v (.int .i64 x)]))),(25,int KI.length),(26,int k)],ZX [(6,.box 68 [.d (.sl (some false) []),.d (.sl (some false) [])]),(7,.box 68 [.own 701 0 (PI k).length,.own 702 0 s.ct.length]),(701,.sl 4 1 ((PI k).map fun b=>[.v (.bool b)])),(702,.sl 3 1 (s.ct.map fun n=>[.v (.int .i64 n)]))]⟩) (fun k=>KI.length - k) 0 ?_ (by omega) ?_
 .rw [yG];refine aU fw
 .intro k ie;have kH:=kp k ie;have sM:=HB k;generalize hPk:PI k=P at kH sM ⊢;refine ZW fw [2,3,4,6,7,24,25,26,27] [6,7,701,702] ?_;refine ae fun K2 aa=>?_;refine dG (b:=k < KI.length) (by simp [D.le,D.le.go,aB,ab]) (fun hc=>?_) (fun hc=>?_)
  .have ax:=hc
   have eM:k < bL.length:=by omega
   obtain ⟨i,hi,BF,O5⟩:=sM ax eM
   have ea:i < P.length:=by omega
   refine ah (aa _ ?_);refine ae fun K3 aQ=>?_;refine aR ?_;have qf:=(Aq fw (Aq @ax @BF));refine al [2,3,4,6,7,8,9,24,25,26] [6,7,701,702] ?_;refine acS (ZZ _) (by kernel_rfl) [(1,7),(6,999),(7,701),(8,701)] (by kernel_rfl) fun K' af=>?_;(repeat (refine fz fun K2 aa=>?_;simp [ab,ea,eM];(repeat (refine ⟨by omega,?_⟩));refine aa _ ?_;clear aa K2));refine gO (af _ ?_);clear af K';refine aQ _ (AW.norm [2,3,4,6,7,24,25,26] [6,7,701,702] (fun _ _=>trivial) (AW.st (by simp [ab,ea,eM];rfl) ?_));refine reQ fw ?_;(try simp only [aM,aP]);refine aV.mk (k+1) (by omega) (by omega) ?_;rw [O5];refine Z1.dK (fun _ _=>trivial) (by simp [ab,List.map_set]) (by simp [ab,List.map_set])
  .have hke:k=KI.length:=by omega
   refine bH (ay _ ?_)
   have Q1:t0=⟨P,s.ct⟩:=by rw [dD,<- hke,hPk]
   refine ZW fw [3,4,6,7,10] [6,7,701,702] ?_;refine ZW fw [3,6,7,10,11] [6,7,701,702] ?_;refine ae fun K4 bN=>?_;refine ZW fw [3,6,7,10,11,43,44,45] [6,7,701,702] ?_;refine aam (S:=Nat) (fun n=>n<=p.ZY.length) (fun n=>⟨aX [(3,.d (.ip [.sl none NN,.sl none RR])),(6,.ref 6 0 0),(7,.ref 7 0 0),(10,.fn (.func 132) [.ref 7 0 0,.d (.ip [.sl none NN,.sl none RR])]),(11,.d (.fn (.func 133) [.ip [.sl none (s.is.map fun b=>[.v (.bool b)]),.sl none (s.ct.map fun n=>[.v (.int .i64 n)])],.ip [.sl none NN,.sl none RR]])),(43,.d (.sl none RR)),(44,int RR.length),(45,int n)],ZX [(6,.box 68 [.d (.sl (some false) []),.d (.sl (some false) [])]),(7,.box 68 [.own 701 0 (T n).is.length,.own 702 0 (T n).ct.length]),(701,.sl 4 1 ((T n).is.map fun b=>[.v (.bool b)])),(702,.sl 3 1 ((T n).ct.map fun n=>[.v (.int .i64 n)]))]⟩) (fun n=>p.ZY.length - n) 0 ?_ (by omega) ?_
   .rw [Pa,Q1];refine aU fw
   .intro n hn;have sP:=Pd n;have lT:=sO n;have sS:=eK n;generalize Pc:T n=tn at sP lT sS ⊢;obtain ⟨I,C⟩:=tn;have js:=lT.l1;have OJ:=lT.l2;have hsm:=Rt aY lT;dsimp only at js OJ hsm sS ⊢;refine ZW fw [3,6,7,10,11,43,44,45,46] [6,7,701,702] ?_;refine ae fun K5 hK5=>?_;by_cases ax:n < p.ZY.length
    .have aaq:n < RR.length:=by omega
     have jy:(n:Int) < (RR.length:Int):=by omega
     refine ak (by simp [aaq]) ?_;refine ah (hK5 _ ?_);refine ae fun K6 de=>?_;refine aR ?_;obtain ⟨e,he,aG⟩:=sS ax;obtain ⟨i,hi,ko,_,iy⟩:=zV aY (List.getElem_mem ax);obtain ⟨pD,_⟩:=qt aY _ (List.getElem_mem ax);have Z7:=sP ax;have fZ:=hRg n ax;have jf:=bA p.ZY[n].name;rw [ko] at jf;unfold iM at Z7;simp only [ko,Int.toNat_natCast,iy,he,mZ] at Z7;unfold cg at fZ;rw [he] at fZ;generalize p.ZY[n]=r at fZ jf pD Z7;obtain ⟨rk,rn,rc⟩:=r;dsimp only at fZ jf pD Z7;generalize evE (ew p I) (ew p s.is) e=yes at aG Z7;obtain ⟨xQ,ev,Ha⟩:=abq e;rw [show dC (some e)=dE e from rfl,Ha] at fZ;rw [Ha] at aG;simp only [dS] at jf fZ;have qK:=kG i hi
     have hi1:i < I.length:=by omega
     have ea:i < C.length:=by omega
     have jb:i < NN.length:=by omega
     have ab5:NN[i]=[.v (.string (bs p.names[i].name)),.v (.int .i64 p.names[i].kind),.v (.int .i64 p.names[i].count)]:=by
      rw [List.getElem?_eq_getElem jb] at qK;exact Option.some.inj qK
     have aeC:RR[n]=[.v (.int .i64 rk),.v (.string (bs rn)),.br xQ ev]:=by
      rw [List.getElem?_eq_getElem aaq] at fZ;exact Option.some.inj fZ
     have bK:=Wn G ⟨I,C⟩ i p.names[i].count yes hi1 ea (fun x hx=>by have:=hsm x hx;omega);generalize p.names[i].count=m at ab5 Z7 bK;generalize p.names[i].name=YV at ab5;generalize p.names[i].kind=YO at ab5;have qf:=(Aq fw (Aq @aaq (Aq @jy @aeC)));refine al [3,6,7,10,11,13,43,44,45] [6,7,701,702,13] ?_;refine ck fw 13 ?_;refine Z6 fw jf [3,6,7,10,11,13,14,43,44,45] [6,7,701,702] ?_;refine rg [3,6,7,10,11,13,14,15,43,44,45] [6,7,701,702] (fun _ _=>trivial) fun K' af=>?_;(repeat (refine Z0 fun K2 aa=>?_;simp [ab];(repeat (refine ⟨by omega,?_⟩));refine aa _ ?_;clear aa K2));refine Z0 fun K2 aa=>?_;simp [ab];refine aap.l3 (aG) (by simp;rfl) (by first | exact D.bn _ | simp [aB,List.map_map,Function.comp_def,D.le,D.le.go,D.le_refl,D.bn,ab]) (by simp [D.scalar]) ?_;refine aa _ ?_;clear aa K2;simp only [Z2,dk];(repeat (refine Z0 fun K2 aa=>?_;simp [ab];(repeat (refine ⟨by omega,?_⟩));refine aa _ ?_;clear aa K2));refine Z9 (af _ (AW.st (by simp [ab];rfl) ?_));clear af K';refine ZW fw [3,6,7,10,11,14,15,43,44,45,59] [6,7,701,702] ?_;refine aR ?_
     have vz:rk=1\/rk=2\/rk=3\/rk=4\/rk=5\/rk=6:=by omega
     rcases vz with rfl | rfl | rfl | rfl | rfl | rfl
     .have Z7:=Z7;simp at Z7;refine ZW fw [3,6,7,10,11,14,15,43,44,45,59,60] [6,7,701,702] ?_;refine ak rfl ?_;have qf:=(Aq fw @hi1);refine dv de [3,6,7,10,11,43,44,45] [6,7,701,702] ?_;refine reQ fw ?_;(try simp only [aM,aP]);refine aV.mk (n+1) (by omega) (by omega) ?_;rw [Z7];refine Z1.dK (fun _ _=>trivial) (by simp [ab,List.map_set]) (by simp [ab,List.map_set])
     .have Z7:=Z7;rw [fD hi1] at Z7;refine ZW fw [3,6,7,10,11,14,15,43,44,45,59,60] [6,7,701,702] ?_;refine ag rfl ?_;refine ZW fw [3,6,7,10,11,14,15,43,44,45,59,67] [6,7,701,702] ?_;refine ak rfl ?_
      cases hIb:I[i] with
      | true=>
       rw [hIb] at Z7;simp at Z7;refine acS (ZZ _) (by kernel_rfl) [(1,7),(4,7),(6,701),(7,701),(11,701),(12,701)] (by kernel_rfl) fun K' af=>?_;(repeat (refine fz fun K2 aa=>?_;simp [ab,hi1,hIb];(repeat (refine ⟨by omega,?_⟩));refine aa _ ?_;clear aa K2));refine gO (af _ ?_);clear af K';refine de _ (AW.norm [3,6,7,10,11,43,44,45] [6,7,701,702] (fun _ _=>trivial) (AW.st (by simp [ab,hi1,hIb];rfl) ?_));refine reQ fw ?_;(try simp only [aM,aP]);refine aV.mk (n+1) (by omega) (by omega) ?_;rw [Z7];refine Z1.dK (fun _ _=>trivial) (by simp [ab,List.map_set]) (by simp [ab,List.map_set])
      | false=>
       rw [hIb] at Z7;simp at Z7;refine acS (ZZ _) (by kernel_rfl) [(1,7),(4,7),(6,701),(7,701),(11,701),(12,701)] (by kernel_rfl) fun K' af=>?_;(repeat (refine fz fun K2 aa=>?_;simp [ab,hi1,hIb];(repeat (refine ⟨by omega,?_⟩));refine aa _ ?_;clear aa K2));refine gO (af _ ?_);clear af K';refine de _ (AW.norm [3,6,7,10,11,43,44,45] [6,7,701,702] (fun _ _=>trivial) (AW.st (by simp [ab,hi1,hIb];rfl) ?_));refine reQ fw ?_;(try simp only [aM,aP]);refine aV.mk (n+1) (by omega) (by omega) ?_;rw [Z7];refine Z1.dK (fun _ _=>trivial) (by simp [ab,List.map_set]) (by simp [ab,List.map_set])
     .have Z7:=Z7;rw [fD hi1] at Z7;refine ZW fw [3,6,7,10,11,14,15,43,44,45,59,60] [6,7,701,702] ?_;refine ag rfl ?_;refine ZW fw [3,6,7,10,11,14,15,43,44,45,59,67] [6,7,701,702] ?_;refine ag rfl ?_;refine ZW fw [3,6,7,10,11,14,15,43,44,45,59,81] [6,7,701,702] ?_;refine ak rfl ?_
      cases hIb:I[i] with
      | true=>
       rw [hIb] at Z7;simp at Z7;refine acS (ZZ _) (by kernel_rfl) [(1,7),(4,7),(6,701),(7,701),(12,701),(13,701)] (by kernel_rfl) fun K' af=>?_;(repeat (refine fz fun K2 aa=>?_;simp [ab,hi1,hIb];(repeat (refine ⟨by omega,?_⟩));refine aa _ ?_;clear aa K2));refine gO (af _ ?_);clear af K';refine de _ (AW.norm [3,6,7,10,11,43,44,45] [6,7,701,702] (fun _ _=>trivial) (AW.st (by simp [ab,hi1,hIb];rfl) ?_));refine reQ fw ?_;(try simp only [aM,aP]);refine aV.mk (n+1) (by omega) (by omega) ?_;rw [Z7];refine Z1.dK (fun _ _=>trivial) (by simp [ab,List.map_set]) (by simp [ab,List.map_set])
      | false=>
       rw [hIb] at Z7;simp at Z7;refine acS (ZZ _) (by kernel_rfl) [(1,7),(4,7),(6,701),(7,701),(12,701),(13,701)] (by kernel_rfl) fun K' af=>?_;(repeat (refine fz fun K2 aa=>?_;simp [ab,hi1,hIb];(repeat (refine ⟨by omega,?_⟩));refine aa _ ?_;clear aa K2));refine gO (af _ ?_);clear af K';refine de _ (AW.norm [3,6,7,10,11,43,44,45] [6,7,701,702] (fun _ _=>trivial) (AW.st (by simp [ab,hi1,hIb];rfl) ?_));refine reQ fw ?_;(try simp only [aM,aP]);refine aV.mk (n+1) (by omega) (by omega) ?_;rw [Z7];refine Z1.dK (fun _ _=>trivial) (by simp [ab,List.map_set]) (by simp [ab,List.map_set])
     .have Z7:=Z7;simp at Z7;refine ZW fw [3,6,7,10,11,14,15,43,44,45,59,60] [6,7,701,702] ?_;refine ag rfl ?_;refine ZW fw [3,6,7,10,11,14,15,43,44,45,59,67] [6,7,701,702] ?_;refine ag rfl ?_;refine ZW fw [3,6,7,10,11,14,15,43,44,45,59,81] [6,7,701,702] ?_;refine ag rfl ?_;refine ZW fw [3,6,7,10,11,14,15,43,44,45,59,96] [6,7,701,702] ?_;refine ak rfl ?_;obtain ⟨I2,C2,BD,OL,OH⟩:∃ I2 C2,gz ⟨I,C⟩ i m yes=⟨I2,C2⟩/\I2.length=I.length/\C2.length=C.length:=⟨_,_,rfl,by simp,by simp⟩;rw [BD] at bK Z7;simp only [w8,ab] at bK
      have hj1:i < I2.length:=by omega
      have hC:i < C2.length:=by omega
      have qf:=(Aq fw (Aq @jb @ab5));refine abi bK [3,6,7,10,11,14,15,43,44,45] [6,7,701,702] ?_;refine ZW fw [3,6,7,10,11,14,43,44,45,108] [6,7,701,702] ?_
      cases yes with
      | true=>
       simp only [if_true] at Z7;refine ag rfl ?_;refine ah ?_;refine de _ (AW.norm [3,6,7,10,11,43,44,45] [6,7,701,702] (fun _ _=>trivial) (AW.st (by simp [ab];rfl) ?_));refine reQ fw ?_;(try simp only [aM,aP]);refine aV.mk (n+1) (by omega) (by omega) ?_;rw [Z7];refine Z1.dK (fun _ _=>trivial) (by simp [ab,List.map_set]) (by simp [ab,List.map_set])
      | false=>
       simp only [Bool.false_eq_true,if_false,nN] at Z7;refine ak rfl ?_;have qf:=(Aq fw (Aq @hj1 @hC));refine dv de [3,6,7,10,11,43,44,45] [6,7,701,702] ?_;refine reQ fw ?_;(try simp only [aM,aP]);refine aV.mk (n+1) (by omega) (by omega) ?_;rw [Z7];refine Z1.dK (fun _ _=>trivial) (by simp [ab,List.map_set]) (by simp [ab,List.map_set])
     .have Z7:=Z7;simp at Z7;refine ZW fw [3,6,7,10,11,14,15,43,44,45,59,60] [6,7,701,702] ?_;refine ag rfl ?_;refine ZW fw [3,6,7,10,11,14,15,43,44,45,59,67] [6,7,701,702] ?_;refine ag rfl ?_;refine ZW fw [3,6,7,10,11,14,15,43,44,45,59,81] [6,7,701,702] ?_;refine ag rfl ?_;refine ZW fw [3,6,7,10,11,14,15,43,44,45,59,96] [6,7,701,702] ?_;refine ag rfl ?_;refine ZW fw [3,6,7,10,11,14,15,43,44,45,59,117] [6,7,701,702] ?_;refine ak rfl ?_;obtain ⟨I2,C2,BD,OL,OH⟩:∃ I2 C2,gz ⟨I,C⟩ i m yes=⟨I2,C2⟩/\I2.length=I.length/\C2.length=C.length:=⟨_,_,rfl,by simp,by simp⟩;rw [BD] at bK Z7;simp only [w8,ab] at bK;refine aaG (ZZ _) fun K' af=>?_;(repeat (refine Z0 fun K2 aa=>?_;simp [ab,jb,ab5];(repeat (refine ⟨by omega,?_⟩));refine aa _ ?_;clear aa K2));refine Z0 fun K2 aa=>?_;simp [ab,jb,ab5];refine aap.mc (bK) ?_ ?_ ?_ ?_ ?_<;>simp [ab,jb,ab5];refine aa _ ?_;clear aa K2;(repeat (refine Z0 fun K2 aa=>?_;simp [ab,jb,ab5];(repeat (refine ⟨by omega,?_⟩));refine aa _ ?_;clear aa K2));refine Z9 (af _ ?_);clear af K';refine de _ (AW.norm [3,6,7,10,11,43,44,45] [6,7,701,702] (fun _ _=>trivial) (AW.st (by simp [ab,jb,ab5];rfl) ?_));refine reQ fw ?_;(try simp only [aM,aP]);refine aV.mk (n+1) (by omega) (by omega) ?_;rw [Z7];refine Z1.dK (fun _ _=>trivial) (by simp [ab,List.map_set]) (by simp [ab,List.map_set])
     .have Z7:=Z7;simp at Z7;refine ZW fw [3,6,7,10,11,14,15,43,44,45,59,60] [6,7,701,702] ?_;refine ag rfl ?_;refine ZW fw [3,6,7,10,11,14,15,43,44,45,59,67] [6,7,701,702] ?_;refine ag rfl ?_;refine ZW fw [3,6,7,10,11,14,15,43,44,45,59,81] [6,7,701,702] ?_;refine ag rfl ?_;refine ZW fw [3,6,7,10,11,14,15,43,44,45,59,96] [6,7,701,702] ?_;refine ag rfl ?_;refine ZW fw [3,6,7,10,11,14,15,43,44,45,59,117] [6,7,701,702] ?_;refine ag rfl ?_;refine ZW fw [3,6,7,10,11,14,15,43,44,45,128] [6,7,701,702] ?_;refine ak rfl ?_;refine ZW fw [3,6,7,10,11,14,43,44,45,130] [6,7,701,702] ?_
      cases yes with
      | true=>
       simp only [if_true,nN] at Z7;refine ak rfl ?_;have qf:=(Aq fw (Aq @hi1 @ea));refine dv de [3,6,7,10,11,43,44,45] [6,7,701,702] ?_;refine reQ fw ?_;(try simp only [aM,aP]);refine aV.mk (n+1) (by omega) (by omega) ?_;rw [Z7];refine Z1.dK (fun _ _=>trivial) (by simp [ab,List.map_set]) (by simp [ab,List.map_set])
      | false=>
       simp only [Bool.false_eq_true,if_false] at Z7;refine ag rfl ?_;refine ah ?_;refine de _ (AW.norm [3,6,7,10,11,43,44,45] [6,7,701,702] (fun _ _=>trivial) (AW.st (by simp [ab];rfl) ?_));refine reQ fw ?_;(try simp only [aM,aP]);refine aV.mk (n+1) (by omega) (by omega) ?_;rw [Z7];refine Z1.dK (fun _ _=>trivial) (by simp [ab,List.map_set]) (by simp [ab,List.map_set])
    .have jy:¬ (n:Int) < (RR.length:Int):=by omega
     have aL:n=p.ZY.length:=by omega
     refine ag (by simp;omega) ?_;refine bH (bN _ ?_)
     have BR:T p.ZY.length=⟨I,C⟩:=by rw [<- aL];exact Pc
     refine ZW fw [6] [6,7,701,702] ?_;exact aK (Aq fw @BR)
theorem EH {p:aF} (aY:aar p=none) (hk:∀ r∈p.ZY,j9 r):xp p:=by
 have hg:=gC aY;have ez:=hg.names;have oK:=hg.ZY;refine ⟨by omega,by omega,fun n hn=>?_,fun r hr e he=>?_⟩
 .have:=Ut (hg.name n hn).1;omega
 .obtain ⟨e',gJ,_,_,hb⟩:=hk r hr;rw [he] at gJ;obtain rfl:=Option.some.inj gJ;have h1:=Lib.compact_length_le (jG (cf true e));have h2:=nI (cf true e);have h3:=rN true e;refine ⟨by omega,?_⟩;unfold aaE;omega
def inB (x:Int) (k:Nat):Bool:=nY .and .i64 (x.fdiv (2 ^ (min k IntKind.i64.bits))) 1 == 1
def eN (x:Int):Nat->List Bool
 | 0=>[]
 | k+1=>eN x k ++ [inB x k]
theorem aeo (x:Int):∀ k,(eN x k).length=k
 | 0=>rfl
 | k+1=>by rw [eN,List.length_append,aeo x k];rfl
def wY (t:Tx):Option aF:=if 1500 < t.length then none else match abg t with
 | (none,p)=>some p
 | (some _,_)=>none
theorem VI {t:Tx} {p:aF} (h:wY t=some p):abg t=(none,p):=by
 unfold wY at h;split at h
 .cases h
 .split at h
  .rename_i q hq;obtain rfl:=Option.some.inj h;exact hq
  .cases h
def adO:Option aF->D
 | none=>.Z4 [dw ⟨[],[]⟩,cN ⟨[],[]⟩,.v (.bool false)]
 | some p=>.Z4 [dw p,cN p,.v (.bool true)]
theorem Bf:dw ⟨[],[]⟩ = .agg [.sl none [],.sl none []]:=rfl
theorem Bg:cN ⟨[],[]⟩ = .agg [.sl none [],.sl none []]:=rfl
structure gR where
 nm:Nat
 most:Int
 far:Bool
def fh (p:aF) (n:NmP):Bool:=p.ZY.any (ach n.name)
def partOf (n:NmP) (ed:Bool) (i:Nat):List gR:=if n.kind=2\/(n.kind=1/\ed=true) then [⟨i,2,false⟩] else if n.kind≠1 then [⟨i,n.count+1,true⟩] else []
def cX (p:aF):Nat->List gR
 | 0=>[]
 | i+1=>cX p i ++ partOf (p.names.getD i ⟨[],0,0⟩) (fh p (p.names.getD i ⟨[],0,0⟩)) i
def bw (p:aF):List gR:=cX p p.names.length
theorem wP {p:aF} {i:Nat} (h:i < p.names.length):cX p (i+1)=cX p i ++ partOf p.names[i] (fh p p.names[i]) i:=by
 rw [cX,fD h]
def bG:List gR->Int
 | []=>1
 | x :: l=>x.most * bG l
def mY (x:gR) (s:StP):Int:=if x.far then s.ct.getD x.nm 0 else if s.is.getD x.nm false then 1 else 0
def eD:List gR->StP->Int
 | [],_=>0
 | x :: l,s=>mY x s+x.most * eD l s
def nF (x:gR) (k:Int) (s:StP):StP:=if x.far then ⟨s.is.set x.nm (decide (k=x.most - 1)),s.ct.set x.nm k⟩ else ⟨s.is.set x.nm (decide (k=1)),s.ct⟩
def lH:List gR->Int->StP->StP
 | [],_,s=>s
 | x :: l,n,s=>lH l (n / x.most) (nF x (n % x.most) s)
structure sc (p:aF) (x:gR):Prop where
 lt:x.nm < p.names.length
 fa:x.far=true->3<=p.names[x.nm].kind/\x.most=p.names[x.nm].count+1
 ne:x.far=false->x.most=2/\p.names[x.nm].kind < 3
 m2:2<=x.most
 m8:x.most<=8
theorem U7 {n:NmP} {ed:Bool} {i:Nat} {x:gR} (h:x∈partOf n ed i):x.nm=i/\((x.far=false/\x.most=2/\(n.kind=2\/(n.kind=1/\ed=true)))\/(x.far=true/\x.most=n.count+1/\n.kind≠1/\n.kind≠2)):=by
 unfold partOf at h;split at h
 .rename_i h1;rw [List.mem_singleton] at h;subst h;exact ⟨rfl,.inl ⟨rfl,rfl,h1⟩⟩
 .rename_i h1;split at h
  .rename_i h2;rw [List.mem_singleton] at h;subst h;exact ⟨rfl,.inr ⟨rfl,rfl,h2,fun e=>h1 (.inl e)⟩⟩
  .cases h
theorem Jt {p:aF} {x:gR}:∀ {n:Nat},n<=p.names.length->(x∈cX p n↔∃ i,∃ hi:i < p.names.length,i < n/\x∈partOf p.names[i] (fh p p.names[i]) i)
 | 0,_=>by simp [cX]
 | n+1,hn=>by
  rw [wP (by omega),List.mem_append,Jt (by omega)];constructor
  .rintro (⟨i,hi,h1,h2⟩ | h)
   .exact ⟨i,hi,by omega,h2⟩
   .exact ⟨n,by omega,by omega,h⟩
  .rintro ⟨i,hi,h1,h2⟩;by_cases e:i=n
   .subst e;exact .inr h2
   .exact .inl ⟨i,hi,by omega,h2⟩
theorem nD {p:aF} (hg:abl p) {x:gR} (h:x∈bw p):sc p x:=by
 obtain ⟨i,hi,_,h2⟩:=(Jt (Nat.le_refl _)).1 h;obtain ⟨rfl,h3⟩:=U7 h2;have h4:=hg.name _ (List.getElem_mem hi);have h5:=hg.count _ (List.getElem_mem hi)
 rcases h3 with ⟨e1,e2,e3⟩ | ⟨e1,e2,e3,e4⟩
 .exact ⟨hi,(fun h=>by rw [e1] at h;cases h),fun _=>⟨e2,by omega⟩,by omega,by omega⟩
 .exact ⟨hi,fun _=>⟨by omega,e2⟩,(fun h=>by rw [e1] at h;cases h),by omega,by omega⟩
theorem wO (p:aF):∀ n,(cX p n).length<=n
 | 0=>Nat.le_refl _
 | n+1=>by
  have:=wO p n;rw [cX,List.length_append];unfold partOf;split<;>(try split)<;>simp<;>omega
theorem nE {l:List gR} (h:∀ x∈l,2<=x.most):0 < bG l:=by
 induction l with
 | nil=>decide
 | cons x l ih=>
  have h1:=ih fun y hy=>h y (by simp [hy]);have h2:=h x (by simp);exact Int.mul_pos (by omega) h1
theorem wV:∀ (a b:List gR),bG (a ++ b)=bG a * bG b
 | [],b=>by simp [bG]
 | x :: a,b=>by rw [List.cons_append,bG,bG,wV a b,Int.mul_assoc]
theorem JF {l:List gR} {k:Nat} (h:k < l.length):bG (l.take (k+1))=bG (l.take k) * l[k].most:=by
 rw [List.take_succ_eq_append_getElem h,wV];simp [bG]
theorem Vl {l:List gR} (h:∀ x∈l,2<=x.most):∀ k,bG (l.take k)<=bG l:=by
 intro k
 have e:bG l=bG (l.take k) * bG (l.drop k):=by rw [<- wV,List.take_append_drop]
 have h1:0 < bG (l.take k):=nE fun x hx=>h x (List.mem_of_mem_take hx);have h2:0 < bG (l.drop k):=nE fun x hx=>h x (List.mem_of_mem_drop hx);rw [e];have:=Int.mul_le_mul_of_nonneg_left (show (1:Int)<=bG (l.drop k) by omega) (Int.le_of_lt h1);omega
theorem F5 {p:aF} {s:StP} (hs:dU p s) {x:gR} (hx:sc p x):0<=mY x s/\mY x s < x.most:=by
 unfold mY
 cases hf:x.far with
 | true=>
  have h1:=hs.lo x.nm;have h2:=hs.hi x.nm hx.lt;have h3:=(hx.fa hf).2;simp only [if_true];omega
 | false=>
  have:=(hx.ne hf).1;simp only [Bool.false_eq_true,if_false];split<;>omega
theorem DY {l:List gR} {s:StP} (h:∀ x∈l,0<=mY x s/\mY x s < x.most):0<=eD l s/\eD l s < bG l:=by
 induction l with
 | nil=>exact ⟨Int.le_refl 0,(by decide:(0:Int) < 1)⟩
 | cons x l ih=>
  have h1:=ih fun y hy=>h y (by simp [hy]);have h2:=h x (by simp);rw [eD,bG];have h3:0<=x.most * eD l s:=Int.mul_nonneg (by omega) h1.1;have h4:x.most * (eD l s+1)<=x.most * bG l:=Int.mul_le_mul_of_nonneg_left (by omega) (by omega);rw [Int.mul_add,Int.mul_one] at h4;omega
def kA (p:aF) (n:Int):StP:=lH (bw p) n (iO p)
theorem Vp {p:aF} {x:gR} (hx:sc p x) {s:StP} (hs:dU p s) {d:Int} (h0:0<=d) (h1:d < x.most):dU p (nF x d s):=by
 have ax:=hx.lt;unfold nF
 cases hf:x.far with
 | false=>
  simp only [Bool.false_eq_true,if_false];exact aer hs ax (hx.ne hf).2 _
 | true=>
  have YD:=(hx.fa hf).2;simp only [if_true];refine ⟨by simp [hs.l1],by simp [hs.l2],fun k=>?_,fun k hk=>?_,fun k hk h3=>?_⟩
  .show 0<=(s.ct.set x.nm d).getD k 0;by_cases e:x.nm=k
   .subst e;rw [jQ (by rw [hs.l2];exact ax)];exact h0
   .rw [gF e];exact hs.lo k
  .show (s.ct.set x.nm d).getD k 0<=_;by_cases e:x.nm=k
   .subst e;rw [jQ (by rw [hs.l2];exact ax)];omega
   .rw [gF e];exact hs.hi k hk
  .show (s.is.set x.nm _).getD k false=decide ((s.ct.set x.nm d).getD k 0=_);by_cases e:x.nm=k
   .subst e;rw [jQ (by rw [hs.l1];exact ax),jQ (by rw [hs.l2];exact ax)];congr 1;exact propext ⟨fun h=>by omega,fun h=>by omega⟩
   .rw [gF e,gF e];exact hs.at' k hk h3
theorem KK {p:aF}:∀ {l:List gR} {n:Int} {s:StP},(∀ x∈l,sc p x)->dU p s->dU p (lH l n s)
 | [],_,_,_,hs=>hs
 | x :: l,n,s,hl,hs=>by
  have hx:=hl x (by simp);have:=hx.m2;rw [lH];exact KK (fun y hy=>hl y (by simp [hy])) (Vp hx hs (Int.emod_nonneg _ (by omega)) (Int.emod_lt_of_pos _ (by omega)))
theorem w7 {p:aF} (hc:aar p=none) (n:Int):dU p (kA p n):=KK (fun _ hx=>nD (gC hc) hx) (WQ (gC hc))
theorem N6 {α:Type} {d:α}:∀ {a b:List α},a.length=b.length->(∀ i,i < a.length->a.getD i d=b.getD i d)->a=b:=fun {a b} hl h=>by
 refine List.ext_getElem hl fun i h1 h2=>?_;have:=h i h1
 rwa [fD h1,fD h2] at this
def lD (p:aF) (m:Nat) (s:Nat):List Int:=(List.range (2 ^ m)).map fun i:Nat=>eD (bw p) (lO p (kA p s) (eN (i:Int) m))
def abT (p:aF):List (List Int):=(List.range (bG (bw p)).toNat).map (lD p (aZ p).length)
theorem DT (p:aF):(abT p).length=(bG (bw p)).toNat:=by simp [abT]
theorem zS (p:aF) (m s:Nat):(lD p m s).length=2 ^ m:=by simp [lD]
theorem I5 {p:aF} {s:Nat} (h:s < (abT p).length):(abT p)[s]=lD p (aZ p).length s:=by simp [abT]
theorem V9 {p:aF} {m s i:Nat} (h:i < (lD p m s).length):(lD p m s)[i]=eD (bw p) (lO p (kA p s) (eN i m)):=by simp [lD]
def aan (p:aF) (n:NmP):Int:=if 3<=n.kind then n.count+1 else if n.kind=2 then 2 else if n.kind=1/\fh p n=true then 2 else 0
def dJ (p:aF):List Int:=p.names.map (aan p)
theorem Ea {p:aF} (hg:abl p) {i:Nat} (hi:i < p.names.length):partOf p.names[i] (fh p p.names[i]) i=if aan p p.names[i]=0 then [] else [⟨i,aan p p.names[i],decide (3<=p.names[i].kind)⟩]:=by
 have h4:=hg.name _ (List.getElem_mem hi);have h5:=hg.count _ (List.getElem_mem hi);generalize p.names[i]=n at h4 h5 ⊢;unfold partOf aan;by_cases k3:3<=n.kind
 .have n2:¬ (n.kind=2\/n.kind=1/\fh p n=true):=by omega
  have n1:n.kind≠1:=by omega
  have n0:¬ n.count+1=0:=by omega
  rw [if_neg n2,if_pos n1,if_pos k3,if_neg n0];simp [k3]
 .by_cases k2:n.kind=2
  .rw [if_pos (.inl k2),if_neg k3,if_pos k2];simp [k3]
  .have k1:n.kind=1:=by omega
   rw [if_neg k3,if_neg k2];by_cases he:fh p n=true
   .have e3:n.kind=1/\fh p n=true:=⟨k1,he⟩;have e2:n.kind=2\/n.kind=1/\fh p n=true:=.inr e3;rw [if_pos e2,if_pos e3];simp [k3]
   .have e1:¬ (n.kind=2\/n.kind=1/\fh p n=true):=fun h=>h.elim k2 fun h=>he h.2;have e2:¬ (n.kind=1/\fh p n=true):=fun h=>he h.2;rw [if_neg e1,if_neg (fun h=>h k1),if_neg e2,if_pos rfl]
theorem Ju (p:aF) (n:Nat):∀ d,∃ R,cX p (n+d)=cX p n ++ R
 | 0=>⟨[],by simp⟩
 | d+1=>by
  obtain ⟨R,h⟩:=Ju p n d;rw [<- Nat.add_assoc,cX,h];exact ⟨_,List.append_assoc _ _ _⟩
def fR (p:aF) (i:Nat):List gR:=(bw p).drop (cX p i).length
theorem Wy (p:aF):fR p 0=bw p:=rfl
theorem Kz (p:aF):fR p p.names.length=[]:=List.drop_eq_nil_of_le (Nat.le_refl _)
theorem KC {p:aF} {i:Nat} (hi:i < p.names.length):fR p i=partOf p.names[i] (fh p p.names[i]) i ++ fR p (i+1):=by
 obtain ⟨R,h⟩:=Ju p (i+1) (p.names.length - (i+1));rw [show i+1+(p.names.length - (i+1))=p.names.length by omega] at h;have e:bw p=cX p (i+1) ++ R:=h
 have e1:fR p (i+1)=R:=by
  unfold fR;rw [e,List.drop_left]
 have e2:cX p (i+1)=cX p i ++ partOf p.names[i] (fh p p.names[i]) i:=wP hi;rw [e1];unfold fR;rw [e,e2,List.append_assoc,List.drop_left]
theorem KA {p:aF} {i:Nat} {x:gR} (h:x∈fR p i):x∈bw p:=List.mem_of_mem_drop h
theorem KB {p:aF} (hg:abl p) (s:StP) {i:Nat} (hi:i < p.names.length):eD (fR p i) s=if aan p p.names[i]=0 then eD (fR p (i+1)) s else (if 3<=p.names[i].kind then s.ct.getD i 0 else if s.is.getD i false then 1 else 0)+aan p p.names[i] * eD (fR p (i+1)) s:=by
 rw [KC hi,Ea hg hi];by_cases h:aan p p.names[i]=0
 .rw [if_pos h,if_pos h,List.nil_append]
 .rw [if_neg h,if_neg h,List.singleton_append,eD];congr 1;unfold mY;by_cases k3:3<=p.names[i].kind
  .simp [k3]
  .simp [k3]
theorem Vk {p:aF} (hg:abl p) {i:Nat} (hi:i < p.names.length):bG (cX p (i+1))=if aan p p.names[i]=0 then bG (cX p i) else bG (cX p i) * aan p p.names[i]:=by
 rw [wP hi,wV,Ea hg hi];by_cases h:aan p p.names[i]=0
 .rw [if_pos h,if_pos h];simp [bG]
 .rw [if_neg h,if_neg h];simp [bG]
theorem WO {p:aF} (hg:abl p) (n:Int) (s:StP) {i:Nat} (hi:i < p.names.length):lH (fR p i) n s=if aan p p.names[i]=0 then lH (fR p (i+1)) n s else lH (fR p (i+1)) (n / aan p p.names[i]) (nF ⟨i,aan p p.names[i],decide (3<=p.names[i].kind)⟩ (n % aan p p.names[i]) s):=by
 rw [KC hi,Ea hg hi];by_cases h:aan p p.names[i]=0
 .rw [if_pos h,if_pos h,List.nil_append]
 .rw [if_neg h,if_neg h,List.singleton_append,lH]
def cPa (x:gR):List D:=[.v (.int .i64 x.nm),.v (.int .i64 x.most),.v (.bool x.far)]
def pc (l:List gR):D:=.sl none (l.map cPa)
def AY (p:aF) (st inp:Int) (nx:List (List D)):List D:=[bR p.names,dW p.ZY,.v (.int .i64 st),.v (.int .i64 inp),.sl none nx,pc (bw p),gE (aZ p)]
def maR (p:aF) (st inp:Int) (nx:List (List D)):List (Nat×Row):=[(25,.box 48 [.d (bR p.names),.d (dW p.ZY),.d (.v (.int .i64 st)),.d (.v (.int .i64 inp)),.own 800 0 nx.length,.d (pc (bw p)),.d (gE (aZ p))]),(800,.sl 46 1 nx)]
def Bd (p:aF) (st inp:Int) (nx:List (List D)):D:=.ip (AY p st inp nx)
def nxD (l:List (List Int)):List (List D):=l.map fun r=>[gE r]
theorem Jc (l:List (List Int)):(nxD l).length=l.length:=by simp [nxD]
set_option maxHeartbeats 2000000 in
theorem WR (G:ao) (p:aF) (hp:p.names.length < 2^40):MC Tryz.prog G [] 75 [.d (dw p)] (ZX []) (.agg [.own 701 0 (iO p).is.length,.own 702 0 (iO p).ct.length]) (ZX [(701,.sl 4 1 ((iO p).is.map fun b=>[.v (.bool b)])),(702,.sl 3 1 ((iO p).ct.map fun n=>[.v (.int .i64 n)]))]):=by
 have gV:(p.names.map Z3).length=p.names.length:=by simp
 simp only [dw,cPg,bR,dW,iO,List.map_replicate,List.length_replicate];rw [<- gV];rw [<- gV] at hp;generalize p.names.map Z3=NN at *;generalize p.ZY.map cg=RR at *;refine MC.aD (ZZ _) Tryz.func75 rfl rfl (rs:=[.cell 2 68]) Tryz.results75 (by simp [Tryz.ntmps75]) rfl fun X=>?_;simp only [Tryz.ntmps75];refine aq [1,2] [1,2] ?_;refine dX 1 ?_;refine LC (ZZ _) (by kernel_rfl) ([]) ([]) ([0,1,2,4,5,6,3,7,8,9]) [2] [2,6,10] (cC rfl) (by kernel_rfl) fun K' af=>?_;(repeat (refine ub rfl fun K2 aa=>?_;simp [lz,gB];(repeat (refine ⟨by omega,?_⟩));refine aa _ ?_;clear aa K2));refine uc (af _ ?_);refine AW.st (by simp [lz,gB];rfl) ?_;clear af K';refine AW.imp (Z1.ren (r:=6) (r':=701) (by decide) (by simp)) ?_;refine AW.st (by simp [eS,aa2,Go.Av.ren,l7];rfl) ?_;refine AW.imp (Z1.ren (r:=10) (r':=702) (by decide) (by simp)) ?_;refine AW.st (by simp [eS,aa2,Go.Av.ren,l7];rfl) ?_;exact gm
set_option maxRecDepth 100000 in
set_option maxHeartbeats 8000000 in
theorem Um (G:ao) (p:aF) (aY:aar p=none) (st inp:Int) (nx:List (List D)) (n:Int) (h0:0<=n) (h1:n<=2^40):MC Tryz.prog G [25,800] 25 [.ref 25 0 0,.d (ab n)] (ZX (maR p st inp nx)) (.d (pd (kA p n))) (ZX (maR p st inp nx)):=by
 have hg:=gC aY;have ez:=hg.names;have dO:=WR G p (by omega);have u9:∀ x∈bw p,sc p x:=fun x hx=>nD hg hx
 have cW:(iO p).is.length=p.names.length:=by simp [iO]
 have dh:(iO p).ct.length=p.names.length:=by simp [iO]
 have sX:lH ((bw p).drop 0) n (iO p)=kA p n:=rfl;have kH:=wO p p.names.length;have BK:cX p p.names.length=bw p:=rfl;rw [BK] at kH;simp only [dw,cPg,bR,dW] at dO;simp only [maR,bR,dW,pc,gE,ab,pd,lM,iU];generalize Yg:kA p n=LG at *;generalize Yl:iO p=ST at *;generalize BL:bw p=bZ at *
 have BR:(bZ.map cPa).length=bZ.length:=by simp
 have BQ:∀ i (h:i < bZ.length),(bZ.map cPa)[i]? = some [.v (.int .i64 bZ[i].nm),.v (.int .i64 bZ[i].most),.v (.bool bZ[i].far)]:=fun i h=>by simp [h,cPa]
 generalize bZ.map cPa=PT at *;generalize (aZ p).map (fun n=>[D.v (.int .i64 n)])=IN at *;generalize p.names.map Z3=NN at *;generalize p.ZY.map cg=RR at *;refine MC.aD (ZZ _) Tryz.func25 rfl rfl (rs:=[.cell 4 68]) Tryz.results25 (by simp [Tryz.ntmps25]) rfl fun X=>?_;simp only [Tryz.ntmps25];have fw:=@ab.eq_1;refine ZW fw [0,1,4] [25,800,4] ?_;refine Z8 fw dO [0,1,4,5] [25,800,4,5,701,702] ?_;refine ae fun K1 ay=>?_;refine ZW fw [1,4,5,17,18,19] [25,800,4,5,701,702] ?_;refine aam (S:=Nat×Int×StP) (fun s=>s.1<=bZ.length/\0<=s.2.1/\s.2.1<=2^40/\s.2.2.is.length=p.names.length/\s.2.2.ct.length=p.names.length/\lH (bZ.drop s.1) s.2.1 s.2.2=LG) (fun s=>⟨aX [(1,int s.2.1),(4,.ref 4 0 0),(5,.ref 5 0 0),(17,.d (.sl none PT)),(18,int PT.length),(19,int s.1)],ZX [(25,.box 48 [.d (.sl none NN),.d (.sl none RR),.d (.v (.int .i64 st)),.d (.v (.int .i64 inp)),.own 800 0 nx.length,.d (.sl none PT),.d (.sl none IN)]),(800,.sl 46 1 nx),(4,.box 68 [.d (.sl (some false) []),.d (.sl (some false) [])]),(5,.box 68 [.own 701 0 s.2.2.is.length,.own 702 0 s.2.2.ct.length]),(701,.sl 4 1 (s.2.2.is.map fun b=>[.v (.bool b)])),(702,.sl 3 1 (s.2.2.ct.map fun n=>[.v (.int .i64 n)]))]⟩) (fun s=>bZ.length - s.1) (0,n,ST) ?_ ⟨by simp,h0,h1,cW,dh,sX⟩ ?_
 .refine aU fw
 .rintro ⟨k,m,T⟩ ⟨hk,vF,vG,gU,gV,b5⟩;dsimp only at hk vF vG gU gV b5 ⊢;obtain ⟨TI,TC⟩:=T;dsimp only at gU gV ⊢;refine ZW fw [1,4,5,17,18,19,20] [25,800,4,5,701,702] ?_;refine ae fun K2 aa=>?_;by_cases ax:k < bZ.length
  .have aaq:k < PT.length:=by omega
   have jy:(k:Int) < (PT.length:Int):=by omega
   refine ak (by simp<;>omega) ?_;refine ah (aa _ ?_);refine ae fun K3 aQ=>?_;refine aR ?_;have hx:=u9 _ (List.getElem_mem ax)
   have hPk:PT[k]=[.v (.int .i64 bZ[k].nm),.v (.int .i64 bZ[k].most),.v (.bool bZ[k].far)]:=by
    have:=BQ k ax;rw [List.getElem?_eq_getElem aaq] at this;exact Option.some.inj this
   rw [List.drop_eq_getElem_cons ax,lH] at b5;have hxl:=hx.lt;have jW:=hx.m2;have yC:=hx.m8;clear hx;generalize bZ[k]=x at hPk b5 hxl jW yC;obtain ⟨i,M,fa⟩:=x;dsimp only at hPk b5 hxl jW yC
   have sJ:¬ M=0:=by omega
   have kN:m.tmod M=m % M:=Int.tmod_eq_emod_of_nonneg vF;have gI:0<=m / M:=Int.ediv_nonneg vF (by omega);have hd1:m / M<=m:=Int.ediv_le_self _ vF
   have hdiv:IntKind.i64.wrap (m.tdiv M)=m / M:=by
    rw [Int.tdiv_eq_ediv_of_nonneg vF];exact Ar (by omega)
   have jC:0<=m % M:=Int.emod_nonneg _ sJ;have hr1:m % M < M:=Int.emod_lt_of_pos _ (by omega);generalize hq:m / M=q at *;generalize hr:m % M=r at *
   have hi1:i < TI.length:=by omega
   have ea:i < TC.length:=by omega
   have qf:=(Aq fw (Aq @aaq @hPk));refine al [1,4,5,7,17,18,19] [25,800,4,5,7,701,702] ?_;refine ck fw 7 ?_;have qf:=(Aq fw (Aq @sJ @kN));refine al [1,4,5,7,8,17,18,19] [25,800,4,5,701,702] ?_;have qf:=(Aq fw (Aq @sJ @hdiv));refine al [1,4,5,7,8,17,18,19] [25,800,4,5,701,702] ?_;refine ZW fw [1,4,5,7,8,17,18,19,32] [25,800,4,5,701,702] ?_
   cases fa with
   | true=>
    simp only [nF,if_true] at b5;refine ak rfl ?_;have qf:=(Aq fw @ea);refine al [1,4,5,7,8,17,18,19] [25,800,4,5,701,702] ?_;have qf:=(Aq fw @hi1);refine dv aQ [1,4,5,17,18,19] [25,800,4,5,701,702] ?_;refine reQ fw ?_;(try simp only [aM,aP]);refine aV.mk (k+1,q,⟨TI.set i (decide (r=M - 1)),TC.set i r⟩) ⟨by dsimp only;omega,gI,by dsimp only;omega,by simp [gU],by simp [gV],b5⟩ (by dsimp only;omega) ?_;refine Z1.dK (cC rfl) (by simp [ab,List.map_set]) (by simp [ab,List.map_set])
   | false=>
    simp only [nF,Bool.false_eq_true,if_false] at b5;refine ag rfl ?_;have qf:=(Aq fw @hi1);refine dv aQ [1,4,5,17,18,19] [25,800,4,5,701,702] ?_;refine reQ fw ?_;(try simp only [aM,aP]);refine aV.mk (k+1,q,⟨TI.set i (decide (r=1)),TC⟩) ⟨by dsimp only;omega,gI,by dsimp only;omega,by simp [gU],gV,b5⟩ (by dsimp only;omega) ?_;refine Z1.dK (cC rfl) (by simp [ab,List.map_set]) (by simp [ab,List.map_set])
  .have jy:¬ (k:Int) < (PT.length:Int):=by omega
   rw [List.drop_eq_nil_of_le (by omega),lH] at b5;subst b5;refine ag (by simp;omega) ?_;refine bH (ay _ ?_);refine AW.imp (Z1.freeze 701 (by decide)) ?_;refine AW.st (by simp [ab,List.take_of_length_le];rfl) ?_;refine AW.imp (Z1.freeze 702 (by decide)) ?_;refine AW.st (by simp [ab,List.take_of_length_le];rfl) ?_;refine ZW fw [4] [25,800,4] ?_;exact aK fw
set_option maxRecDepth 100000 in
set_option maxHeartbeats 8000000 in
theorem Uc (G:ao) (p:aF) (aY:aar p=none) (st inp:Int) (nx:List (List D)) (s:StP) (hs:dU p s) (hP:bG (bw p)<=4096):MC Tryz.prog G [25,800] 29 [.ref 25 0 0,.d (pd s)] (ZX (maR p st inp nx)) (.d (ab (eD (bw p) s))) (ZX (maR p st inp nx)):=by
 have hg:=gC aY;have ez:=hg.names;have u9:∀ x∈bw p,sc p x:=fun x hx=>nD hg hx;have Cb:∀ x∈bw p,0<=mY x s/\mY x s < x.most:=fun x hx=>F5 hs (u9 x hx);have hnr:=DY Cb;have jW:∀ x∈bw p,2<=x.most:=fun x hx=>(u9 x hx).m2;have G8:∀ k,0<=eD ((bw p).drop k) s:=fun k=>(DY fun x hx=>Cb x (List.mem_of_mem_drop hx)).1;have PO:∀ k,0 < bG ((bw p).drop k):=fun k=>nE fun x hx=>jW x (List.mem_of_mem_drop hx);have cW:=hs.l1;have dh:=hs.l2;clear hs;have kH:=wO p p.names.length;have BK:cX p p.names.length=bw p:=rfl;rw [BK] at kH;simp only [maR,bR,dW,pc,gE,ab,pd,lM,iU];obtain ⟨TI,TC⟩:=s;dsimp only at cW dh ⊢;generalize BL:bw p=bZ at *
 have BR:(bZ.map cPa).length=bZ.length:=by simp
 have BQ:∀ i (h:i < bZ.length),(bZ.map cPa)[i]? = some [.v (.int .i64 bZ[i].nm),.v (.int .i64 bZ[i].most),.v (.bool bZ[i].far)]:=fun i h=>by simp [h,cPa]
 generalize bZ.map cPa=PT at *;generalize (aZ p).map (fun n=>[D.v (.int .i64 n)])=IN at *;generalize p.names.map Z3=NN at *;generalize p.ZY.map cg=RR at *;refine MC.aD (ZZ _) Tryz.func29 rfl rfl (rs:=[.tmp 4]) Tryz.results29 (by simp [Tryz.ntmps29]) rfl fun X=>?_;simp only [Tryz.ntmps29];have fw:=@ab.eq_1;refine ZW fw [0,3] [25,800,3] ?_;refine ck fw 3 ?_;refine ZW fw [0,3,5,6] [25,800] ?_;refine ae fun K1 ay=>?_;refine ZW fw [3,5,6,13,14,15] [25,800] ?_;refine aam (S:=Nat×Int×Int) (fun s=>s.1<=bZ.length/\0<=s.2.1/\0 < s.2.2/\s.2.2 * bG (bZ.drop s.1)=bG bZ/\s.2.1+s.2.2 * eD (bZ.drop s.1) ⟨TI,TC⟩=eD bZ ⟨TI,TC⟩) (fun s=>⟨aX [(3,.d (.ip [.sl none (TI.map fun b=>[.v (.bool b)]),.sl none (TC.map fun n=>[.v (.int .i64 n)])])),(5,int s.2.1),(6,int s.2.2),(13,.d (.sl none PT)),(14,int PT.length),(15,int s.1)],ZX [(25,.box 48 [.d (.sl none NN),.d (.sl none RR),.d (.v (.int .i64 st)),.d (.v (.int .i64 inp)),.own 800 0 nx.length,.d (.sl none PT),.d (.sl none IN)]),(800,.sl 46 1 nx)]⟩) (fun s=>bZ.length - s.1) (0,0,1) ?_ ⟨by simp,by simp,by simp,by simp,by simp⟩ ?_
 .refine aU fw
 .rintro ⟨k,n,b⟩ ⟨hk,hn0,hb0,fv,b5⟩;dsimp only at hk hn0 hb0 fv b5 ⊢;have lV:=G8 k;have qN:0<=b * eD (bZ.drop k) ⟨TI,TC⟩:=Int.mul_nonneg (by omega) lV;refine ZW fw [3,5,6,13,14,15,16] [25,800] ?_;refine ae fun K2 aa=>?_;by_cases ax:k < bZ.length
  .have aaq:k < PT.length:=by omega
   have jy:(k:Int) < (PT.length:Int):=by omega
   refine ak (by simp<;>omega) ?_;refine ah (aa _ ?_);refine ae fun K3 aQ=>?_;refine aR ?_;have hx:=u9 _ (List.getElem_mem ax);obtain ⟨gI,hd1⟩:=Cb _ (List.getElem_mem ax)
   have hPk:PT[k]=[.v (.int .i64 bZ[k].nm),.v (.int .i64 bZ[k].most),.v (.bool bZ[k].far)]:=by
    have:=BQ k ax;rw [List.getElem?_eq_getElem aaq] at this;exact Option.some.inj this
   have afE:=G8 (k+1);have Yu:=PO (k+1);rw [List.drop_eq_getElem_cons ax,eD] at b5;rw [List.drop_eq_getElem_cons ax,bG,<- Int.mul_assoc] at fv;rw [Int.mul_add,<- Int.add_assoc,<- Int.mul_assoc] at b5;have hxl:=hx.lt;have jW:=hx.m2;clear hx qN lV;unfold mY at b5 gI hd1;generalize bZ[k]=x at hPk b5 fv hxl jW gI hd1;obtain ⟨i,M,fa⟩:=x;dsimp only at hPk b5 fv hxl jW gI hd1;have yo:0 < b * M:=Int.mul_pos hb0 (by omega)
   have Yr:b * M<=4096:=by
    have:=Int.mul_le_mul_of_nonneg_left (show (1:Int)<=bG (bZ.drop (k+1)) by omega) (Int.le_of_lt yo);omega
   have Ys:0<=b * M * eD (bZ.drop (k+1)) ⟨TI,TC⟩:=Int.mul_nonneg (by omega) afE
   have hi1:i < TI.length:=by omega
   have ea:i < TC.length:=by omega
   rw [fD hi1,fD ea] at b5 gI hd1;generalize qO:TI[i]=bv at *;generalize kK:TC[i]=c at *;generalize BZ:b * M=bM at *;have qf:=(Aq fw (Aq @aaq @hPk));refine al [3,5,6,8,13,14,15] [25,800,8] ?_;refine ck fw 8 ?_;refine ZW fw [3,5,6,8,9,13,14,15] [25,800] ?_;refine ae fun K4 bN=>?_;refine ZW fw [3,5,6,8,9,13,14,15,20] [25,800] ?_
   cases fa with
   | true=>
    simp only [if_true] at b5 gI hd1;have hc0:0<=b * c:=Int.mul_nonneg (by omega) gI
    have fi:b * c<=bM:=by
     have:=Int.mul_le_mul_of_nonneg_left (Int.le_of_lt hd1) (Int.le_of_lt hb0);omega
    generalize Pq:b * c=bc at *;refine ak rfl ?_;have qf:=(Aq fw (Aq @ea @kK));refine dv bN [3,5,6,8,9,13,14,15] [25,800] ?_;have qf:=(Aq fw @Pq);refine al [3,5,6,8,13,14,15] [25,800] ?_;have qf:=(Aq fw @BZ);refine dv aQ [3,5,6,13,14,15] [25,800] ?_;refine reQ fw ?_;(try simp only [aM,aP]);refine aV.mk (k+1,n+bc,bM) ⟨by dsimp only;omega,by dsimp only;omega,yo,fv,b5⟩ (by dsimp only;omega) ?_;refine aU fw
   | false=>
    simp only [Bool.false_eq_true,if_false] at b5 gI hd1;refine ag rfl ?_;have qf:=(Aq fw (Aq @hi1 @qO));refine al [3,5,6,8,9,13,14,15,32] [25,800] ?_
    cases bv with
    | true=>
     simp only [if_true,Int.mul_one] at b5
     have c6:b<=bM:=by
      have:=Int.mul_le_mul_of_nonneg_left (show (1:Int)<=M by omega) (Int.le_of_lt hb0);omega
     refine ak rfl ?_;refine reK fw bN [3,5,6,8,9,13,14,15] [25,800] ?_;refine ZW fw [3,5,6,8,13,14,15] [25,800] ?_;have qf:=(Aq fw @BZ);refine dv aQ [3,5,6,13,14,15] [25,800] ?_;refine reQ fw ?_;(try simp only [aM,aP]);refine aV.mk (k+1,n+b,bM) ⟨by dsimp only;omega,by dsimp only;omega,yo,fv,b5⟩ (by dsimp only;omega) ?_;refine aU fw
    | false=>
     simp only [Bool.false_eq_true,if_false,Int.mul_zero,Int.add_zero] at b5;refine ag rfl ?_;refine ah (bN _ ?_);refine ZW fw [3,5,6,8,13,14,15] [25,800] ?_;have qf:=(Aq fw @BZ);refine dv aQ [3,5,6,13,14,15] [25,800] ?_;refine reQ fw ?_;(try simp only [aM,aP]);refine aV.mk (k+1,n,bM) ⟨by dsimp only;omega,by dsimp only;omega,yo,fv,b5⟩ (by dsimp only;omega) ?_;refine aU fw
  .have jy:¬ (k:Int) < (PT.length:Int):=by omega
   rw [List.drop_eq_nil_of_le (by omega),eD,Int.mul_zero,Int.add_zero] at b5;subst b5;refine ag (by simp;omega) ?_;refine bH (ay _ ?_);refine ZW fw [4] [25,800] ?_;exact aK fw
set_option maxRecDepth 100000 in
set_option maxHeartbeats 8000000 in
theorem SG (G:ao) (p:aF) (aY:aar p=none) (st inp:Int) (nx:List (List D)) (x:Int):MC Tryz.prog G [25,800] 28 [.ref 25 0 0,.d (ab x)] (ZX (maR p st inp nx)) (.d (iU (eN x (aZ p).length))) (ZX (maR p st inp nx)):=by
 have ez:=(gC aY).names;have vw:=rH p.names 1 p.names.length;have hkI:abe p.names 1 p.names.length=aZ p:=rfl;rw [hkI] at vw;simp only [maR,bR,dW,pc,gE,ab,iU]
 have js:((aZ p).map fun n=>[D.v (.int .i64 n)]).length=(aZ p).length:=by simp
 generalize (aZ p).length=m at *;generalize (aZ p).map (fun n=>[D.v (.int .i64 n)])=IN at *;generalize (bw p).map cPa=PT at *;generalize p.names.map Z3=NN at *;generalize p.ZY.map cg=RR at *;refine MC.aD (ZZ _) Tryz.func28 rfl rfl (rs:=[.tmp 4]) Tryz.results28 (by simp [Tryz.ntmps28]) rfl fun X=>?_;simp only [Tryz.ntmps28];have fw:=@ab.eq_1;refine ZW fw [0,1] [25,800] ?_;refine ZW fw [0,1,5] [25,800] ?_;refine ae fun K1 ay=>?_;refine ZW fw [1,5,11,12] [25,800] ?_;refine aam (S:=Nat) (fun k=>k<=m) (fun k=>⟨aX [(1,int x),(5,.own 901 0 k),(11,int m),(12,int k)],ZX [(25,.box 48 [.d (.sl none NN),.d (.sl none RR),.d (.v (.int .i64 st)),.d (.v (.int .i64 inp)),.own 800 0 nx.length,.d (.sl none PT),.d (.sl none IN)]),(800,.sl 46 1 nx),(901,.sl 4 1 ((eN x k).map fun b=>[.v (.bool b)]))]⟩) (fun k=>m - k) 0 ?_ (by omega) ?_
 .refine (Z1.kc 5 901 4 1 rfl rfl).trans ?_;refine aU (Aq fw (Aq @eN.eq_1 (Aq @eN.eq_2 @js)))
 .intro k yA
  have nc:((eN x k).map fun b=>[D.v (.bool b)]).length=k:=by simp [aeo]
  have uW:eN x (k+1)=eN x k ++ [inB x k]:=rfl;have Hj:(nY .and .i64 (x.fdiv (2 ^ (min k IntKind.i64.bits))) 1 == 1)=inB x k:=rfl;generalize hbk:eN x k=B at nc uW ⊢;refine ZW fw [1,5,11,12,13] [25,800,901] ?_;refine ae fun K2 aa=>?_;refine dG (b:=k < m) (by simp [D.le,D.le.go,aB,ab]) (fun hc=>?_) (fun hc=>?_)
  .refine ah (aa _ ?_);refine ae fun K3 aQ=>?_;refine aR ?_;refine ZW fw [1,5,6,11,12] [25,800,901] ?_;refine aaG (ZZ _) fun K' af=>?_;(repeat (refine Z0 fun K2 aa=>?_;simp [ab,nc,List.take_of_length_le,shI,Hj];(repeat (refine ⟨by omega,?_⟩));refine aa _ ?_;clear aa K2));refine Z9 (af _ ?_);clear af K';refine aQ _ (AW.norm [1,5,11,12] [25,800,901] (cC rfl) (AW.st (by simp [ab,nc,List.take_of_length_le,shI,Hj];rfl) ?_));refine reQ fw ?_;(try simp only [aM,aP]);refine aV.mk (k+1) (by omega) (by omega) ?_;rw [uW];refine aU fw
  .obtain rfl:k=m:=by omega
   refine bH (ay _ ?_);rw [hbk];refine AW.imp (Z1.freeze 901 (by decide)) ?_;refine AW.st (by simp [ab,nc,List.take_of_length_le];rfl) ?_;refine ZW fw [4] [25,800] ?_;exact aK fw
theorem Wb {p:aF} {k:Nat} (h:k < p.names.length):(dJ p).take (k+1)=(dJ p).take k ++ [aan p p.names[k]]:=by
 have h':k < (dJ p).length:=by simpa [dJ] using h
 rw [List.take_succ_eq_append_getElem h'];simp [dJ]
set_option maxRecDepth 100000 in
set_option maxHeartbeats 16000000 in
theorem zU (G:ao) (hM:abJ G) (p:aF) (aY:aar p=none) (hk:∀ r∈p.ZY,j9 r):aw Tryz.prog G 61 [cN p] (gE (dJ p)):=by
 have hg:=gC aY;have ez:=hg.names
 have hed:=XT G hM p (by omega) (fun n hn e=>by
  have:=(hg.name n hn).1;rw [e] at this
  exact absurd this (by decide)) (by have:=hg.ZY;omega) (fun r hr=>by
  obtain ⟨e,he,_,_,hb⟩:=hk r hr
  exact ⟨e,he,by omega⟩)
 have jh:=xj p p.names.length;have hwm:=fun k (h:k < p.names.length)=>(r6 (p:=p) (x:=(k:Int)) (Nat.le_refl _))
 have PR:∀ k (h:k < p.names.length),((k:Int)∈cY p p.names.length)↔fh p p.names[k]=true:=fun k h=>by
  rw [hwm k h];constructor
  .rintro ⟨i,hi,_,he,ha⟩
   obtain rfl:k=i:=by omega
   exact ha
  .intro ha;exact ⟨k,h,h,rfl,ha⟩
 have vR:=fun k (h:k < p.names.length)=>Wb h
 have dN:(dJ p).length=p.names.length:=by simp [dJ]
 have iy:=hg.count;have hkn:=hg.name;generalize dJ p=RP at *;generalize cY p p.names.length=E at *;clear hwm;simp only [cN,cPw,bR,gE] at hed ⊢
 have hNl:(p.names.map Z3).length=p.names.length:=by simp
 have kG:∀ i (h:i < p.names.length),(p.names.map Z3)[i]? = some [.v (.string (bs p.names[i].name)),.v (.int .i64 p.names[i].kind),.v (.int .i64 p.names[i].count)]:=fun i h=>by simp [h,Z3,dS]
 generalize p.names.map Z3=NN at *;generalize p.ZY.map cZ=RR at *;refine aw.aD (ZZ _) Tryz.func61 rfl rfl (rs:=[.tmp 2]) Tryz.results61 (by simp [Tryz.ntmps61]) fun X=>?_;simp only [Tryz.ntmps61,List.map];refine aq [1] [1] ?_;refine dX 1 ?_;refine Z6 trivial hed [1,3] [] ?_;refine aq [1,3,4] [] ?_;refine ae fun K1 ay=>?_;refine aq [3,4,13,14,15] [] ?_;refine aam (S:=Nat) (fun k=>k<=p.names.length) (fun k=>⟨aX [(3,.d (.sl none (E.map fun x=>[.v (.int .i64 x)]))),(4,.own 905 0 k),(13,.d (.sl none NN)),(14,int NN.length),(15,int k)],ZX [(905,.sl 3 1 ((RP.take k).map fun x=>[.v (.int .i64 x)]))]⟩) (fun k=>p.names.length - k) 0 ?_ (by omega) ?_
 .refine (Z1.kc 4 905 3 1 rfl rfl).trans ?_;refine cw
 .intro k ie;have HF:=vR k
  have kH:((RP.take k).map fun x=>[D.v (.int .i64 x)]).length=k:=by simp;omega
  generalize O3:RP.take k=PT at HF kH ⊢;refine aq [3,4,13,14,15,16] [905] ?_;refine ae fun K2 aa=>?_;by_cases ax:k < p.names.length
  .have aaq:k < NN.length:=by omega
   have jy:(k:Int) < (NN.length:Int):=by omega
   refine ak (by simp<;>omega) ?_;refine ah (aa _ ?_);refine ae fun K3 aQ=>?_;refine aR ?_;have yM:=HF ax;have PS:=PR k ax;have eW:=iy _ (List.getElem_mem ax);have dB:=hkn _ (List.getElem_mem ax)
   have jS:NN[k]=[.v (.string (bs p.names[k].name)),.v (.int .i64 p.names[k].kind),.v (.int .i64 p.names[k].count)]:=by
    have:=kG k ax;rw [List.getElem?_eq_getElem aaq] at this;exact Option.some.inj this
   unfold aan at yM;generalize fh p p.names[k]=ev at *;generalize hnk:p.names[k]=nk at yM jS eW dB;obtain ⟨nm,kd,ct⟩:=nk;dsimp only at yM jS eW dB;have qf:=(Aq @aaq @jS);refine al [3,4,5,6,13,14,15] [905,6] ?_;refine dX 6 ?_;refine aq [3,4,5,6,7,13,14,15] [905] ?_;refine ae fun K4 bN=>?_;refine aR ?_;obtain ⟨v0,fJ⟩:∃ v0:Int,v0=if 3<=kd then ct+1 else if kd=2 then 2 else 0:=⟨_,rfl⟩
   have tl:∀ τ,St.norm [3,4,5,6,7,13,14,15] [905] τ=⟨aX [(3,.d (.sl none (E.map fun x=>[.v (.int .i64 x)]))),(4,.own 905 0 k),(5,int k),(6,.d (.ip [.v (.string (bs nm)),.v (.int .i64 kd),.v (.int .i64 ct)])),(7,int v0),(13,.d (.sl none NN)),(14,int NN.length),(15,int k)],ZX [(905,.sl 3 1 (PT.map fun x=>[.v (.int .i64 x)]))]⟩->K4 τ:=by
    intro τ e;refine bN τ (AW.norm [3,4,5,6,7,13,14,15] [905] (fun _ _=>trivial) (AW.st e ?_));clear e;refine ae fun K5 hK5=>?_;refine aq [3,4,5,6,7,13,14,15,31,32,33] [905] ?_;refine aam (S:=Nat) (fun j=>j<=E.length) (fun j=>⟨aX [(3,.d (.sl none (E.map fun x=>[.v (.int .i64 x)]))),(4,.own 905 0 k),(5,int k),(6,.d (.ip [.v (.string (bs nm)),.v (.int .i64 kd),.v (.int .i64 ct)])),(7,int (if kd=1/\(k:Int)∈E.take j then 2 else v0)),(13,.d (.sl none NN)),(14,int NN.length),(15,int k),(31,.d (.sl none (E.map fun x=>[.v (.int .i64 x)]))),(32,int E.length),(33,int j)],ZX [(905,.sl 3 1 (PT.map fun x=>[.v (.int .i64 x)]))]⟩) (fun j=>E.length - j) 0 ?_ (by omega) ?_
    .refine cw
    .intro j hj;generalize v7:(if kd=1/\(k:Int)∈E.take j then 2 else v0)=vj;refine aq [3,4,5,6,7,13,14,15,31,32,33,34] [905] ?_;refine ae fun K6 de=>?_;refine dG (b:=j < E.length) (by simp [D.le,D.le.go,aB]) (fun hc=>?_) (fun hc=>?_)
     .refine ah (de _ ?_);refine ae fun K7 dy=>?_;refine aR ?_;have cq:E.take (j+1)=E.take j ++ [E[j]]:=List.take_succ_eq_append_getElem hc;have qf:=@hc;refine al [3,4,5,6,7,9,13,14,15,31,32,33] [905] ?_
      have jz:(k:Int)∈E.take (j+1)↔(k:Int)∈E.take j\/(k:Int)=E[j]:=by rw [cq,List.mem_append,List.mem_singleton]
      by_cases hke:(k:Int)=E[j]
      .have Ho:=eq_true hke;by_cases k1:kd=1
       .have RB:=eq_true k1;have qf:=(Aq @Ho @RB);refine al [3,4,5,6,7,13,14,15,31,32,33,44] [905] ?_;refine ak rfl ?_;refine reK trivial dy [3,4,5,6,7,13,14,15,31,32,33] [905] ?_;refine cI ?_;(try simp only [aM,aP]);refine aV.mk (j+1) (by omega) (by omega) ?_;rw [if_pos ⟨k1,jz.2 (.inr hke)⟩];refine cw
       .have qf:=(Aq @Ho @k1);refine al [3,4,5,6,7,13,14,15,31,32,33,44] [905] ?_;refine ag (by simp [k1]) ?_;refine ah (dy _ ?_);refine cI ?_;(try simp only [aM,aP]);refine aV.mk (j+1) (by omega) (by omega) ?_;rw [if_neg (fun h=>k1 h.1)] at v7;rw [if_neg (fun h=>k1 h.1),v7];refine cw
      .have qf:=@hke;refine al [3,4,5,6,7,13,14,15,31,32,33,44] [905] ?_;refine ag (by simp [hke]) ?_;refine ah (dy _ ?_);refine cI ?_;(try simp only [aM,aP]);refine aV.mk (j+1) (by omega) (by omega) ?_;have nq:(kd=1/\(k:Int)∈E.take (j+1))=(kd=1/\(k:Int)∈E.take j):=propext (and_congr_right fun _=>jz.trans (or_iff_left hke));simp only [nq,v7];refine cw
     .obtain rfl:j=E.length:=by omega
      rw [List.take_of_length_le (Nat.le_refl _)] at v7;refine bH (hK5 _ ?_);refine aaG (ZZ _) fun K' af=>?_;(repeat (refine Z0 fun K2 aa=>?_;simp [kH,List.take_of_length_le];(repeat (refine ⟨by omega,?_⟩));refine aa _ ?_;clear aa K2));refine Z9 (af _ ?_);clear af K';refine aQ _ (AW.norm [3,4,13,14,15] [905] (fun _ _=>trivial) (AW.st (by simp [kH,List.take_of_length_le];rfl) ?_));refine cI ?_;(try simp only [aM,aP]);refine aV.mk (k+1) (by omega) (by omega) ?_
      have sX:vj=if 3<=kd then ct+1 else if kd=2 then 2 else if kd=1/\ev=true then 2 else 0:=by
       rw [<- v7,fJ];by_cases k3:3<=kd
       .rw [if_neg (by omega),if_pos k3,if_pos k3]
       .by_cases k2:kd=2
        .rw [if_neg (by omega),if_neg k3,if_pos k2,if_neg k3,if_pos k2]
        .rw [if_neg k3,if_neg k2,if_neg k3,if_neg k2];simp only [PS]
      rw [yM,<- sX];refine cw
   by_cases k3:3<=kd
   .rw [if_pos k3] at fJ;subst fJ;have fK:kd >= 3:=k3;have qf:=@fK;refine al [3,4,5,6,7,13,14,15,20] [905] ?_;refine ak (by simp<;>omega) ?_;refine aaG (ZZ _) fun K' af=>?_;(repeat (refine Z0 fun K2 aa=>?_;simp;(repeat (refine ⟨by omega,?_⟩));refine aa _ ?_;clear aa K2));refine Z9 (af _ ?_);clear af K';exact tl _ (by simp)
   .have fK:¬ kd >= 3:=k3;rw [if_neg k3] at fJ;have qf:=@fK;refine al [3,4,5,6,7,13,14,15,20] [905] ?_;refine ag (by simp<;>omega) ?_;by_cases k2:kd=2
    .rw [if_pos k2] at fJ;subst fJ;have RC:=eq_true k2;have qf:=@RC;refine al [3,4,5,6,7,13,14,15,27] [905] ?_;refine ak (by simp [k2]) ?_;refine aaG (ZZ _) fun K' af=>?_;(repeat (refine Z0 fun K2 aa=>?_;simp;(repeat (refine ⟨by omega,?_⟩));refine aa _ ?_;clear aa K2));refine Z9 (af _ ?_);clear af K';exact tl _ (by simp)
    .rw [if_neg k2] at fJ;subst fJ;have qf:=@k2;refine al [3,4,5,6,7,13,14,15,27] [905] ?_;refine ag (by simp [k2]) ?_;refine ah (tl _ (by simp))
  .have jy:¬ (k:Int) < (NN.length:Int):=by omega
   obtain rfl:k=p.names.length:=by omega
   have u7:PT=RP:=by rw [<- O3];exact List.take_of_length_le (by omega)
   subst u7;refine ag (by simp<;>omega) ?_;refine bH (ay _ ?_);refine AW.imp (Z1.freeze 905 trivial) ?_;refine AW.st (by simp [kH,List.take_of_length_le];rfl) ?_;refine aq [2] [] ?_;exact gm
end Go.Proofs.YtdigkhaofjmgkaaGreatDoor
