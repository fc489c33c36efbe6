/- Parts. -/
import Derived.Test.YtoohljflflnbeaaGreatDoorBo26
import Derived.Test.YtoohljflflnbeaaGreatDoorBo33
import Derived.Test.YtoohljflflnbeaaGreatDoorBo41
import Derived.Ground.Names8Prog
import Derived.Shelf.Spec.SlicesGrow
set_option linter.unusedSectionVars false
set_option linter.unusedSimpArgs false
set_option linter.unusedVariables false
set_option maxHeartbeats 64000000
set_option maxRecDepth 100000
open Go.Proofs.Tryz
namespace Go.Proofs
open Go.Shelf
def Tryz.W8:Go.Shelf.Ren:=⟨fun | 4=>240 | n=>n,fun | 22=>41 | 25=>3 | 3=>3 | 4=>4 | 9=>9 | 20=>20 | 0=>0 | n=>n,fun | n=>n⟩
theorem Tryz.W7:Go.Proofs.Lays8.n4 prog Tryz.W8:={
 mixed:=ah
 f4:=⟨Tryz.f240.name,bO,func240.trans aO⟩
 t0:=underlying0
 a0:=isAgg0
 z0:=sizeOf0
 v0:=zeroValue0
 t3:=underlying3
 a3:=isAgg3
 z3:=sizeOf3
 v3:=zeroValue3
 t4:=underlying4
 a4:=isAgg4
 z4:=sizeOf4
 v4:=zeroValue4
 t9:=underlying9
 a9:=isAgg9
 z9:=sizeOf9
 v9:=zeroValue9
 t20:=underlying20
 a20:=isAgg20
 z20:=sizeOf20
 v20:=zeroValue20
 t22:=underlying41
 a22:=isAgg41
 z22:=sizeOf41
 v22:=zeroValue41 }
end Go.Proofs
namespace Go.Proofs.YtoohljflflnbeaaGreatDoor
open Go.Av Go.Shelf Go.RowKit
theorem adM (n G:Nat) (h:n<=G):(([]:List Value).toArray ++ Builtin.zeroCells (Value.int .i64 0).cells (0+n - 0) ++ Builtin.zeroCells (Value.int .i64 0).cells (G - (0+n))).size=G:=by
 simp[size_zeroCells,Value.cells];omega
theorem W9 (G:aC) (n:Nat) (hn:n<=2^40):MC prog G [] 240 [.d (.sl (some false) []),.d (ab n)] (aw []) (.own 900 0 0) (aw [(900,.sl 3 1 [])]):=by
 refine⟨gS.of func240 rfl rfl,fun X w μ vs hs dz bg hv=>?_⟩
 obtain⟨a,b,rfl⟩:∃ a b,vs = #[a,b]:=by
  match vs,bg with
  | ⟨[a,b]⟩,_=>exact⟨a,b,rfl⟩
 obtain rfl:a = .slice none 0 0:=by
  rcases (hv 0 a _ rfl rfl).data.qT with⟨rfl,_⟩ | ⟨_,_,_,hk,_⟩
  .rfl
  .exact absurd rfl hk
 obtain rfl:b = .int .i64 n:=(hv 1 b _ rfl rfl).scalar;have hL:=Tryz.W7;have aS:In w X G μ ⟨0,[],none⟩ { tmps:=#[],defers:=[] } ⟨fun _=>none,aw []⟩:=⟨hs,⟨rfl,rfl,fun i x h=>by cases h⟩,dz⟩
 have hH:∀ row,aX (aw []) 900 row=aw [(900,row)]:=fun row=>by
  funext q;by_cases h:q=900
  .subst h;rfl
  .have hq:(q == 900)=false:=by simpa using h
   simp only[aX,if_neg h,aw,List.lookup,hq]
 by_cases h0:n=0
 .subst h0;refine (Any8.slices_Grow_room hL none 0 0 0 w aa aa aa aa).mono fun e w' ⟨he,hw⟩=>?_;subst hw;obtain⟨h1,ev⟩:=aS.alloc (Mv:=jh []) (w':=w') (m:=⟨none,1,0⟩) (d:=900) rfl (cR.refl _) ak (row:=.sl 3 1 []) fun _=>.nil rfl rfl;have h2:=h1.bu;dsimp only at h2;rw[hH]at h2;exact⟨_,_,_,_,he,⟨rfl,rfl⟩,.own (m:=⟨none,1,0⟩) (by simp[eB]) (.inl ⟨rfl,rfl,rfl,rfl⟩),h2,ev⟩
 .obtain⟨i0,hi,nW,zx,IZ⟩:=info_parts (P:=prog) (e:=3) (z:=.int .i64 0) (size:=1) (bytes:=8) ah;refine (Any8.slices_Grow_grow hL i0 (.int .i64 0) hi nW aa none 0 0 n [] w aa aa (by rw[IZ];omega) aa ak (fun _=>rfl) (fun a e=>by cases e)).mono fun e w' ⟨he,hw⟩=>?_
  have u0:n<=grownCap w (0+n) 0 3:=by have:=grownCap_ge w (0+n) 0 3;omega
  have hle:grownCap w (0+n) 0 3<=maxLen:=grownCap_le_maxLen w (0+n) 0 3 (by unfold maxLen;omega);have he:e = .returned (.slice (some ⟨w.heap.size,0,none⟩) 0 (grownCap w (0+n) 0 3)):=he;have hw:w'=w.drew.alloc (.cells (([]:List Value).toArray ++ Builtin.zeroCells (Value.int .i64 0).cells (0+n - 0) ++ Builtin.zeroCells (Value.int .i64 0).cells (grownCap w (0+n) 0 3 - (0+n))) 3):=hw;have bg:=adM n (grownCap w (0+n) 0 3) u0;generalize grownCap w (0+n) 0 3=C at he hw u0 hle bg;generalize (([]:List Value).toArray ++ Builtin.zeroCells (Value.int .i64 0).cells (0+n - 0) ++ Builtin.zeroCells (Value.int .i64 0).cells (C - (0+n)))=Z at hw bg;subst hw;have g1:=cR.drew w;have g2:=cR.alloc w.drew (.cells Z 3);have hg:cR w (w.drew.alloc (.cells Z 3)):=⟨ah5 g1.size g2.size,g2.os.trans g1.os,g2.tape.trans g1.tape,g2.output.trans g1.output,fun b hb=>(g2.same b (ag2 hb g1.size)).trans (g1.same b hb)⟩;have mB:(w.drew.alloc (.cells Z 3)).heap[w.heap.size]? = some (.cells Z 3 (0,0)):=heap_alloc_new w.drew _
  obtain⟨h1,ev⟩:=aS.alloc (Mv:=jh []) (w':=w.drew.alloc (.cells Z 3)) (m:=⟨some w.heap.size,1,C⟩) (d:=900) rfl hg (by rintro b h;injection h with h;omega) (row:=.sl 3 1 []) fun _=>
   .sl (b:=w.heap.size) rfl rfl mB (by simpa using bg) ak hle ak aa ak
  have h2:=h1.bu;dsimp only at h2;rw[hH]at h2;exact⟨_,_,_,_,he,⟨rfl,rfl⟩,.own (m:=⟨some w.heap.size,1,C⟩) (by simp[eB]) (.inr ⟨_,rfl,ak,ak⟩),h2,ev⟩
def dO (l:List Nat):List (List D):=l.map fun (n:Nat)=>[ab (n:Int)]
theorem yA (a b:List Nat):dO (a ++ b)=dO a ++ dO b:=by unfold dO;rw[agV]
def k7 {α:Type} (a b c:α):Nat->α
 | 0=>a
 | 1=>b
 | _=>c
theorem VO (G:aC) (a b:List Nat) (ha:a.length<=2^30) (hb:b.length<=2^30):aD prog G 181 [.sl none [[.sl none (dO a)],[.sl none (dO b)]]] (.sl none (dO (a ++ b))):=by
 rw[yA];have Xi:(∀ el∈dO a,el.length=1)=True:=eq_true (by simp[dO]);have MQ:(∀ el∈dO b,el.length=1)=True:=eq_true (by simp[dO]);have D0:(∀ el∈dO a,∀ c∈el,c.one=true)=True:=eq_true (by simp[dO,ab,D.one]);have MR:(∀ el∈dO b,∀ c∈el,c.one=true)=True:=eq_true (by simp[dO,ab,D.one])
 have AP:(dO a).length<=2^30:=by simpa[dO]using ha
 have lE:(dO b).length<=2^30:=by simpa[dO]using hb
 generalize dO a=A at *;generalize dO b=B at *;have fC:=W9 G (A.length+B.length) aa;simp only[ab]at fC;refine aD.aQ (aB _) func181 rfl rfl (rs:=[.tmp 2]) results181 (by simp[ntmps181]) fun X=>?_;simp only[ntmps181,List.map];have fw:=@aih;refine ae fw [0] [] ?_;refine ae fw [0,3] [] ?_;refine ag fun K1 aF=>ae fw [0,3,9,10,11] [] ?_;refine cy (S:=Nat) (fun n=>n<=2) (fun n=>⟨bn [(0,.d (.sl none [[.sl none A],[.sl none B]])),(3,int (k7 0 (A.length:Int) ((A.length:Int)+B.length) n)),(9,.d (.sl none [[.sl none A],[.sl none B]])),(10,int 2),(11,int n)],aw []⟩) (fun n=>2 - n) 0 ?_ aa ?_
 .refine aK.fk aN (by simp[ab,k7]) (by simp[ab,k7])
 .intro n hn
  rcases (by omega:n=0\/n=1\/n=2)with rfl | rfl | rfl
  .simp only[k7];refine ae fw [0,3,9,10,11,12] [] ?_;refine ag fun K2 au=>aI ?_;refine ar (au _ (ag fun K3 aU=>bd (ae fw [0,3,5,9,10,11] [] ?_)));refine ae fw [0,3,9,10,11] [] ?_;refine ae fw [0,3,9,10,11,20] [] ?_;refine al (ar (aU _ ?_));refine cE fw ?_;(try simp only[aT,aV]);refine ba.mk 1 aa aa ?_;refine aK.fk aN (by simp[ab,k7]) (by simp[ab,k7])
  .simp only[k7];refine ae fw [0,3,9,10,11,12] [] ?_;refine ag fun K2 au=>aI ?_;refine ar (au _ (ag fun K3 aU=>bd (ae fw [0,3,5,9,10,11] [] ?_)));refine ae fw [0,3,9,10,11] [] ?_;refine ae fw [0,3,9,10,11,20] [] ?_;refine al (ar (aU _ ?_));refine cE fw ?_;(try simp only[aT,aV]);refine ba.mk 2 aa aa ?_;refine aK.fk aN (by simp[ab,k7]) (by simp[ab,k7])
  .simp only[k7];refine ae fw [0,3,9,10,11,12] [] ?_;refine ag fun K2 au=>al ?_;refine bW (aF _ (bD fw fC [0,6] [900] ?_));refine ag fun K4 ck=>?_;refine ae fw [6,25,26,27] [900] ?_;refine cy (S:=Nat) (fun n=>n<=2) (fun n=>⟨bn [(6,.own 900 0 (k7 0 A.length (A.length+B.length) n)),(25,.d (.sl none [[.sl none A],[.sl none B]])),(26,int 2),(27,int n)],aw [(900,.sl 3 1 (k7 [] A (A ++ B) n))]⟩) (fun n=>2 - n) 0 ?_ aa ?_
   .refine aK.fk aN (by simp[ab,k7]) (by simp[ab,k7])
   .intro n hn
    rcases (by omega:n=0\/n=1\/n=2)with rfl | rfl | rfl
    .simp only[k7];refine ae fw [6,25,26,27,28] [900] ?_;refine ag fun K5 b9=>aI ?_;refine ar (b9 _ (ag fun K6 eH=>bd (ae fw [6,8,25,26,27] [900] ?_)));have qf:=(Aq fw (Aq @Xi @D0));refine eJ eH [6,25,26,27] [900] ?_;refine cE fw ?_;(try simp only[aT,aV]);refine ba.mk 1 aa aa ?_;refine aK.fk aN (by simp[ab,k7]) (by simp[ab,k7])
    .simp only[k7];refine ae fw [6,25,26,27,28] [900] ?_;refine ag fun K5 b9=>aI ?_;refine ar (b9 _ (ag fun K6 eH=>bd (ae fw [6,8,25,26,27] [900] ?_)));refine eU (aB _) fun K' ao=>?_;(repeat refine aM fun Kq af=>?_;simp[ab,MQ,MR,sh];(repeat refine⟨aa,?_⟩);refine af _ ?_);refine bK (ao _ ?_);refine eH _ (AW.norm [6,25,26,27] [900] aN (AW.st (by simp[ab,MQ,MR,sh];rfl) ?_));refine cE fw ?_;(try simp only[aT,aV]);refine ba.mk 2 aa aa ?_;refine aK.fk aN (by simp[ab,k7]) (by simp[ab,k7])
    .simp only[k7];refine ae fw [6,25,26,27,28] [900] ?_;refine ag fun K5 b9=>al ?_;refine bW (ck _ (AW.imp (aK.freeze 900 trivial) ?_));refine AW.st (by simp[ab];rfl) ?_;refine ae fw [2] [] ?_;exact aW fw
end Go.Proofs.YtoohljflflnbeaaGreatDoor
namespace Go.Proofs.YtoohljflflnbeaaGreatDoor
open Go.Av
theorem Sy {P:Program} {Mv X:Nat->Prop} {G:aC} {n s:Nat} {x y:Code} {Q:Exit->St->Prop} {σ:St} (h:∀ K:St->Prop,(∀ aJ,fT P Mv X G n s y Q aJ->K aJ)->∀ X' ds,AW P Mv X' G ⟨n,ds,none⟩ x (aT K Q) σ):fT P Mv X G n s (.seq x y) Q σ:=
 C6 (C5 (h _ fun _ h=>h))
theorem Sz {P:Program} {Mv X:Nat->Prop} {G:aC} {n s:Nat} {x y:Code} {Q:Exit->St->Prop} {σ:St} (h:∀ K:St->Prop,(∀ aJ,fT P Mv X G n s y Q aJ->K aJ)->fT P Mv X G n s x (aT K Q) σ):fT P Mv X G n s (.seq x y) Q σ:=
 C6 (h _ fun _ h=>h)
theorem adn {P:Program} {Mv X:Nat->Prop} {G:aC} {N:Fr} {x y:Code} {Q:Exit->St->Prop} {σ:St} (h:∀ K:St->Prop,(∀ aJ,AW P Mv X G N y Q aJ->K aJ)->AW P Mv X G N x (aT K (fun _ _=>False)) σ):AW P Mv X G N x (aT (AW P Mv X G N y Q) (fun _ _=>False)) σ:=
 h _ fun _ h=>h
section
variable {P:Program} {X:Nat->Prop} {G:aC} {n s:Nat} {σ τ iz:St} {p:Prop}
theorem fT.norm (l ns:List Nat) {c:Code} {Q:Exit->St->Prop} (h:fT P (fun _=>True) X G n s c Q (σ.norm l ns)):fT P (fun _=>True) X G n s c Q σ:=fT.imp (fun X' ds=>aK.norm l ns fun _ _=>trivial) h
theorem fT.st {c:Code} {Q:Exit->St->Prop} (h:σ=τ) (h':fT P (fun _=>True) X G n s c Q τ):fT P (fun _=>True) X G n s c Q σ:=h ▸ h'
theorem FL (q:p) (l ns:List Nat) {id:Nat} {ops:Array Oper} {y:Code} {Q:Exit->St->Prop} (k:fT P (fun _=>True) X G n s y Q iz)
  (h:p->∀ (X':Nat->Prop) (ds:List Deferred) (K':St->Prop),K' τ->ku P (cF P) (fun _=>True) X' G ⟨n,ds,none⟩ ops K' ops.toList σ:=by
   intro q X' ds K' ao;repeat (refine aM fun Kq af=>?_;simp[q];(repeat refine⟨aa,?_⟩);refine af _ ?_)
   exact bK ao)
  (hn:p->τ.norm l ns=iz:=by intro q;simp[q];rfl):fT P (fun _=>True) X G n s (.seq (.region id ops false) y) Q σ:=
 C6 (C5 fun X' ds=>eU (aB _) fun K hK=>h q X' ds K (hK _ (fT.norm l ns (hn q ▸ k))))
theorem adC (q:p) {fx:List Nat} {g:FuncId} {xs:List AV} {cq fR:List (Nat×Row)} {yv:AV} (hc:MC P G fx g xs (aw cq) yv (aw fR)) (l ns:List Nat) {id:Nat} {ops:Array Oper} {y:Code} {Q:Exit->St->Prop} (k:fT P (fun _=>True) X G n s y Q iz)
  (h:p->MC P G fx g xs (aw cq) yv (aw fR)->∀ (X':Nat->Prop) (ds:List Deferred) (K':St->Prop),K' τ->ku P (cF P) (fun _=>True) X' G ⟨n,ds,none⟩ ops K' ops.toList σ:=by
   intro q hc X' ds K' ao;(repeat refine aM fun Kq af=>?_;simp[q];(repeat refine⟨aa,?_⟩);refine af _ ?_);refine aM fun Kq af=>?_;simp[q];refine dT.mc hc (by simp[q]) (by simp[q]) (by simp[q]) (by simp[q]) ?_;simp[q];refine af _ ?_;repeat (refine aM fun Kq af=>?_;simp[q];(repeat refine⟨aa,?_⟩);refine af _ ?_)
   exact bK ao)
  (hn:p->τ.norm l ns=iz:=by intro q;simp[q];rfl):fT P (fun _=>True) X G n s (.seq (.region id ops false) y) Q σ:=
 C6 (C5 fun X' ds=>eU (aB _) fun K hK=>h q hc X' ds K (hK _ (fT.norm l ns (hn q ▸ k))))
end
def sA:D:=.sl (some false) []
def vz (NN RR NA RA:List (List D)) (pl:Int):Heap:=aw [(2,.box 28 [.d sA,.d sA]),(3,.box 30 [.d (.v .nilIface)]),(4,.box 28 [.own 801 0 NN.length,.own 802 0 RR.length]),(5,.box 41 [.own 803 0 NA.length]),(6,.box 41 [.own 804 0 RA.length]),(7,.box 3 [int pl]),(801,.sl 78 3 NN),(802,.sl 153 3 RR),(803,.sl 3 1 NA),(804,.sl 3 1 RA)]
theorem V3 (c:Option Ex):(dC c).one=true:=by
 cases c with
 | none=>rfl
 | some e=>obtain⟨a,b,h⟩:=kJ e;rw[dC,h];rfl
theorem ME (l:List Nat) (i:Nat) (h:i < l.length):(dO l)[i]? = some [ab ((l.getD i 0:Nat):Int)]:=by
 rw[agw];unfold dO;simp[h]
theorem LU {p:aP} {c:Int} {i:Nat} (h:dr p=some (c,some i)):i < p.names.length+p.ax.length:=by
 unfold dr at h;split at h
 .cases h
 .split at h
  .rename_i e k hf;have:=AK hf;simp only[IT,agA]at h;omega
  .split at h
   .rename_i e k hf;have:=AK hf;simp only[IT,agA]at h;omega
   .cases h
theorem Rf {k:Int} {nm hd rest:Tx} {c:Int} {off:Nat} (h:mN k nm hd rest = .bad c off):off<=hd.length+1+rest.length:=by
 unfold mN at h;split at h
 .rename_i c' o hp;simp only[ra.bad.injEq]at h
  cases o with
  | none=>simp at h;omega
  | some o=>
   have:=Cr hp;simp at h;omega
 .cases h
theorem aa8 {s:Tx} {c:Int} {off:Nat} (h:gO s = .bad c off):off<=2 * s.length+1:=by
 have hle:=Dw 61 s
 have nb:∀ l,lq l≠.bad c off:=fun l=>by
  match l with
  | []=>simp[lq]
  | [a]=>simp[lq,gE]
  | [a,b]=>simp only[lq,gE];split<;>simp
  | [a,b,c]=>simp only[lq,gE];split<;>(try split)<;>simp
  | a :: b :: c :: d :: l=>simp[lq,gE]
 unfold gO at h;split at h
 .have h2:off<=(cutAt 61 s).1.length+1+(cutAt 61 s).2.length:=by
   match hw:iw (cutAt 61 s).1,h with
   | [a],h=>exact Rf h
   | [a,b],h=>
    simp only[qj]at h;split at h
    .cases h
    .exact Rf h
  omega
 .exact absurd h (nb _)
theorem su:(⟨#[]⟩:ByteArray)=bs []:=rfl
theorem sv:(⟨#[32]⟩:ByteArray)=bs [32]:=rfl
theorem aiM:type_of% (Aq @fH.eq_1 (Aq @fW.eq_1 (Aq @aix (Aq @fq.eq_1 (Aq @air (Aq @ais @ait)))))):=(Aq @fH.eq_1 (Aq @fW.eq_1 (Aq @aix (Aq @fq.eq_1 (Aq @air (Aq @ais @ait))))))
theorem abd (G:aC) (hM:j3 G) (hP:rQ G) (hG:qm G) {es er:Value} (hE:sQ G es er) (t:Tx):aD prog G 105 [dS t] (.bx [fH (jB t).2,bB (jB t).1]):=by
 refine aD.abW (aB _) func105 rfl rfl (rs:=[.cell 2 28,.cell 3 30]) results105 (by simp[ntmps105]) fun X s0=>?_;simp only[ntmps105,List.map];have fw:=aiR;refine FL fw [0,2,3] [2,3] ?_;refine Sy fun K1 aF X' ds=>?_;by_cases ht:20000 < t.length
 .have ll:(t.length:Int) > 20000:=aa
  have hp:jB t=(some (4,none),⟨[],[]⟩):=by unfold jB;rw[if_pos ht]
  have qf:=(Aq fw (Aq @bQ @ll));refine ay [0,2,3,19] [2,3] ?_;refine cm (by simp[ll]) (ae fw [2,3] [2,3] ?_);exact aW (Aq fw (Aq @hp aiM))
 have ll:¬ (t.length:Int) > 20000:=aa
 have Oi:=adX G t;have qf:=(Aq fw (Aq @bQ @ll));refine ay [0,2,3,19] [2,3] ?_;refine cw (by simp[ll]) (ar (aF _ ?_));refine FL fw [0,2,3,4] [2,3,4] ?_;refine FL fw [0,2,3,4,5,6] [2,3,4,5,6] ?_;refine FL fw [0,2,3,4,5,6,7] [2,3,4,5,6,7] ?_;refine Sz fun K5 b9=>?_;refine fT.imp (fun X' ds=>aK.o7 4 0 801 78 3 rfl rfl rfl) ?_;refine fT.st bA ?_;refine fT.imp (fun X' ds=>aK.o7 4 1 802 153 3 rfl rfl rfl) ?_;refine fT.st bA ?_;refine fT.imp (fun X' ds=>aK.o7 5 0 803 3 1 rfl rfl rfl) ?_;refine fT.st bA ?_;refine fT.imp (fun X' ds=>aK.o7 6 0 804 3 1 rfl rfl rfl) ?_;refine fT.st bA ?_;simp only[xZ,CH,dS,ab]at Oi;refine adC (Aq @Pm fw) Oi [2,3,4,5,6,7,23] [2,3,4,5,6,7,511,512,513,801,802,803,804] ?_;refine Sv ?_;obtain⟨l,hl⟩:∃ l,l=eV 10 t:=⟨_,rfl⟩;have H7:=Dx 10 t;rw[<- hl]at H7
 obtain⟨inv,YS⟩:∃ f:Nat->Heap,f=fun k=>match gn l k with
  | .inl _=>jc
  | .inr s=>vz (s.names.map bo) (s.ax.map c8) (dO s.jz) (dO s.jD) (jC l k):=⟨_,rfl⟩
 have hinv:∀ k s,gn l k = .inr s->inv k=vz (s.names.map bo) (s.ax.map c8) (dO s.jz) (dO s.jD) (jC l k):=fun k s h=>by rw[YS];dsimp only;rw[h]
 refine Sw (l.map fun s=>.string (bs s)) [511,512,513] [2,3,4,5,6,7] (bn [(2,.ref 2 0 0),(3,.ref 3 0 0),(4,.ref 4 0 0),(5,.ref 5 0 0),(6,.ref 6 0 0),(7,.ref 7 0 0)]) inv (fun k=>∃ s,gn l k = .inr s) ⟨pF,rfl⟩ (gf:=284) (caps:=[.ref 512 0 0,.ref 511 0 0,.ref 513 0 0]) ak (gS.of func284 rfl rfl) bO ?hIt ?he1 ?hH aN ?hfx ?round ?done
 case hIt=>
  intro w X μ lb hs dz bg u6;rw[hl];refine adH G hM t aa w X μ lb ?_ dz bg ?_
  .simpa[xZ,dS,ab]using hs
  .intro i u x hu hx;have h:=u6 i u x hu hx
   match i,hx with
   | 0,hx=>obtain rfl:=AI hx;exact h
   | 1,hx=>obtain rfl:=AI hx;exact h
   | 2,hx=>obtain rfl:=AI hx;exact h
 case he1=>
  intro i x hx;have h:=Js hx;simp only[agK,List.not_mem_nil,or_false,agA]at h
  rcases h with⟨rfl,rfl⟩ | ⟨rfl,rfl⟩ | ⟨rfl,rfl⟩ | ⟨rfl,rfl⟩ | ⟨rfl,rfl⟩ | ⟨rfl,rfl⟩<;>exact⟨rfl,_,rfl,rfl⟩
 case hH=>
  rw[hinv 0 pF rfl];simp[vz,pF,dO,acm,sA]
  try rfl
 case hfx=>
  intro q h;simp at h ⊢;omega
 case done=>
  rintro⟨s,hs⟩;rw[ag5]at hs ⊢;have eI:=J0 (s:=s) aa (hl ▸ hs);have cz:=Cy (t:=t) aa (agD _) (hl ▸ hs);have zo:=Qq cz (by rw[<- hl];omega);have jS:=O0 G ⟨s.names,s.ax⟩ zo;rw[hinv _ _ hs];refine b9 _ (C5 fun X' ds=>?_);obtain⟨fN,eY,fy,_,_⟩:=cz;rw[<- hl]at fy
  have It:∀ c i,dr ⟨s.names,s.ax⟩=some (c,some i)->i < (s.jz ++ s.jD).length:=fun c i h=>by have:=LU h;simp at this ⊢;omega
  unfold vz;refine AW.imp (aK.freeze 801 trivial) ?_;refine AW.st (by simp[ab,dS];rfl) ?_;refine AW.imp (aK.freeze 802 trivial) ?_;refine AW.st (by simp[ab,dS];rfl) ?_;refine AW.imp (aK.freeze 803 trivial) ?_;refine AW.st (by simp[ab,dS];rfl) ?_;refine AW.imp (aK.freeze 804 trivial) ?_;refine AW.st (by simp[ab,dS];rfl) ?_;have cG:=VO G s.jz s.jD aa aa;have ka:=fun i h=>ME (s.jz ++ s.jD) i h;simp only[fH,fW,cj,fq]at jS;generalize uW:s.names.map bo=NN at jS ⊢;generalize tD:s.ax.map c8=RR at jS ⊢;generalize dO s.jz=NA at cG ⊢;generalize dO s.jD=RA at cG ⊢;generalize dO (s.jz ++ s.jD)=CC at cG ka
  cases aZ:dr ⟨s.names,s.ax⟩ with
  | none=>
   rw[aZ]at jS eI;simp only[bB]at jS;refine br fw jS [2,3,4,5,6,14] [2,3,4,5,6,7] ?_;refine ag fun K7 eL=>ae (Aq fw aiH) [2,3,4,5,6,14,15,16] [2,3,4,5,6,7] ?_;refine ae fw [2,3,4,5,6,14,15,108] [2,3,4,5,6,7] ?_;refine al (ar (eL _ ?_));refine ag fun K8 fA=>ae fw [2,3,4,14,127] [2,3,4,5,6,7] ?_;refine al (ar (fA _ ?_));refine ae fw [2,3] [2,3,4,5,6,7] ?_;exact aW (Aq fw (Aq @eI (Aq @fH.eq_1 (Aq @fW.eq_1 (Aq @aix (Aq @fq.eq_1 (Aq @air (Aq @ais (Aq @ait (Aq @uW @tD))))))))))
  | some ci=>
   obtain⟨c,i⟩:=ci;rw[aZ]at jS eI
   cases i with
   | none=>
    simp only[bB]at jS;refine br fw jS [2,3,4,5,6,14] [2,3,4,5,6,7] ?_;refine ag fun K7 eL=>ae (Aq fw aiH) [2,3,4,5,6,14,15,16] [2,3,4,5,6,7] ?_;refine ae fw [2,3,4,5,6,14,15,108] [2,3,4,5,6,7] ?_;refine al (ar (eL _ ?_));refine ag fun K8 fA=>ae fw [2,3,4,14,127] [2,3,4,5,6,7] ?_;refine aI (ae fw [2,3] [2,3,4,5,6,7] ?_);exact aW (Aq fw (Aq @eI aiM))
   | some i=>
    have hi:=It c i aZ;have u1:=ka i hi;dsimp only at eI;obtain⟨dD,nN⟩:=BY.1 u1;simp only[bB]at jS;simp only[ab]at nN;clear u1;generalize (s.jz ++ s.jD).getD i 0=pl at nN eI;refine br fw jS [2,3,4,5,6,14] [2,3,4,5,6,7] ?_;refine ag fun K7 eL=>ae (Aq fw aiH) [2,3,4,5,6,14,15,16] [2,3,4,5,6,7] ?_;refine ae fw [2,3,4,5,6,14,15,108] [2,3,4,5,6,7] ?_;refine aI (SD (aB _) ah ([6,15]) (List.range 18) ah fun K' ao=>?_);(repeat refine uB rfl fun K2 au=>?_;simp[ab,dS,dD,nN];(repeat refine⟨aa,?_⟩);refine au _ ?_;clear au K2);refine uB rfl fun K2 au=>?_;simp[ab,dS,dD,nN];refine qt.mk (cG) bA bA (by first | exact D.bJ _ | simp[aL,agF,agy,D.le,D.le.go,D.le_refl,D.bJ,ab,dS,dD,nN]) ak ?_;refine au _ ?_;clear au K2;simp only[aR,dY];(repeat refine uB rfl fun K2 au=>?_;simp[ab,dS,dD,nN];(repeat refine⟨aa,?_⟩);refine au _ ?_;clear au K2);refine x6 (ao _ ?_);refine eL _ (AW.norm [2,3,4,14] [2,3,4,5,6,7] aN (AW.st (by simp[ab,dS,dD,nN];rfl) ?_));refine ag fun K8 fA=>ae fw [2,3,4,14,127] [2,3,4,5,6,7] ?_;refine aI (ae fw [2,3] [2,3,4,5,6,7] ?_);exact aW (Aq fw (Aq @eI aiM))
 case round=>
  rintro X' L k hk ⟨s,hs⟩
  have gh:k < l.length:=by simpa using hk
  obtain⟨ln,pn⟩:∃ ln,ln=l[k]:=⟨_,rfl⟩;rw[hinv k s hs,show (l.map fun s=>Value.string (bs s))[k] = .string (bs ln) by simp[pn]]
  have Zw:jC l k+ln.length<=t.length:=by rw[pn];subst hl;exact J5 gh
  have fg:(jC l (k+1):Int)=(jC l k:Int)+((ln.length:Int)+1):=by rw[J6 gh,<- pn];omega
  have cz:=Cy (t:=t) aa (Nat.le_of_lt (hl ▸ gh)) (hl ▸ hs);have eX:∀ s',ly s (jC l k) ln = .inr s'->gn l (k+1) = .inr s':=fun s' h=>Qm gh hs (pn ▸ h);have kU:∀ c i,ly s (jC l k) ln = .inl (c,i)->jB t=(some (c,some i),⟨[],[]⟩):=fun c i h=>JZ aa (hl ▸ Ql gh hs (pn ▸ h));obtain⟨fN,eY,fy,_,_⟩:=cz;have lp:=aey G ln aa;have On:=aeB ln;have Zb:=fun h=>aa9 G hM hP hG hE ln aa h;generalize zk:jC l k=pk at *
  have yS:(s.names.map bo).length=s.names.length:=ak
  have XN:(s.ax.map c8).length=s.ax.length:=ak
  have XG:(dO s.jz).length=s.names.length:=by simp[dO,fN]
  have wH:(dO s.jD).length=s.ax.length:=by simp[dO,eY]
  generalize uW:s.names.map bo=NN at *;generalize tD:s.ax.map c8=RR at *;generalize yT:dO s.jz=NA at *;generalize yV:dO s.jD=RA at *;unfold vz;refine AW.st bA ?_;refine adn fun K7 eL=>?_;refine gH fw eL [2,3,4,5,6,7,8] [2,3,4,5,6,7,801,802,803,804] ?_;refine bd (ag fun K8 fA=>?_);simp only[dS]at lp;by_cases h0:iw ln=[]
  .have hz:=On.2 h0;rw[hz]at lp
   have dP:ly s pk ln = .inr s:=by unfold ly;rw[if_pos h0]
   have hn:=eX _ dP;refine rg [2,3,4,5,6,7,8,27] [2,3,4,5,6,7,801,802,803,804] (eh rfl) fun K' ao=>?_;(repeat refine aM fun Kq af=>?_;simp[ab,dS,su,sv,bf,bt];(repeat refine⟨aa,?_⟩);refine af _ ?_);refine aM fun Kq af=>?_;simp[ab,dS,su,sv,bf,bt];refine dT.data (lp) bA (by first | exact D.bJ _ | simp[aL,agF,agy,D.le,D.le.go,D.le_refl,D.bJ,ab,dS,su,sv,bf,bt]) ?_;refine af _ ?_;simp only[aR,dY];(repeat refine aM fun Kq af=>?_;simp[ab,dS,su,sv,bf,bt];(repeat refine⟨aa,?_⟩);refine af _ ?_);refine bK (ao _ (AW.st (by simp[ab,dS,su,sv,bf,bt];rfl) ?_));refine al (ar (fA _ ?_));have qf:=(Aq fw @bQ);refine CB ?_;(try simp only[aT,aV]);refine And.intro ⟨s,hn⟩ ?_;rw[hinv _ _ hn,fg,uW,tD,yT,yV];unfold vz;refine (show aK _ _ _ _ _ ⟨bn [],aw _⟩ from ?_);refine bq (Aq fw @fg)
  have hz:Lib.trimB ln 32≠[]:=fun h=>h0 (On.1 h)
  have gl:ly s pk ln=match gO ln with
   | .form=>.inl (3,pk)
   | .bad c off=>.inl (c,pk+off)
   | .name n=>if s.ax=[] then .inr ⟨s.names ++ [n],s.jz ++ [pk],s.ax,s.jD⟩ else .inl (3,pk)
   | .pH r=>.inr ⟨s.names,s.jz,s.ax ++ [r],s.jD ++ [pk]⟩:=by unfold ly;rw[if_neg h0];cases gO ln<;>rfl
  have l4:=Zb h0;simp only[dS]at l4;generalize Lib.trimB ln 32=tz at lp hz;refine rg [2,3,4,5,6,7,8,27] [2,3,4,5,6,7,801,802,803,804] (eh rfl) fun K' ao=>?_;(repeat refine aM fun Kq af=>?_;simp[ab,dS,su,sv,bf,bt,hz];(repeat refine⟨aa,?_⟩);refine af _ ?_);refine aM fun Kq af=>?_;simp[ab,dS,su,sv,bf,bt,hz];refine dT.data (lp) bA (by first | exact D.bJ _ | simp[aL,agF,agy,D.le,D.le.go,D.le_refl,D.bJ,ab,dS,su,sv,bf,bt,hz]) ?_;refine af _ ?_;simp only[aR,dY];(repeat refine aM fun Kq af=>?_;simp[ab,dS,su,sv,bf,bt,hz];(repeat refine⟨aa,?_⟩);refine af _ ?_);refine bK (ao _ (AW.st (by simp[ab,dS,su,sv,bf,bt,hz];rfl) ?_));refine cm (by simp[hz]) ?_;have ze:=fun c off=>aa8 (s:=ln) (c:=c) (off:=off)
  cases Bz:gO ln with
  | form=>
   rw[Bz]at l4 gl;dsimp only at gl;simp only[da]at l4;have hp:=kU _ _ gl;refine br fw l4 [2,3,4,5,6,7,8,9,10,11] [2,3,4,5,6,7,801,802,803,804] ?_;refine ag fun K9 jt=>ae (Aq fw aiH) [2,3,4,5,6,7,8,9,10,11,12,13] [2,3,4,5,6,7,801,802,803,804] ?_;refine ae fw [2,3,4,5,6,7,8,9,10,11,12,39] [2,3,4,5,6,7,801,802,803,804] ?_;refine al (ar (jt _ ?_));refine bd (ag fun ot e7=>?_);refine ae fw [2,3,4,5,6,7,8,9,10,66] [2,3,4,5,6,7,801,802,803,804] ?_;refine aI (ar (e7 _ ?_));refine aI (Gb (aB _) ah ([3]) ([(1,7),(5,2),(6,3)]) (List.range 7) [2,3] [2,3,4,5,6,7,801,802,803,804] (eh rfl) ah fun K' ao=>?_);(repeat refine KD rfl fun K2 au=>?_;simp[ab,dS];(repeat refine⟨aa,?_⟩);refine au _ ?_;clear au K2);refine KE (ao _ ?_);refine AW.st (by simp[ab,dS];rfl) ?_;refine bR (Exists.intro _ (And.intro (aK.env (by intro i x h;cases h)) ?_));simp[D.le,D.le.go,aL,hp,fH,fW,cj,fq,bB,sA,ab]
  | bad c off=>
   rw[Bz]at l4 gl;dsimp only at gl;simp only[da]at l4;have hp:=kU _ _ gl;have ho:=ze c off Bz
   have cX:((pk+off:Nat):Int)=(pk:Int)+(off:Int):=aa
   refine br fw l4 [2,3,4,5,6,7,8,9,10,11] [2,3,4,5,6,7,801,802,803,804] ?_;refine ag fun K9 jt=>ae (Aq fw aiH) [2,3,4,5,6,7,8,9,10,11,12,13] [2,3,4,5,6,7,801,802,803,804] ?_;refine ae fw [2,3,4,5,6,7,8,9,10,11,12,39] [2,3,4,5,6,7,801,802,803,804] ?_;refine aI (Gb (aB _) ah ([12]) ([(4,999),(5,7),(9,999),(14,2),(15,3)]) (List.range 16) [2,3] [2,3,4,5,6,7,801,802,803,804] (eh rfl) ah fun K' ao=>?_);(repeat refine KD rfl fun K2 au=>?_;simp[ab,dS];(repeat refine⟨aa,?_⟩);refine au _ ?_;clear au K2);refine KE (ao _ ?_);refine AW.st (by simp[ab,dS];rfl) ?_;refine bR (Exists.intro _ (And.intro (aK.env (by intro i x h;cases h)) ?_));simp[D.le,D.le.go,aL,hp,fH,fW,cj,fq,bB,sA,ab,cX]
  | name n=>
   rw[Bz]at l4 gl;dsimp only at gl;simp only[da]at l4;have iO:bo n=[.v (.string (bs n.name)),.v (.int .i64 n.kind),.v (.int .i64 n.count)]:=rfl
   have M7:(s.names ++ [n]).map bo=NN ++ [bo n]:=by rw[agV,uW];rfl
   have yQ:dO (s.jz ++ [pk])=NA ++ [[.v (.int .i64 pk)]]:=by rw[<- yT];unfold dO;rw[agV];rfl
   generalize bs n.name=nm at iO;generalize n.kind=kd at iO;generalize n.count=ct at iO;rw[iO]at l4 M7;refine br fw l4 [2,3,4,5,6,7,8,9,10,11] [2,3,4,5,6,7,801,802,803,804] ?_;refine ag fun K9 jt=>ae (Aq fw aiH) [2,3,4,5,6,7,8,9,10,11,12,13] [2,3,4,5,6,7,801,802,803,804] ?_;refine ae fw [2,3,4,5,6,7,8,9,10,11,12,39] [2,3,4,5,6,7,801,802,803,804] ?_;refine al (ar (jt _ ?_));refine bd (ag fun ot e7=>?_);refine ae fw [2,3,4,5,6,7,8,9,10,66] [2,3,4,5,6,7,801,802,803,804] ?_;refine al ?_;by_cases mF:s.ax=[]
   .rw[if_pos mF]at gl;have hn:=eX _ gl;have px:RA=[]:=ahV.1 (by rw[wH,mF];rfl);subst px;refine gH fw e7 [2,3,4,5,6,7,8,9,10,66] [2,3,4,5,6,7,801,802,803,804] ?_;refine al (ae fw [2,3,4,5,6,7,8,9,10,81] [2,3,4,5,6,7,801,802,803,804] ?_);refine al (sM (aB _) ah ([(6,(801,59)),(10,(803,63))]) ([(7,[801]),(8,[801]),(9,[801]),(11,[803])]) ([0,1,2,3,4,7,8,5,9,6,11,10,12,13]) ah fun K' ao=>?_);(repeat refine qV rfl fun K2 au=>?_;simp[ab,dS,sh];(repeat refine⟨aa,?_⟩);refine au _ ?_;clear au K2);refine sI (ao _ ?_);refine fA _ (AW.norm [2,3,4,5,6,7,8] [2,3,4,5,6,7,801,802,803,804] (eh rfl) (AW.st (by simp[ab,dS,sh];rfl) ?_));have qf:=(Aq fw @bQ);refine CB ?_;(try simp only[aT,aV]);refine And.intro ⟨_,hn⟩ ?_;rw[hinv _ _ hn,fg];dsimp only;rw[M7,yQ,tD,yV];unfold vz;refine (show aK _ _ _ _ _ ⟨bn [],aw _⟩ from ?_);refine bq (Aq fw @fg)
   .rw[if_neg mF]at gl;have hp:=kU _ _ gl
    have px:0 < RA.length:=by rw[wH];exact ahu.2 mF
    have qf:=(Aq fw @px);refine eJ e7 [2,3,4,5,6,7,8,9,10,66] [2,3,4,5,6,7,801,802,803,804] ?_;refine cm (by simp[px]) (Gb (aB _) ah ([3]) ([(1,7),(5,2),(6,3)]) (List.range 7) [2,3] [2,3,4,5,6,7,801,802,803,804] (eh rfl) ah fun K' ao=>?_);(repeat refine KD rfl fun K2 au=>?_;simp[ab,dS];(repeat refine⟨aa,?_⟩);refine au _ ?_;clear au K2);refine KE (ao _ ?_);refine AW.st (by simp[ab,dS];rfl) ?_;refine bR (Exists.intro _ (And.intro (aK.env (by intro i x h;cases h)) ?_));simp[D.le,D.le.go,aL,hp,fH,fW,cj,fq,bB,sA,ab]
  | pH r=>
   rw[Bz]at l4 gl;dsimp only at gl;simp only[da]at l4;have hn:=eX _ gl;have Io:=V3 r.cond;have jb:c8 r=[.v (.int .i64 r.kind),.v (.string (bs r.name)),dC r.cond]:=rfl
   have Ed:(s.ax ++ [r]).map c8=RR ++ [c8 r]:=by rw[agV,tD];rfl
   have yQ:dO (s.jD ++ [pk])=RA ++ [[.v (.int .i64 pk)]]:=by rw[<- yV];unfold dO;rw[agV];rfl
   generalize bs r.name=nm at jb;generalize r.kind=kd at jb;generalize dC r.cond=dc at jb Io;rw[jb]at l4 Ed;refine br fw l4 [2,3,4,5,6,7,8,9,10,11] [2,3,4,5,6,7,801,802,803,804] ?_;refine ag fun K9 jt=>ae (Aq fw aiH) [2,3,4,5,6,7,8,9,10,11,12,13] [2,3,4,5,6,7,801,802,803,804] ?_;refine ae fw [2,3,4,5,6,7,8,9,10,11,12,39] [2,3,4,5,6,7,801,802,803,804] ?_;refine al (ar (jt _ ?_));refine bd (ag fun ot e7=>?_);refine ae fw [2,3,4,5,6,7,8,9,10,66] [2,3,4,5,6,7,801,802,803,804] ?_;refine al (gH fw e7 [2,3,4,5,6,7,8,9,10,66] [2,3,4,5,6,7,801,802,803,804] ?_);refine al (ae fw [2,3,4,5,6,7,8,9,10,81] [2,3,4,5,6,7,801,802,803,804] ?_);refine aI (sM (aB _) ah ([(6,(802,89)),(10,(804,93))]) ([(7,[802]),(8,[802]),(9,[802]),(11,[804])]) ([0,1,2,3,4,7,8,5,9,6,11,10,12,13]) ah fun K' ao=>?_);(repeat refine qV rfl fun K2 au=>?_;simp[ab,dS,sh,Io];(repeat refine⟨aa,?_⟩);refine au _ ?_;clear au K2);refine sI (ao _ ?_);refine fA _ (AW.norm [2,3,4,5,6,7,8] [2,3,4,5,6,7,801,802,803,804] (eh rfl) (AW.st (by simp[ab,dS,sh,Io];rfl) ?_));have qf:=(Aq fw @bQ);refine CB ?_;(try simp only[aT,aV]);refine And.intro ⟨_,hn⟩ ?_;rw[hinv _ _ hn,fg];dsimp only;rw[Ed,yQ,uW,yT];unfold vz;refine (show aK _ _ _ _ _ ⟨bn [],aw _⟩ from ?_);refine bq (Aq fw @fg)
end Go.Proofs.YtoohljflflnbeaaGreatDoor
namespace Go.Proofs.YtoohljflflnbeaaGreatDoor
open Go.Av
def aa3 (S P:Int) (n:Nat):Prop:=S < 1\/3 < S\/P < 0\/2 < P\/n < 1\/3 < n
instance (S P:Int) (n:Nat):Decidable (aa3 S P n):=inferInstanceAs (Decidable (_\/_))
theorem Jm (G:aC) (k0:Option Bool) (t:List (List UInt8)) (s:List UInt8) (hs:s≠[]) (ht:t.length < 2^60):aD prog G 175 [.sl k0 (t.map fun x=>[dS x]),dS s] (ab (idx (fun x=>x == s) t)):=by
 have gv:s.isEmpty=false:=by rw[ahL];exact hs
 refine aD.aQ (aB _) func175 rfl rfl (rs:=[.tmp 4]) results175 (by simp[ntmps175]) fun X=>?_;simp only[ntmps175,List.map];have fw:=@aih;refine ae fw [0,1] [] ?_;refine ag fun K1 aF=>ae fw [1,7,8,9] [] ?_;refine cy (S:=Nat) (fun n=>n<=t.length/\∀ i (hi:i < t.length),i < n->(t[i] == s)=false) (fun n=>⟨bn [(1,.d (dS s)),(7,.d (.sl k0 (t.map fun x=>[dS x]))),(8,int t.length),(9,int n)],aw []⟩) (fun n=>t.length - n) 0 ?_ ak ?_
 .refine bq fw
 .rintro n ⟨hn,hp⟩;refine ae fw [1,7,8,9,10] [] ?_;refine ag fun K2 au=>eE (b:=n < t.length) (by simp[D.le,D.le.go,aL,ab]) (fun hc=>?_) (fun hc=>?_)
  .have nh:n < t.length:=hc;refine ar (au _ (ag fun K3 aU=>bd ?_));have qf:=(Aq fw @nh);refine ay [1,5,6,7,8,9] [] ?_
   cases he:(t[n] == s) with
   | true=>
    have lJ:t[n]=s:=by simpa using he
    refine rg [1,5,7,8,9,20] [] aN fun K' ao=>?_;(repeat refine aM fun Kq af=>?_;simp[ab,dS,lJ,bf,bX,bt,hs,gv];(repeat refine⟨aa,?_⟩);refine af _ ?_);refine bK (ao _ (AW.st (by simp[ab,dS,lJ,bf,bX,bt,hs,gv];rfl) ?_));refine aI (ae fw [4] [] ?_);refine bR ?_;simp[D.le,D.le.go,aL,ab];exact (xC nh he fun i hi=>hp i aa hi).symm
   | false=>
    have lJ:¬ t[n]=s:=by simpa using he
    refine rg [1,5,7,8,9,20] [] aN fun K' ao=>?_;(repeat refine aM fun Kq af=>?_;simp[ab,dS,he,lJ,bf,bX,bt];(repeat refine⟨aa,?_⟩);refine af _ ?_);refine bK (ao _ (AW.st (by simp[ab,dS,he,lJ,bf,bX,bt];rfl) ?_));refine al (ar ?_);refine aU _ (AW.norm [1,7,8,9] [] aN (AW.st (by simp[ab];rfl) ?_));refine cE fw ?_;(try simp only[aT,aV]);refine ba.mk (n+1) ⟨aa,fun i hi aS=>?_⟩ aa ?_
    .by_cases h:i=n
     .subst h;exact he
     .exact hp i hi aa
    refine bq (Aq fw @aii)
  .refine bW (aF _ (ae fw [4] [] ?_));refine bR ?_;simp[D.le,D.le.go,aL,ab];exact (xD fun i hi=>hp i hi aa).symm
theorem Mj {p:aP} (h:∀ r∈p.ax,∃ e,r.cond=some e/\bE e<=2^28):∀ {n:Nat},n<=p.ax.length->(k9 p n).length<=2^28 * n
 | 0,_=>by simp[k9]
 | n+1,hn=>by
  have ih:=Mj h (n:=n) aa;obtain⟨e,he,hb⟩:=h p.ax[n] (OF _);rw[GR aa,agU]
  have:(uQ p p.ax[n]).length<=2^28:=by
   unfold uQ;rw[he,ag5];have h1:=Lib.compact_length_le (nv (du false e));have h2:=sE (du false e);have h3:=xO false e;show (fi false e).length<=_;unfold fi;omega
  omega
theorem aa1 (G:aC) (p:aP) (fN:p.names.length < 2^62) (eY:p.ax.length<=100) (hg:∀ r∈p.ax,∃ e,r.cond=some e/\bE e<=2^28):aD prog G 83 [fH p] (.sl none ((Lib.compact (o0 (k9 p p.ax.length))).map fun x=>[.v (.int .i64 x)])):=by
 have b5:=fun s=>vn G p fN s;have hlen:=fun n hn=>Mj (n:=n) hg hn;have hL:=hlen _ (agD _);have xl:=adR G 300 3 (k9 p p.ax.length) aa;have pZ:=VL G 300 3 (o0 (k9 p p.ax.length)) (by rw[CM];omega);rw[CM]at pZ;have cN:=Lib.compact_length_le (o0 (k9 p p.ax.length));rw[CM]at cN;generalize Xy:k9 p p.ax.length=l at xl pZ cN hL ⊢;generalize o0 l=z at xl pZ cN ⊢
 have dK:List.take (Lib.compact z).length ((Lib.compact z ++ List.replicate (l.length - (Lib.compact z).length) 0).map fun s=>[D.v (.int .i64 s)])=(Lib.compact z).map fun s=>[D.v (.int .i64 s)]:=by
  rw[agV,ahS ak,sh ak]
 have IY:(Lib.compact z ++ List.replicate (l.length - (Lib.compact z).length) 0).length=l.length:=by simp;omega
 generalize Lib.compact z ++ List.replicate (l.length - (Lib.compact z).length) 0=y at pZ dK IY;generalize Lib.compact z=c at pZ cN dK ⊢;simp only[fH,fW,cj,fq,dS]at b5 ⊢;refine aD.aQ (aB _) func83 rfl rfl (rs:=[.tmp 2]) results83 (by simp[ntmps83]) fun X=>?_;simp only[ntmps83,List.map];have fw:=@aih;refine ae fw [1] [1] ?_;refine dI fw 1 ?_;refine ae fw [1,3] [] ?_;refine ag fun K1 aF=>ae fw [1,3,9,10,11] [] ?_;refine cy (S:=Nat) (fun i=>i<=p.ax.length) (fun i=>⟨bn [(1,.d (.ip [.sl none (p.names.map bo),.sl none (p.ax.map c8)])),(3,.own 300 0 (k9 p i).length),(9,.d (.sl none (p.ax.map c8))),(10,int p.ax.length),(11,int i)],aw [(300,.sl 3 1 ((k9 p i).map fun x=>[.v (.int .i64 x)]))]⟩) (fun i=>p.ax.length - i) 0 ?_ ak ?_
 .refine (aK.kC 3 300 3 1 rfl rfl).trans ?_;refine bq (Aq fw (Aq @k9.eq_1 @k9.eq_2))
 .intro i hi;have D3:=hlen i hi
  have wC:(k9 p i).length < 2^40:=aa
  have rD:=fun h=>GR (p:=p) (i:=i) h
  have uZ:i=p.ax.length->k9 p i=l:=fun h=>by rw[h];exact Xy
  generalize MU:k9 p i=E at wC rD uZ ⊢;refine ae fw [1,3,9,10,11,12] [300] ?_;refine ag fun K2 au=>eE (b:=i < p.ax.length) (by simp[D.le,D.le.go,aL,ab]) (fun hc=>?_) (fun hc=>?_)
  .have aG:=hc;obtain⟨e,he,hb⟩:=hg _ (OF aG);have dW:=rD aG;have jb:c8 p.ax[i]=[.v (.int .i64 p.ax[i].kind),.v (.string (bs p.ax[i].name)),dC p.ax[i].cond]:=rfl;have nM:=Wf G e hb
   have N3:(fi false e).length<=2^28:=by
    have h1:=Lib.compact_length_le (nv (du false e));have h2:=sE (du false e);have h3:=xO false e;unfold fi;omega
   unfold uQ at dW;rw[he]at dW jb;simp only[dC,dS]at dW jb nM;obtain⟨ta,ca,qH⟩:=kJ e;rw[qH]at jb nM;generalize fi false e=ns at dW nM N3;generalize p.ax[i].kind=kd at jb;generalize p.ax[i].name=nm at jb;refine ar (au _ (ag fun K3 aU=>bd ?_));have qf:=(Aq fw (Aq @aG @jb));refine ay [1,3,5,9,10,11] [300,5] ?_;refine dI fw 5 ?_;refine br fw nM [1,3,9,10,11,17,18,19] [300] ?_;obtain⟨AA,yP⟩:∃ f:Nat->List Int,f=fun j=>E ++ (ns.take j).map (bH p):=⟨_,rfl⟩
   have Ha:AA 0=E:=by rw[yP];simp
   have Xj:AA ns.length=E ++ ns.map (bH p):=by rw[yP];simp
   have Xl:∀ j (h:j < ns.length),AA (j+1)=AA j ++ [bH p ns[j]]:=fun j h=>by rw[yP];dsimp only;rw[agB h,agV,ahI];rfl
   have Xk:∀ j,(AA j).length < 2^41:=fun j=>by rw[yP];dsimp only;rw[agU,ag5,agM];omega
   clear yP;refine cy (S:=Nat) (fun j=>j<=ns.length) (fun j=>⟨bn [(1,.d (.ip [.sl none (p.names.map bo),.sl none (p.ax.map c8)])),(3,.own 300 0 (AA j).length),(9,.d (.sl none (p.ax.map c8))),(10,int p.ax.length),(11,int i),(17,.d (.sl none (ns.map fun s=>[.v (.string (bs s))]))),(18,int ns.length),(19,int j)],aw [(300,.sl 3 1 ((AA j).map fun x=>[.v (.int .i64 x)]))]⟩) (fun j=>ns.length - j) 0 ?_ ak ?_
   .refine bq (Aq fw @Ha)
   .intro j hj;have yQ:=Xl j;have AP:=Xk j
    have MO:j=ns.length->E ++ ns.map (bH p)=AA j:=fun h=>by rw[h,Xj]
    generalize yP:AA j=A at yQ AP MO ⊢;refine ae fw [1,3,9,10,11,17,18,19,20] [300] ?_;refine ag fun K4 ck=>eE (b:=j < ns.length) (by simp[D.le,D.le.go,aL,ab]) (fun hc=>?_) (fun hc=>?_)
    .have iQ:=hc;have D0:=yQ iQ;have NY:=b5 ns[j];generalize bH p ns[j]=z2 at D0 NY;refine ar (ck _ (ag fun K5 b9=>bd ?_));have qf:=(Aq fw @iQ);refine ay [1,3,7,9,10,11,17,18,19] [300] ?_;refine eU (aB _) fun K' ao=>?_;(repeat refine aM fun Kq af=>?_;simp[ab,sh];(repeat refine⟨aa,?_⟩);refine af _ ?_);refine aM fun Kq af=>?_;simp[ab,sh];refine dT.data (NY) bA (by first | exact D.bJ _ | simp[aL,agF,agy,D.le,D.le.go,D.le_refl,D.bJ,ab,sh]) ?_;refine af _ ?_;simp only[aR,dY];(repeat refine aM fun Kq af=>?_;simp[ab,sh];(repeat refine⟨aa,?_⟩);refine af _ ?_);refine bK (ao _ ?_);refine b9 _ (AW.norm [1,3,9,10,11,17,18,19] [300] aN (AW.st (by simp[ab,sh];rfl) ?_));refine cE fw ?_;(try simp only[aT,aV]);refine ba.mk (j+1) aa aa ?_;refine bq (Aq fw @D0)
    .obtain rfl:j=ns.length:=aa
     rw[MO rfl]at dW;refine bW (aU _ (cE fw ?_));(try simp only[aT,aV]);refine ba.mk (i+1) aa aa ?_;refine bq (Aq fw @dW)
  .obtain rfl:=uZ aa;refine bW (aF _ (bD fw xl [3] [300] ?_));refine bD fw pZ [2] [300] ?_
   have hle:c.length<=y.length:=aa
   by_cases tK:c.length=y.length
   .have p7:(y.map fun s=>[D.v (.int .i64 s)])=c.map fun s=>[D.v (.int .i64 s)]:=by rw[<- dK,tK,sh ak]
    refine AW.imp (aK.freeze 300 trivial) ?_;refine AW.st (by simp[ab,tK,hle,p7];rfl) ?_;exact aW (Aq fw (Aq @tK @p7))
   .refine AW.imp (aK.freeze 300 trivial) ?_;refine AW.st (by simp[ab,tK,hle,dK];rfl) ?_;exact aW (Aq fw @dK)
theorem ae1 (G:aC) (hM:j3 G) (p:aP) (fN:p.names.length < 2^40) (qF:∀ n∈p.names,n.name≠[]) (eY:p.ax.length<=100) (hg:∀ r∈p.ax,∃ e,r.cond=some e/\bE e<=2^28):aD prog G 246 [dU p] (.sl none ((gd p p.names.length).map fun x=>[.v (.int .i64 x)])):=by
 simp only[dU,ft,cj];refine aD.aQ (aB _) func246 rfl rfl (rs:=[.tmp 2]) results246 (by simp[ntmps246]) fun X=>?_;simp only[ntmps246,List.map];have fw:=@aih;refine ae fw [1] [1] ?_;refine dI fw 1 ?_;refine ae fw [1,3] [] ?_;refine ag fun K1 aF=>ae fw [1,3,9,10,11] [] ?_;refine cy (S:=Nat) (fun i=>i<=p.names.length) (fun i=>⟨bn [(1,.d (.ip [.sl none (p.names.map bo),.sl none (p.ax.map eg)])),(3,.own 300 0 (gd p i).length),(9,.d (.sl none (p.names.map bo))),(10,int p.names.length),(11,int i)],aw [(300,.sl 3 1 ((gd p i).map fun x=>[.v (.int .i64 x)]))]⟩) (fun i=>p.names.length - i) 0 ?_ ak ?_
 .refine (aK.kC 3 300 3 1 rfl rfl).trans ?_;refine bq (Aq fw (Aq @gd.eq_1 @gd.eq_2))
 .intro i hi;have wC:=F3 p i;have rD:=fun h=>Sj (p:=p) (i:=i) h;generalize MU:gd p i=E at wC rD ⊢;refine ae fw [1,3,9,10,11,12] [300] ?_;refine ag fun K2 au=>eE (b:=i < p.names.length) (by simp[D.le,D.le.go,aL,ab]) (fun hc=>?_) (fun hc=>?_)
  .have aG:=hc;have dW:=rD aG;have bl:=qF _ (OF aG);have iO:bo p.names[i]=[.v (.string (bs p.names[i].name)),.v (.int .i64 p.names[i].kind),.v (.int .i64 p.names[i].count)]:=rfl;generalize p.names[i].name=nm at iO dW bl;generalize p.names[i].kind=kd at iO;generalize p.names[i].count=ct at iO;refine ar (au _ (ag fun K3 aU=>bd ?_));have qf:=(Aq fw (Aq @aG @iO));refine ay [1,3,4,5,9,10,11] [300,5] ?_;refine dI fw 5 ?_;refine ae fw [1,3,4,5,9,10,11,17,18,19] [300] ?_;refine cy (S:=Nat) (fun j=>j<=p.ax.length/\∀ k (hk:k < p.ax.length),k < j->oG nm p.ax[k]=false) (fun j=>⟨bn [(1,.d (.ip [.sl none (p.names.map bo),.sl none (p.ax.map eg)])),(3,.own 300 0 E.length),(4,int i),(5,.d (.ip [.v (.string (bs nm)),.v (.int .i64 kd),.v (.int .i64 ct)])),(9,.d (.sl none (p.names.map bo))),(10,int p.names.length),(11,int i),(17,.d (.sl none (p.ax.map eg))),(18,int p.ax.length),(19,int j)],aw [(300,.sl 3 1 (E.map fun x=>[.v (.int .i64 x)]))]⟩) (fun j=>p.ax.length - j) 0 ?_ ak ?_
   .refine bq fw
   .rintro j ⟨hj,jc⟩;refine ae fw [1,3,4,5,9,10,11,17,18,19,20] [300] ?_;refine ag fun K4 ck=>eE (b:=j < p.ax.length) (by simp[D.le,D.le.go,aL,ab]) (fun hc=>?_) (fun hc=>?_)
    .have iQ:=hc;obtain⟨e,he,hb⟩:=hg _ (OF iQ);have jb:eg p.ax[j]=[.v (.int .i64 p.ax[j].kind),.v (.string (bs p.ax[j].name)),lV p.ax[j].cond]:=rfl
     have sb:oG nm p.ax[j]=false->∀ k (hk:k < p.ax.length),k < j+1->oG nm p.ax[k]=false:=fun h0 k hk u4=>by
      by_cases h:k=j
      .subst h;exact h0
      .exact jc k hk aa
     have NG:oG nm p.ax[j]=true->p.ax.any (oG nm)=true:=fun h=>ahp.2 ⟨_,OF iQ,h⟩
     have oR:oG nm p.ax[j]=decide (0<=idx (fun x=>x == nm) (fi false e)):=by unfold oG;rw[he]
     have nM:=acV G hM e hb
     have N3:(fi false e).length<=2^28:=by
      have h1:=Lib.compact_length_le (nv (du false e));have h2:=sE (du false e);have h3:=xO false e;unfold fi;omega
     have gN:=Jm G none (fi false e) nm bl aa;rw[he]at jb;simp only[lV]at jb;obtain⟨ec,HG⟩:∃ c,dR e = .ip c:=⟨_,rX e⟩;rw[HG]at jb nM;generalize fi false e=ns at nM gN oR;generalize idx (fun x=>x == nm) ns=ix at gN oR;generalize oG nm p.ax[j]=hv at sb NG oR;simp only[dS,ab]at nM gN;generalize p.ax[j].kind=kd2 at jb;generalize p.ax[j].name=nm2 at jb;refine ar (ck _ (ag fun K5 b9=>bd ?_));have qf:=(Aq fw (Aq @iQ @jb));refine ay [1,3,4,5,7,9,10,11,17,18,19] [300,7] ?_;refine dI fw 7 ?_;refine qY (aB _) ah [1,3,4,5,9,10,11,17,18,19,29] [300] aN ah fun K' ao=>?_;(repeat refine eK fun Kq af=>?_;simp[ab];(repeat refine⟨aa,?_⟩);refine af _ ?_);refine eK fun Kq af=>?_;simp[ab];refine kG.data (nM) bA bA (by first | exact D.bJ _ | simp[aL,agF,agy,D.le,D.le.go,D.le_refl,D.bJ,ab]) ?_;refine af _ ?_;simp only[aR,dY];(repeat refine eK fun Kq af=>?_;simp[ab];(repeat refine⟨aa,?_⟩);refine af _ ?_);refine eK fun Kq af=>?_;simp[ab];refine kG.data (gN) bA bA (by first | exact D.bJ _ | simp[aL,agF,agy,D.le,D.le.go,D.le_refl,D.bJ,ab]) ?_;refine af _ ?_;simp only[aR,dY];(repeat refine eK fun Kq af=>?_;simp[ab];(repeat refine⟨aa,?_⟩);refine af _ ?_);refine mQ (ao _ ?_);refine AW.st (by simp[ab];rfl) ?_;by_cases h0:0<=ix
     .have iS:hv=true:=by rw[oR];simpa using h0
      rw[if_pos (NG iS)]at dW;refine cm (by simp[h0]) (rg [1,3,9,10,11] [300] aN fun K' ao=>?_);(repeat refine aM fun Kq af=>?_;simp[ab,sh];(repeat refine⟨aa,?_⟩);refine af _ ?_);refine bK (ao _ (AW.st (by simp[ab,sh];rfl) ?_));refine bW (aU _ (cE fw ?_));(try simp only[aT,aV]);refine ba.mk (i+1) aa aa ?_;refine bq (Aq fw @dW)
     .have iS:hv=false:=by rw[oR];simpa using h0
      refine cw (by simp[h0]) (ar (b9 _ ?_));refine cE fw ?_;(try simp only[aT,aV]);refine ba.mk (j+1) ⟨aa,sb iS⟩ aa ?_;refine bq fw
    .have r7:p.ax.any (oG nm)=false:=by
      rw[List.any_eq_false];intro r hr;obtain⟨k,hk,rfl⟩:=agG.1 hr;simpa using jc k hk aa
     rw[r7,if_neg bO,ahm]at dW;refine bW (aU _ (cE fw ?_));(try simp only[aT,aV]);refine ba.mk (i+1) aa aa ?_;refine bq (Aq fw @dW)
  .obtain rfl:i=p.names.length:=aa
   refine bW (aF _ (AW.imp (aK.freeze 300 trivial) ?_));refine AW.st (by simp[ab,sh];rfl) ?_;refine ae fw [2] [] ?_;exact aW (Aq fw @MU)
def Ah (G:aC):Prop:=G 2=some (.ip [.sl none [[.v (.string (bs []))],[.v (.string (bs [105,110,112,117,116]))],[.v (.string (bs [99,111,105,108]))],[.v (.string (bs [116,105,109,101,114]))],[.v (.string (bs [99,111,117,110,116,101,114]))]]])
def Ai (G:aC):Prop:=G 3=some (.ip [.sl none [[.v (.string (bs []))],[.v (.string (bs []))],[.v (.string (bs [115,101,116]))],[.v (.string (bs [114,101,115,101,116]))],[.v (.string (bs [114,117,110]))],[.v (.string (bs [99,111,117,110,116]))],[.v (.string (bs [122,101,114,111]))]]])
theorem GD {p:aP} {c:Int} {o:Option Nat} (h:dr p=some (c,o)):c≠0:=by
 unfold dr at h;split at h
 .simp only[IT,agA]at h;omega
 split at h
 .rename_i hf;simp only[IT,agA]at h;have:=(AK hf).2.2;rw[<- h.1];exact this
 split at h
 .rename_i hf;simp only[IT,agA]at h;have:=(AK hf).2.2;rw[<- h.1];exact this
 .cases h
theorem abC {s:Tx} (h:jg s=true):s≠[]/\s.length<=8:=by
 unfold jg at h;simp only[abi,decide_eq_true_eq]at h;exact⟨h.1,h.2.1⟩
theorem aa4 {s:Tx} {r:iL} (h:gO s = .pH r):∃ e,r.cond=some e/\hU e/\uN e<=20/\bE e<=10000:=by
 unfold gO at h;split at h
 .obtain⟨k,nm,hm,hr⟩:=Re h;obtain⟨e,he,hp,_,hn,_⟩:=Ri hr;exact⟨e,he,(J2 hp).1,(J2 hp).2,Qc hp⟩
 .exact absurd h Py
def mR (r:iL):Prop:=∃ e,r.cond=some e/\hU e/\uN e<=20/\bE e<=10000
theorem Qk {l:List Tx}:∀ {k:Nat} {s:o5},gn l k = .inr s->∀ r∈s.ax,mR r
 | 0,s,h=>by
  simp only[gn,aic]at h;subst h;simp[pF]
 | k+1,s,h=>by
  rw[gn]at h
  cases hk:gn l k with
  | inl e=>rw[hk]at h;cases h
  | inr s0=>
   rw[hk]at h;dsimp only at h;have ih:=Qk hk;unfold ly at h;split at h
   .simp only[aic]at h;subst h;exact ih
   .split at h
    .cases h
    .cases h
    .split at h
     .simp only[aic]at h;subst h;exact ih
     .cases h
    .rename_i r hr;simp only[aic]at h;subst h;intro r' nU
     rcases agN.1 nU with h1 | h1
     .exact ih r' h1
     .obtain rfl:=ahc.1 h1;exact aa4 hr
theorem Qd {t:Tx} {p:aP} (h:jB t=(none,p)):dr p=none/\∀ r∈p.ax,mR r:=by
 unfold jB at h;split at h
 .cases h
 .split at h
  .cases h
  .rename_i s hs;split at h
   .rename_i hc;simp only[agA,true_and]at h;subst h;exact⟨hc,Qk hs⟩
   .cases h
   .cases h
theorem acf {t:Tx} {e:Int×Option Nat} (h:(jB t).1=some e):(jB t).2=⟨[],[]⟩:=by
 by_cases h1:20000 < t.length
 .unfold jB;rw[if_pos h1]
 .cases hs:gn (eV 10 t) (eV 10 t).length with
  | inl ci=>obtain⟨c,i⟩:=ci;rw[JZ aa hs]
  | inr s=>
   rw[J0 aa hs]at h ⊢
   cases hc:dr ⟨s.names,s.ax⟩ with
   | none=>rw[hc]at h;cases h
   | some co=>
    obtain⟨c,o⟩:=co;cases o<;>rfl
theorem ae4:(⟨#[32]⟩:ByteArray)=bs [32]:=rfl
theorem F4:(⟨#[]⟩:ByteArray)=bs []:=rfl
def qz (l:List Tx):List (List D):=(l.filter fun w=>decide (w≠[])).map fun s=>[dS s]
theorem MD:qz []=[]:=rfl
theorem WZ (l:List Tx) (n:Nat) (h:n < l.length):qz (l.take (n+1))=if l[n]=[] then qz (l.take n) else qz (l.take n) ++ [[dS l[n]]]:=by
 unfold qz;rw[agB h,List.filter_append,agV];by_cases h0:l[n]=[]
 .simp[h0]
 .simp[h0]
theorem Sn (G:aC) (hM:j3 G) (t:Tx) (ht:t.length < 2^30):aD prog G 173 [dS t] (.sl none ((iw t).map fun s=>[dS s])):=by
 have ub:=Ry G hM t 32 ht
 have xB:(iw t).map (fun s=>[dS s])=qz (eV 32 t):=by
  unfold qz iw eV;rw[<- F6]
 rw[xB];have w7:=Dx 32 t;simp only[dS]at ub;generalize eV 32 t=l at *;refine aD.aQ (aB _) func173 rfl rfl (rs:=[.tmp 2]) results173 (by simp[ntmps173]) fun X=>?_;simp only[ntmps173,List.map];have fw:=@aih;refine ae fw [0] [] ?_;refine ae fw [0,3] [] ?_;refine ag fun K1 aF=>?_;have qf:=(Aq fw @ae4);refine fj ub [3,7,8,9] [] ?_;refine AW.imp (aK.kC 3 300 9 1 rfl rfl) ?_;refine cy (S:=Nat) (fun n=>n<=l.length) (fun n=>⟨bn [(3,.own 300 0 (qz (l.take n)).length),(7,.d (.sl (some true) (l.map fun s=>[dS s]))),(8,int l.length),(9,int n)],aw [(300,.sl 9 1 (qz (l.take n)))]⟩) (fun n=>l.length - n) 0 ?_ aa ?_
 .refine aK.fk aN (by simp[ab,MD,dS]) (by simp[ab,MD,dS])
 .intro n hn;refine ae fw [3,7,8,9,10] [300] ?_;refine ag fun K2 au=>?_;by_cases aG:n < l.length
  .refine cm (by simp;omega) ?_;have hs:=WZ l n aG;generalize Nk:qz (l.take (n+1))=W2 at hs;generalize hW:qz (l.take n)=W at *
   have hWl:W.length<=2^40:=by
    rw[<- hW];unfold qz;rw[ag5];have h1:=List.length_filter_le (fun w=>decide (w≠[])) (l.take n);have h2:=List.length_take_le n l;omega
   refine ar (au _ (ag fun K3 aU=>bd ?_));simp only[dS]at hs;have qf:=(Aq fw (Aq @aG @aii));refine ay [3,5,7,8,9] [300] ?_;by_cases hx:l[n]=[]
   .rw[if_pos hx]at hs;refine rg [3,5,7,8,9,14] [300] aN fun K' ao=>?_;(repeat refine aM fun Kq af=>?_;simp[ab,F4,bf,bt,hx];(repeat refine⟨aa,?_⟩);refine af _ ?_);refine bK (ao _ (AW.st (by simp[ab,F4,bf,bt,hx];rfl) ?_));refine cw (by simp[hx]) (ar (aU _ ?_));refine cE fw ?_;(try simp only[aT,aV]);refine ba.mk (n+1) aa aa ?_;refine bq (Aq fw (Aq @Nk (Aq @hs @aii)))
   .rw[if_neg hx]at hs
    have p9:l[n].isEmpty=false:=by rw[ahL];exact hx
    refine rg [3,5,7,8,9,14] [300] aN fun K' ao=>?_;(repeat refine aM fun Kq af=>?_;simp[ab,F4,bf,bt,hx];(repeat refine⟨aa,?_⟩);refine af _ ?_);refine bK (ao _ (AW.st (by simp[ab,F4,bf,bt,hx];rfl) ?_));refine cm (by simp[hx]) (eU (aB _) fun K' ao=>?_);(repeat refine aM fun Kq af=>?_;simp[ab,sh];(repeat refine⟨aa,?_⟩);refine af _ ?_);refine bK (ao _ ?_);refine aU _ (AW.norm [3,7,8,9] [300] aN (AW.st (by simp[ab,sh];rfl) ?_));refine cE fw ?_;(try simp only[aT,aV]);refine ba.mk (n+1) aa aa ?_;refine bq (Aq fw (Aq @Nk (Aq @hs @aii)))
  .obtain rfl:n=l.length:=aa
   refine cw ak ?_;rw[aho];refine bW (aF _ (AW.imp (aK.freeze 300 trivial) ?_));refine AW.st (by simp[ab];rfl) ?_;refine ae fw [2] [] ?_;exact aW fw
def wo:Option Int->D
 | some v=>.bx [.v (.int .i64 v),.v (.bool true)]
 | none=>.bx [.v (.int .i64 0),.v (.bool false)]
theorem adl (G:aC) (hP:rQ G) {es er:Value} (hE:sQ G es er) (s:Tx) (hs:s.length < 2^40):aD prog G 176 [dS s] (wo (vw s)):=by
 have se:=acd G hE s hs
 have b5:vw s=match Lib.atoiAll s with
  | .ok v=>if Lib.itoa v=s then some v else none
  | _=>none:=rfl
 unfold wu at se;refine aD.aQ (aB _) func176 rfl rfl (rs:=[.tmp 2,.tmp 3]) results176 (by simp[ntmps176]) fun X=>?_;simp only[ntmps176,List.map];have fw:=@aii;refine ae fw [0] [] ?_
 cases hn:Lib.atoiAll s with
 | ok v=>
  rw[hn]at se b5;dsimp only at se b5;obtain⟨v0,v1⟩:=Lib.atoiAll_bounds hn;have hit:=WW G hP v v0 v1;simp only[dS]at hit;generalize Lib.itoa v=iv at hit b5;refine br fw se [0,4,5] [] ?_;refine ag fun K1 aF=>?_;by_cases hc:iv=s
  .rw[if_pos hc]at b5;subst hc;refine rg [4,18] [] aN fun K' ao=>?_;(repeat refine aM fun Kq af=>?_;simp[dS,bf,bt];(repeat refine⟨aa,?_⟩);refine af _ ?_);refine aM fun Kq af=>?_;simp[dS,bf,bt];refine dT.data (hit) bA (by first | exact D.bJ _ | simp[aL,agF,agy,D.le,D.le.go,D.le_refl,D.bJ,dS,bf,bt]) ?_;refine af _ ?_;simp only[aR,dY];(repeat refine aM fun Kq af=>?_;simp[dS,bf,bt];(repeat refine⟨aa,?_⟩);refine af _ ?_);refine bK (ao _ (AW.st (by simp[dS,bf,bt];rfl) ?_));refine al (ar (aF _ ?_));refine ae fw [2,3] [] ?_;refine bR ?_;simp[D.le,D.le.go,aL,dS,b5,wo]
  .rw[if_neg hc]at b5;refine rg [4,18] [] aN fun K' ao=>?_;(repeat refine aM fun Kq af=>?_;simp[dS,bf,bt,hc];(repeat refine⟨aa,?_⟩);refine af _ ?_);refine aM fun Kq af=>?_;simp[dS,bf,bt,hc];refine dT.data (hit) bA (by first | exact D.bJ _ | simp[aL,agF,agy,D.le,D.le.go,D.le_refl,D.bJ,dS,bf,bt,hc]) ?_;refine af _ ?_;simp only[aR,dY];(repeat refine aM fun Kq af=>?_;simp[dS,bf,bt,hc];(repeat refine⟨aa,?_⟩);refine af _ ?_);refine bK (ao _ (AW.st (by simp[dS,bf,bt,hc];rfl) ?_));refine cm (by simp[hc]) (ae fw [2,3] [] ?_);refine bR ?_;simp[D.le,D.le.go,aL,dS,b5,wo]
 | range=>
  rw[hn]at se b5;dsimp only[s6]at se b5;refine br fw se [0,4,5] [] ?_;refine ag fun K1 aF=>ae fw [4,18] [] ?_;refine aI (ae fw [2,3] [] ?_);refine bR ?_;simp[D.le,D.le.go,aL,dS,b5,wo]
 | _=>
  rw[hn]at se b5;dsimp only[s6]at se b5;refine br fw se [0,4,5] [] ?_;refine ag fun K1 aF=>ae fw [4,18] [] ?_;refine aI (ae fw [2,3] [] ?_);refine bR ?_;simp[D.le,D.le.go,aL,dS,b5,wo]
def yM (l:List Tx) (n:Nat):o5:=match gn l n with
 | .inr s=>s
 | .inl _=>pF
theorem DQ {l:List Tx} {n:Nat} {s:o5} (h:gn l n = .inr s):yM l n=s:=by unfold yM;rw[h]
theorem ae9 {t:Tx}:∀ w∈iw t,w≠[]:=by
 intro w h;unfold iw at h;rw[<- F6]at h;have:=(List.mem_filter.1 h).2;simpa using this
theorem OW {l:List Tx} {s:Tx} {k:Nat} (hk:k < l.length) (h0:l[k]≠s):jX l s≠k:=by
 intro e
 have h1:¬ jX l s < 0:=aa
 unfold jX at e h1;obtain⟨j,hj,he,hs⟩:=uh h1;rw[he]at e
 have:j=k:=aa
 subst this;exact h0 (by simpa using hs)
theorem V2 {t:Tx} (h:(61:UInt8)∈t):(cutAt 61 t).1.length+1+(cutAt 61 t).2.length=t.length/\(bs t).extract 0 (cutAt 61 t).1.length=bs (cutAt 61 t).1/\(bs t).extract ((cutAt 61 t).1.length+1) t.length=bs (cutAt 61 t).2:=by
 obtain⟨a,b,rfl,ha⟩:=ahj h;rw[yx ha];refine⟨by simp;omega,?_,?_⟩
 .rw[Lib.extract_eq];simp[bs]
 .rw[Lib.extract_eq]
  have:(a ++ 61 :: b).drop (a.length+1)=b:=by
   rw[show a.length+1=(a ++ [(61:UInt8)]).length by simp,show a ++ (61:UInt8) :: b=(a ++ [61]) ++ b by simp,List.drop_left]
  simp only[bs];rw[this,sh (by simp;omega)]
theorem abg:(61:UInt8).toNat=61:=rfl
theorem aiB:type_of% (Aq @aiy (Aq @aiz (Aq @aix (Aq @aij (Aq @aik (Aq @ail (Aq @aim @ain))))))):=(Aq @aiy (Aq @aiz (Aq @aix (Aq @aij (Aq @aik (Aq @ail (Aq @aim @ain)))))))
theorem adr (G:aC) (hF:uD G) (hM:j3 G) (hP:rQ G) {es er:Value} (hE:sQ G es er) (qC:Ah G) (qD:Ai G) (t:Tx):aD prog G 104 [dS t] (.bx [dU (jB t).2,dw (jB t).1]):=by
 have Ns:=Dj G 4;simp only[ab]at Ns;have MX:G 0=some (.ip [.v (.int .i64 0),.v (.int .i64 (-1))]):=hF;unfold Ah at qC;unfold Ai at qD;refine aD.aQ (aB _) func104 rfl rfl (rs:=[.cell 2 62,.cell 3 52]) results104 (by simp[ntmps104]) fun X=>?_;simp only[ntmps104,List.map];have fw:=aiR;refine ae fw [0,2,3] [2,3] ?_;refine ag fun K1 aF=>?_;by_cases ht:20000 < t.length
 .have ll:(t.length:Int) > 20000:=aa
  have hp:jB t=(some (4,none),⟨[],[]⟩):=by unfold jB;rw[if_pos ht]
  have qf:=(Aq fw (Aq @bQ @ll));refine ay [0,2,3,23] [2,3] ?_;refine cm (by simp[ll]) (br fw Ns [2,3] [2,3] ?_);exact aW (Aq fw (Aq @hp aiB))
 have ll:¬ (t.length:Int) > 20000:=aa
 have qf:=(Aq fw (Aq @bQ @ll));refine ay [0,2,3,23] [2,3] ?_;refine cw (by simp[ll]) (ar (aF _ ?_));refine ae fw [0,2,3,4] [2,3,4] ?_;refine ae fw [0,2,3,4,5,6] [2,3,4] ?_;refine ae fw [0,2,3,4,5,6,7] [2,3,4] ?_;refine ag fun K2 au=>?_;have ub:=Ry G hM t 10 aa;obtain⟨l,hl⟩:∃ l,l=eV 10 t:=⟨_,rfl⟩;have H7:=Dx 10 t;rw[<- hl]at ub H7;simp only[dS]at ub;have qf:=(Aq fw @Pm);refine fj ub [2,3,4,5,6,7,27,28,29] [2,3,4] ?_;refine AW.imp (aK.kC 5 803 3 1 rfl rfl) ?_;refine AW.st bA ?_;refine AW.imp (aK.kC 6 804 3 1 rfl rfl) ?_;refine AW.st bA ?_;refine AW.imp (aK.o7 4 0 801 197 3 rfl rfl rfl) ?_;refine AW.st bA ?_;refine AW.imp (aK.o7 4 1 802 203 3 rfl rfl rfl) ?_;refine AW.st bA ?_;obtain⟨NN,uW⟩:∃ f:Nat->List (List D),f=fun n=>(yM l n).names.map bo:=⟨_,rfl⟩;obtain⟨RR,tD⟩:∃ f:Nat->List (List D),f=fun n=>(yM l n).ax.map eg:=⟨_,rfl⟩;obtain⟨NA,yT⟩:∃ f:Nat->List (List D),f=fun n=>dO (yM l n).jz:=⟨_,rfl⟩;obtain⟨RA,yV⟩:∃ f:Nat->List (List D),f=fun n=>dO (yM l n).jD:=⟨_,rfl⟩;obtain⟨PL,M8⟩:∃ f:Nat->Int,f=fun n=>(jC l n:Int):=⟨_,rfl⟩
 have A4:∀ n s,gn l n = .inr s->NN n=s.names.map bo:=fun n s h=>by rw[uW];dsimp only;rw[DQ h]
 have Ba:∀ n s,gn l n = .inr s->RR n=s.ax.map eg:=fun n s h=>by rw[tD];dsimp only;rw[DQ h]
 have A0:∀ n s,gn l n = .inr s->NA n=dO s.jz:=fun n s h=>by rw[yT];dsimp only;rw[DQ h]
 have A8:∀ n s,gn l n = .inr s->RA n=dO s.jD:=fun n s h=>by rw[yV];dsimp only;rw[DQ h]
 have Hi:∀ n,PL n=(jC l n:Int):=fun n=>by rw[M8]
 have z1:NN 0=[]:=A4 0 pF rfl;have z2:RR 0=[]:=Ba 0 pF rfl;have z3:NA 0=[]:=A0 0 pF rfl;have z4:RA 0=[]:=A8 0 pF rfl;have z5:PL 0=0:=Hi 0;clear uW tD yT yV M8;refine cy (S:=Nat) (fun n=>n<=l.length/\∃ s,gn l n = .inr s) (fun n=>⟨bn [(2,.ref 2 0 0),(3,.ref 3 0 0),(4,.ref 4 0 0),(5,.own 803 0 (NA n).length),(6,.own 804 0 (RA n).length),(7,int (PL n)),(27,.d (.sl (some true) (l.map fun s=>[.v (.string (bs s))]))),(28,int l.length),(29,int n)],aw [(2,.box 62 [.d sA,.d sA]),(3,.box 52 [.d (.v (.int .i64 0)),.d (.v (.int .i64 0))]),(4,.box 62 [.own 801 0 (NN n).length,.own 802 0 (RR n).length]),(801,.sl 197 3 (NN n)),(802,.sl 203 3 (RR n)),(803,.sl 3 1 (NA n)),(804,.sl 3 1 (RA n))]⟩) (fun n=>l.length - n) 0 ?_ ⟨aa,pF,rfl⟩ ?_
 .refine aK.fk aN (by simp[ab,dS,z1,z2,z3,z4,z5,sA]) (by simp[ab,dS,z1,z2,z3,z4,z5,sA])
 .rintro n ⟨xc,s,hs⟩;refine ae fw [2,3,4,5,6,7,27,28,29,30] [2,3,4,801,802,803,804] ?_;refine ag fun K3 aU=>?_;by_cases aG:n < l.length
  .refine cm (by simp[aG]) (ar (aU _ ?_));refine ag fun K4 ck=>bd ?_
   have Zw:jC l n+l[n].length<=t.length:=by subst hl;exact J5 aG
   have fg:PL (n+1)=(jC l n:Int)+((l[n].length:Int)+1):=by rw[Hi,J6 aG];omega
   have cz:=Cy (t:=t) aa (Nat.le_of_lt (hl ▸ aG)) (hl ▸ hs);have eX:∀ s',ly s (jC l n) l[n] = .inr s'->gn l (n+1) = .inr s':=fun s' h=>Qm aG hs h;have kU:∀ c i,ly s (jC l n) l[n] = .inl (c,i)->jB t=(some (c,some i),⟨[],[]⟩):=fun c i h=>JZ aa (hl ▸ Ql aG hs h);obtain⟨fN,eY,fy,_,_⟩:=cz
   have yS:(NN n).length=s.names.length:=by rw[A4 n s hs];simp
   have XN:(RR n).length=s.ax.length:=by rw[Ba n s hs];simp
   have XG:(NA n).length=s.names.length:=by rw[A0 n s hs];simp[dO,fN]
   have wH:(RA n).length=s.ax.length:=by rw[A8 n s hs];simp[dO,eY]
   have A3:=fun s' h=>A4 (n+1) s' h;have A9:=fun s' h=>Ba (n+1) s' h;have AZ:=fun s' h=>A0 (n+1) s' h;have A7:=fun s' h=>A8 (n+1) s' h;have b1:=(A4 n s hs).symm;have b2:=(Ba n s hs).symm;have b3:=(A0 n s hs).symm;have b4:=(A8 n s hs).symm;rw[Hi n];have zr:=Sn G hM l[n] aa;have Yq:=fun c=>adL G l[n] c
   have pn:∀ x,x=l[n]->x.length<=20000:=fun x h=>by rw[h];omega
   have qf:=(Aq fw @aG);refine ay [2,3,4,5,6,7,9,27,28,29] [2,3,4,801,802,803,804] ?_;generalize hlx:l[n]=ln at *;generalize zk:jC l n=pk at *;generalize NN n=N1 at *;generalize RR n=R1 at *;generalize NA n=A1 at *;generalize RA n=A2 at *;refine ae fw [2,3,4,5,6,7,9,10,27,28,29] [2,3,4,801,802,803,804] ?_;have qf:=(Aq fw @bQ);refine ay [2,3,4,5,6,7,9,10,27,28,29] [2,3,4,801,802,803,804] ?_;refine ag fun K5 b9=>?_;have rF:=fun w h=>F9 (t:=ln) (w:=w) h;have np:=F8 ln;by_cases h0:iw ln=[]
   .have dP:ly s pk ln = .inr s:=by unfold ly;rw[if_pos h0]
    have hn:=eX _ dP;rw[h0]at zr;simp only[dS]at zr;refine br fw zr [2,3,4,5,6,7,9,10,27,28,29,42] [2,3,4,801,802,803,804] ?_;refine aI (bW (ck _ ?_));refine cE fw ?_;(try simp only[aT,aV]);refine ba.mk (n+1) ⟨aa,s,hn⟩ aa ?_;have e1:=A3 _ hn;have e2:=A9 _ hn;have e3:=AZ _ hn;have e4:=A7 _ hn;rw[b1]at e1;rw[b2]at e2;rw[b3]at e3;rw[b4]at e4;refine aK.fk aN (by simp[ab,dS,e1,e2,e3,e4,fg]) (by simp[ab,dS,e1,e2,e3,e4,fg])
   have gl:ly s pk ln=match gO ln with
    | .form=>.inl (3,pk)
    | .bad c off=>.inl (c,pk+off)
    | .name n=>if s.ax=[] then .inr ⟨s.names ++ [n],s.jz ++ [pk],s.ax,s.jD⟩ else .inl (3,pk)
    | .pH r=>.inr ⟨s.names,s.jz,s.ax ++ [r],s.jD ++ [pk]⟩:=by unfold ly;rw[if_neg h0];cases gO ln<;>rfl
   have gk:gO ln=if (61:UInt8)∈ln then qj (cutAt 61 ln).1 (cutAt 61 ln).2 (iw (cutAt 61 ln).1) else lq (iw ln):=rfl;have hwp:0 < (iw ln).length:=ahu.2 h0;have iN:=Yq 61;simp only[abg,dS,ab]at iN;generalize nV:iw ln=ws at *
   have afA:(ws.map fun s=>[dS s]).length=ws.length:=ak
   have p8:¬ (ws.length:Int)=0:=aa
   simp only[dS]at zr;have qf:=(Aq fw (Aq @p8 @h0));refine fj zr [2,3,4,5,6,7,9,10,27,28,29,42] [2,3,4,801,802,803,804] ?_;refine cw (by simp[p8,h0]) (ar (b9 _ ?_));by_cases uU:(61:UInt8)∈ln
   .rw[if_pos uU]at gk iN;have hle:=Dw 61 ln;have Ym:=V2 uU;have xA:=Sn G hM (cutAt 61 ln).1 aa;have iR:=adp G hF (cutAt 61 ln).2 aa;have Z3:=ae9 (t:=(cutAt 61 ln).1);generalize (cutAt 61 ln).1=hd at *;generalize (cutAt 61 ln).2=rest at *;obtain⟨cN,EG,p9⟩:=Ym
    have Et:¬ (-1:Int) > 0:=aa
    simp only[dS]at xA iR;refine br fw iN [2,3,4,5,6,7,9,10,11,27,28,29] [2,3,4,801,802,803,804] ?_;refine ag fun K6 eH=>ae fw [2,3,4,5,6,7,9,10,11,27,28,29,46] [2,3,4,801,802,803,804] ?_;refine cm ak ?_;have qf:=(Aq fw (Aq @bQ @EG));refine fj xA [2,3,4,5,6,7,9,10,11,12,27,28,29] [2,3,4,801,802,803,804] ?_;refine ae fw [2,3,4,5,6,7,9,10,11,12,13,27,28,29] [2,3,4,13,801,802,803,804] ?_
    match vg:iw hd,Z3 with
    | [],_=>
     rw[vg]at gk;simp only[vg,aia];refine ag fun K7 eL=>ae fw [2,3,4,5,6,7,9,10,11,12,13,27,28,29,53] [2,3,4,13,801,802,803,804] ?_;refine bd (ae fw [2,3,4,5,6,7,9,10,11,12,13,27,28,29,53,54] [2,3,4,13,801,802,803,804] ?_);refine al (ae fw [2,3,4,5,6,7,9,10,11,12,13,27,28,29,60] [2,3,4,13,801,802,803,804] ?_);refine al (ar (eL _ ?_));have hp:=kU 3 pk (by rw[gl,gk];try rfl);refine ag fun K8 fA=>?_;have qf:=(Aq fw @cN);refine ay [2,3,4,5,6,7,9,10,11,13,27,28,29,84] [2,3,4,13,801,802,803,804] ?_;refine cm (by simp[cN]) (ae fw [2,3] [2,3] ?_);exact aW (Aq fw (Aq @hp aiB))
    | [a],_=>
     rw[vg]at gk;have bC:True:=trivial;simp only[vg,aia,agW];refine ag fun K7 eL=>ae fw [2,3,4,5,6,7,9,10,11,12,13,27,28,29,53] [2,3,4,13,801,802,803,804] ?_;refine bd (ae fw [2,3,4,5,6,7,9,10,11,12,13,27,28,29,53,54] [2,3,4,13,801,802,803,804] ?_);refine aI (gH fw eL [2,3,4,5,6,7,9,10,11,12,13,27,28,29] [2,3,4,13,801,802,803,804] ?_);refine ag fun K8 fA=>?_;have qf:=(Aq fw @bC);refine ay [2,3,4,5,6,7,9,10,11,13,27,28,29,84] [2,3,4,13,801,802,803,804] ?_;refine cw (by simp[bC]) (ar (fA _ ?_));have eY:gO ln=mN 1 a hd rest:=gk;unfold mN at eY
     cases eI:(iH rest).2 with
     | some ci=>
      obtain⟨c,o⟩:=ci;have lf:=J1 eI
      have gq:¬ c=0:=aa
      rw[eI]at iR eY;dsimp only at eY;have hp:=kU c (pk+(hd.length+1+o.getD 0)) (by rw[gl,eY])
      cases o with
      | none=>
       simp only[dw,codeF,b7,ab]at iR
       have cX:((pk+(hd.length+1+(none:Option Nat).getD 0):Nat):Int)=(pk:Int)+(hd.length:Int)+1:=by simp;omega
       rw[show (some (pk+(hd.length+1+(none:Option Nat).getD 0)))=some (pk+(hd.length+1+(none:Option Nat).getD 0)) from rfl]at hp;have qf:=(Aq fw (Aq @bQ @p9));refine fj iR [2,3,4,5,6,7,10,11,13,14,15,27,28,29] [2,3,4,13,15,801,802,803,804] ?_;refine ag fun K9 jt=>?_;have qf:=(Aq fw @gq);refine ay [2,3,4,5,6,7,10,11,13,14,15,27,28,29,98] [2,3,4,13,15,801,802,803,804] ?_;refine cm (by simp[gq]) (o4 (aB _) ah [(2,15),(8,15),(12,2),(13,3)] [2,3] [2,3,13,15] aN ah fun K' ao=>?_);(repeat refine jm fun Kq af=>?_;simp[ab,dS,Et];(repeat refine⟨aa,?_⟩);refine af _ ?_);refine ky (ao _ ?_);refine AW.st (by simp[ab,dS,Et];rfl) ?_;refine bR ?_;simp[D.le,D.le.go,aL,ab,dS,hp,dU,ft,cj,dw,codeF,b7,cX];omega
      | some o=>
       have Ip:=Cr eI;simp only[dw,codeF,b7,ab]at iR
       have cX:((pk+(hd.length+1+(some o).getD 0):Nat):Int)=(pk:Int)+(hd.length:Int)+1+(o:Int):=by simp;omega
       have BD:¬ (o:Int) < 0:=aa
       have qf:=(Aq fw (Aq @bQ @p9));refine fj iR [2,3,4,5,6,7,10,11,13,14,15,27,28,29] [2,3,4,13,15,801,802,803,804] ?_;refine ag fun K9 jt=>?_;have qf:=(Aq fw @gq);refine ay [2,3,4,5,6,7,10,11,13,14,15,27,28,29,98] [2,3,4,13,15,801,802,803,804] ?_;refine cm (by simp[gq]) (o4 (aB _) ah [(2,15),(8,15),(12,2),(13,3)] [2,3] [2,3,13,15] aN ah fun K' ao=>?_);(repeat refine jm fun Kq af=>?_;simp[ab,dS,BD];(repeat refine⟨aa,?_⟩);refine af _ ?_);refine ky (ao _ ?_);refine AW.st (by simp[ab,dS,BD];rfl) ?_;refine bR ?_;simp[D.le,D.le.go,aL,ab,dS,hp,dU,ft,cj,dw,codeF,b7,cX];split<;>omega
     | none=>
      rw[eI]at iR eY;dsimp only at eY;obtain⟨e,zj⟩:=Cs eI;rw[zj]at iR eY;have hn:=eX _ (by rw[gl,eY])
      have lk:(s.ax ++ [(⟨1,a,some e⟩:iL)]).map eg=R1 ++ [[.v (.int .i64 1),.v (.string (bs a)),dR e]]:=by rw[agV,b2];rfl
      have dJ:dO (s.jD ++ [pk])=A2 ++ [[.v (.int .i64 pk)]]:=by rw[yA,b4];rfl
      obtain⟨cs,HE⟩:=yB e;simp only[dw,codeF,b7,ab,lV]at iR;rw[HE]at iR lk;have qf:=(Aq fw (Aq @bQ @p9));refine fj iR [2,3,4,5,6,7,10,11,13,14,15,27,28,29] [2,3,4,13,15,801,802,803,804] ?_;refine ag fun K9 jt=>ae fw [2,3,4,5,6,7,10,11,13,14,15,27,28,29,98] [2,3,4,13,15,801,802,803,804] ?_;refine al (ar (jt _ ?_));refine ae fw [2,3,4,5,6,7,10,13,27,28,29] [2,3,4,13,801,802,803,804] ?_;refine rg [2,3,4,5,6,7,27,28,29] [2,3,4,801,802,803,804] aN fun K' ao=>?_;(repeat refine aM fun Kq af=>?_;simp[ab,dS,sh];(repeat refine⟨aa,?_⟩);refine af _ ?_);refine bK (ao _ (AW.st (by simp[ab,dS,sh];rfl) ?_));refine bW (ck _ (cE fw ?_));(try simp only[aT,aV]);refine ba.mk (n+1) ⟨aa,_,hn⟩ aa ?_;have e1:=A3 _ hn;have e2:=A9 _ hn;have e3:=AZ _ hn;have e4:=A7 _ hn
      try dsimp only at e1 e2 e3 e4
      rw[b1]at e1;rw[lk]at e2;rw[b3]at e3;rw[dJ]at e4;refine aK.fk aN (by simp[ab,dS,e1,e2,e3,e4,fg]) (by simp[ab,dS,e1,e2,e3,e4,fg])
    | [a,b],XY=>
     rw[vg]at gk;simp only[vg,aia,agW];have ha:=XY a ak;have gN:aD prog G 175 [.sl none [[.v (.string (bs []))],[.v (.string (bs []))],[.v (.string (bs [115,101,116]))],[.v (.string (bs [114,101,115,101,116]))],[.v (.string (bs [114,117,110]))],[.v (.string (bs [99,111,117,110,116]))],[.v (.string (bs [122,101,114,111]))]],.v (.string (bs a))] (.v (.int .i64 (jX oT a))):=Jm G none oT a ha bO;have afw:jX oT a≠0:=OW (l:=oT) (k:=0) bO (fun h=>ha h.symm);have afx:jX oT a≠1:=OW (l:=oT) (k:=1) bO (fun h=>ha h.symm);have pc:=EP oT a;refine ag fun K7 eL=>ae fw [2,3,4,5,6,7,9,10,11,12,13,27,28,29,53] [2,3,4,13,801,802,803,804] ?_;refine bd (ae fw [2,3,4,5,6,7,9,10,11,12,13,27,28,29,53,54] [2,3,4,13,801,802,803,804] ?_);refine al (ae fw [2,3,4,5,6,7,9,10,11,12,13,27,28,29,60] [2,3,4,13,801,802,803,804] ?_);refine aI (rO (aB _) ah [(2,999),(3,999),(6,999),(7,999),(9,13),(11,13)] ah fun K' ao=>?_);(repeat refine jm fun Kq af=>?_;simp[ab,dS,qD];(repeat refine⟨aa,?_⟩);refine af _ ?_);refine jm fun Kq af=>?_;simp[ab,dS,qD];refine kG.data (gN) bA bA (by first | exact D.bJ _ | simp[aL,agF,agy,D.le,D.le.go,D.le_refl,D.bJ,ab,dS,qD]) ?_;refine af _ ?_;simp only[aR,dY];(repeat refine jm fun Kq af=>?_;simp[ab,dS,qD];(repeat refine⟨aa,?_⟩);refine af _ ?_);refine ky (ao _ ?_);refine eL _ (AW.norm [2,3,4,5,6,7,9,10,11,12,13,27,28,29] [2,3,4,13,801,802,803,804] aN (AW.st (by simp[ab,dS,qD];rfl) ?_));simp only[qj]at gk;generalize jX oT a=kk at *;by_cases ff:kk < 2
     .rw[if_pos ff]at gk
      have bC:kk < 1:=aa
      have hp:=kU 3 pk (by rw[gl,gk];try rfl);refine ag fun K8 fA=>?_;have qf:=(Aq fw @bC);refine ay [2,3,4,5,6,7,9,10,11,13,27,28,29,84] [2,3,4,13,801,802,803,804] ?_;refine cm (by simp[bC]) (ae fw [2,3] [2,3] ?_);exact aW (Aq fw (Aq @hp aiB))
     .rw[if_neg ff]at gk
      have bC:¬ kk < 1:=aa
      refine ag fun K8 fA=>?_;have qf:=(Aq fw @bC);refine ay [2,3,4,5,6,7,9,10,11,13,27,28,29,84] [2,3,4,13,801,802,803,804] ?_;refine cw (by simp[bC]) (ar (fA _ ?_));have eY:gO ln=mN kk b hd rest:=gk;unfold mN at eY
      cases eI:(iH rest).2 with
      | some ci=>
       obtain⟨c,o⟩:=ci;have lf:=J1 eI
       have gq:¬ c=0:=aa
       rw[eI]at iR eY;dsimp only at eY;have hp:=kU c (pk+(hd.length+1+o.getD 0)) (by rw[gl,eY])
       cases o with
       | none=>
        simp only[dw,codeF,b7,ab]at iR
        have cX:((pk+(hd.length+1+(none:Option Nat).getD 0):Nat):Int)=(pk:Int)+(hd.length:Int)+1:=by simp;omega
        rw[show (some (pk+(hd.length+1+(none:Option Nat).getD 0)))=some (pk+(hd.length+1+(none:Option Nat).getD 0)) from rfl]at hp;have qf:=(Aq fw (Aq @bQ @p9));refine fj iR [2,3,4,5,6,7,10,11,13,14,15,27,28,29] [2,3,4,13,15,801,802,803,804] ?_;refine ag fun K9 jt=>?_;have qf:=(Aq fw @gq);refine ay [2,3,4,5,6,7,10,11,13,14,15,27,28,29,98] [2,3,4,13,15,801,802,803,804] ?_;refine cm (by simp[gq]) (o4 (aB _) ah [(2,15),(8,15),(12,2),(13,3)] [2,3] [2,3,13,15] aN ah fun K' ao=>?_);(repeat refine jm fun Kq af=>?_;simp[ab,dS,Et];(repeat refine⟨aa,?_⟩);refine af _ ?_);refine ky (ao _ ?_);refine AW.st (by simp[ab,dS,Et];rfl) ?_;refine bR ?_;simp[D.le,D.le.go,aL,ab,dS,hp,dU,ft,cj,dw,codeF,b7,cX];omega
       | some o=>
        have Ip:=Cr eI;simp only[dw,codeF,b7,ab]at iR
        have cX:((pk+(hd.length+1+(some o).getD 0):Nat):Int)=(pk:Int)+(hd.length:Int)+1+(o:Int):=by simp;omega
        have BD:¬ (o:Int) < 0:=aa
        have qf:=(Aq fw (Aq @bQ @p9));refine fj iR [2,3,4,5,6,7,10,11,13,14,15,27,28,29] [2,3,4,13,15,801,802,803,804] ?_;refine ag fun K9 jt=>?_;have qf:=(Aq fw @gq);refine ay [2,3,4,5,6,7,10,11,13,14,15,27,28,29,98] [2,3,4,13,15,801,802,803,804] ?_;refine cm (by simp[gq]) (o4 (aB _) ah [(2,15),(8,15),(12,2),(13,3)] [2,3] [2,3,13,15] aN ah fun K' ao=>?_);(repeat refine jm fun Kq af=>?_;simp[ab,dS,BD];(repeat refine⟨aa,?_⟩);refine af _ ?_);refine ky (ao _ ?_);refine AW.st (by simp[ab,dS,BD];rfl) ?_;refine bR ?_;simp[D.le,D.le.go,aL,ab,dS,hp,dU,ft,cj,dw,codeF,b7,cX];split<;>omega
      | none=>
       rw[eI]at iR eY;dsimp only at eY;obtain⟨e,zj⟩:=Cs eI;rw[zj]at iR eY;have hn:=eX _ (by rw[gl,eY])
       have lk:(s.ax ++ [(⟨kk,b,some e⟩:iL)]).map eg=R1 ++ [[.v (.int .i64 kk),.v (.string (bs b)),dR e]]:=by rw[agV,b2];rfl
       have dJ:dO (s.jD ++ [pk])=A2 ++ [[.v (.int .i64 pk)]]:=by rw[yA,b4];rfl
       obtain⟨cs,HE⟩:=yB e;simp only[dw,codeF,b7,ab,lV]at iR;rw[HE]at iR lk;have qf:=(Aq fw (Aq @bQ @p9));refine fj iR [2,3,4,5,6,7,10,11,13,14,15,27,28,29] [2,3,4,13,15,801,802,803,804] ?_;refine ag fun K9 jt=>ae fw [2,3,4,5,6,7,10,11,13,14,15,27,28,29,98] [2,3,4,13,15,801,802,803,804] ?_;refine al (ar (jt _ ?_));refine ae fw [2,3,4,5,6,7,10,13,27,28,29] [2,3,4,13,801,802,803,804] ?_;refine rg [2,3,4,5,6,7,27,28,29] [2,3,4,801,802,803,804] aN fun K' ao=>?_;(repeat refine aM fun Kq af=>?_;simp[ab,dS,sh];(repeat refine⟨aa,?_⟩);refine af _ ?_);refine bK (ao _ (AW.st (by simp[ab,dS,sh];rfl) ?_));refine bW (ck _ (cE fw ?_));(try simp only[aT,aV]);refine ba.mk (n+1) ⟨aa,_,hn⟩ aa ?_;have e1:=A3 _ hn;have e2:=A9 _ hn;have e3:=AZ _ hn;have e4:=A7 _ hn
       try dsimp only at e1 e2 e3 e4
       rw[b1]at e1;rw[lk]at e2;rw[b3]at e3;rw[dJ]at e4;refine aK.fk aN (by simp[ab,dS,e1,e2,e3,e4,fg]) (by simp[ab,dS,e1,e2,e3,e4,fg])
    | a :: b :: c :: r,_=>
     rw[vg]at gk;simp only[vg,agW]
     have kQ:¬ ((r.length:Int)+1+1+1=1):=aa
     have oP:¬ ((r.length:Int)+1+1+1=2):=aa
     have Ob:¬ ((r.length:Int)+1+1+1 < 1):=aa
     have Oc:(r.length:Int)+1+1+1 > 2:=aa
     refine ag fun K7 eL=>ae fw [2,3,4,5,6,7,9,10,11,12,13,27,28,29,53] [2,3,4,13,801,802,803,804] ?_;refine bd ?_;have qf:=(Aq fw @kQ);refine ay [2,3,4,5,6,7,9,10,11,12,13,27,28,29,53,54] [2,3,4,13,801,802,803,804] ?_;refine cw (by simp[kQ]) ?_;have qf:=(Aq fw @oP);refine ay [2,3,4,5,6,7,9,10,11,12,13,27,28,29,60] [2,3,4,13,801,802,803,804] ?_;refine cw (by simp[oP]) (ar (eL _ ?_));have hp:=kU 3 pk (by rw[gl,gk];try rfl);refine ag fun K8 fA=>?_;have qf:=(Aq fw (Aq @Ob @Oc));refine ay [2,3,4,5,6,7,9,10,11,13,27,28,29,84] [2,3,4,13,801,802,803,804] ?_;refine cm (by simp[Ob,Oc]) (ae fw [2,3] [2,3] ?_);exact aW (Aq fw (Aq @hp aiB))
   .rw[if_neg uU]at gk iN;refine br fw iN [2,3,4,5,6,7,9,10,11,27,28,29] [2,3,4,801,802,803,804] ?_;refine ag fun K6 eH=>ae fw [2,3,4,5,6,7,9,10,11,27,28,29,46] [2,3,4,801,802,803,804] ?_;refine al (ar (eH _ ?_));refine br fw zr [2,3,4,5,6,7,10,16,27,28,29] [2,3,4,801,802,803,804] ?_
    obtain⟨a,r,rfl⟩:∃ a r,ws=a :: r:=by
     cases ws with
     | nil=>exact absurd rfl h0
     | cons a r=>exact⟨a,r,rfl⟩
    have ha:=(rF a ak).1;have gN:aD prog G 175 [.sl none [[.v (.string (bs []))],[.v (.string (bs [105,110,112,117,116]))],[.v (.string (bs [99,111,105,108]))],[.v (.string (bs [116,105,109,101,114]))],[.v (.string (bs [99,111,117,110,116,101,114]))]],.v (.string (bs a))] (.v (.int .i64 (jX so a))):=Jm G none so a ha bO;have pc:=EP so a;simp only[lq]at gk;generalize jX so a=kk at *;simp only[agW];refine o4 (aB _) ah [(2,999),(3,999),(7,17)] [2,3,4,5,6,7,10,16,17,27,28,29] [2,3,4,17,801,802,803,804] aN ah fun K' ao=>?_;(repeat refine jm fun Kq af=>?_;simp[ab,dS,qC];(repeat refine⟨aa,?_⟩);refine af _ ?_);refine jm fun Kq af=>?_;simp[ab,dS,qC];refine kG.data (gN) bA bA (by first | exact D.bJ _ | simp[aL,agF,agy,D.le,D.le.go,D.le_refl,D.bJ,ab,dS,qC]) ?_;refine af _ ?_;simp only[aR,dY];(repeat refine jm fun Kq af=>?_;simp[ab,dS,qC];(repeat refine⟨aa,?_⟩);refine af _ ?_);refine ky (ao _ ?_);refine AW.st (by simp[ab,dS,qC];rfl) ?_
    have eY:((r.map fun s=>[D.v (.string (bs s))]).length:Int)=(r.length:Int):=ak
    by_cases k1:kk < 1
    .have l5:gO ln = .form:=by
      rw[gk]
      match r with
      | []=>rfl
      | [b]=>rw[gE,if_neg aa]
      | [b,c]=>rw[gE,if_neg aa]
      | b :: c :: d :: r=>rfl
     have hp:=kU 3 pk (by rw[gl,l5]);refine ag fun ot e7=>?_;have qf:=(Aq fw @k1);refine ay [2,3,4,5,6,7,10,16,17,27,28,29,153] [2,3,4,17,801,802,803,804] ?_;refine cm (by simp[k1]) (ae fw [2,3] [2,3] ?_);exact aW (Aq fw (Aq @hp aiB))
    by_cases k3:kk < 3
    .have jf:¬ kk >= 3:=aa
     match r,gk with
     | [b],gk=>
      have l5:gO ln = .name ⟨b,kk,0⟩:=by rw[gk,gE,if_pos aa]
      simp only[agW,aia];refine ag fun ot e7=>?_;have qf:=(Aq fw (Aq @k1 (Aq @k3 @jf)));refine ay [2,3,4,5,6,7,10,16,17,27,28,29,153] [2,3,4,17,801,802,803,804] ?_;refine cw (by simp[k1,k3,jf]) (ar (e7 _ ?_));refine ae fw [2,3,4,5,6,7,10,16,17,27,28,29] [2,3,4,17,801,802,803,804] ?_;refine ag fun sR mj=>?_;have qf:=(Aq fw (Aq @k1 (Aq @k3 @jf)));refine ay [2,3,4,5,6,7,10,16,17,27,28,29,163] [2,3,4,17,801,802,803,804] ?_;refine cw (by simp[jf]) (ar (mj _ ?_));refine ag fun mT gp=>?_;by_cases mF:s.ax=[]
      .have hn:=eX _ (by rw[gl,l5];exact if_pos mF);have px:A2=[]:=ahV.1 (by rw[wH,mF];rfl)
       have lk:(s.names ++ [(⟨b,kk,0⟩:gz)]).map bo=N1 ++ [[.v (.string (bs b)),.v (.int .i64 kk),.v (.int .i64 0)]]:=by rw[agV,b1];rfl
       have dJ:dO (s.jz ++ [pk])=A1 ++ [[.v (.int .i64 pk)]]:=by rw[yA,b3];rfl
       subst px;refine ae fw [2,3,4,5,6,7,10,17,27,28,29,180] [2,3,4,17,801,802,803,804] ?_;refine al (ar (gp _ ?_));refine eU (aB _) fun K' ao=>?_;(repeat refine aM fun Kq af=>?_;simp[ab,dS,sh];(repeat refine⟨aa,?_⟩);refine af _ ?_);refine bK (ao _ ?_);refine ck _ (AW.norm [2,3,4,5,6,7,27,28,29] [2,3,4,801,802,803,804] aN (AW.st (by simp[ab,dS,sh];rfl) ?_));refine cE fw ?_;(try simp only[aT,aV]);refine ba.mk (n+1) ⟨aa,_,hn⟩ aa ?_;have e1:=A3 _ hn;have e2:=A9 _ hn;have e3:=AZ _ hn;have e4:=A7 _ hn
       try dsimp only at e1 e2 e3 e4
       rw[lk]at e1;rw[b2]at e2;rw[dJ]at e3;rw[b4]at e4;refine aK.fk aN (by simp[ab,dS,e1,e2,e3,e4,fg]) (by simp[ab,dS,e1,e2,e3,e4,fg])
      .have hp:=kU 3 pk (by rw[gl,l5];exact if_neg mF)
       have px:0 < A2.length:=by rw[wH];exact ahu.2 mF
       have qf:=(Aq fw @px);refine ay [2,3,4,5,6,7,10,17,27,28,29,180] [2,3,4,17,801,802,803,804] ?_;refine cm (by simp[px]) (ae fw [2,3] [2,3] ?_);exact aW (Aq fw (Aq @hp aiB))
     | [],gk=>
      have l5:gO ln = .form:=gk;simp only[aia];have hp:=kU 3 pk (by rw[gl,l5]);refine ag fun ot e7=>?_;have qf:=(Aq fw (Aq @k1 @k3));refine ay [2,3,4,5,6,7,10,16,17,27,28,29,153] [2,3,4,17,801,802,803,804] ?_;refine cm (by simp[k1,k3]) (ae fw [2,3] [2,3] ?_);exact aW (Aq fw (Aq @hp aiB))
     | b :: c :: r,gk=>
      have l5:gO ln = .form:=by
       rw[gk]
       match r with
       | []=>rw[gE,if_neg aa]
       | d :: r=>rfl
      have hq:¬ ((r.length:Int)+1+1+1=2):=aa
      simp only[agW];have hp:=kU 3 pk (by rw[gl,l5]);refine ag fun ot e7=>?_;have qf:=(Aq fw (Aq @k1 (Aq @k3 @hq)));refine ay [2,3,4,5,6,7,10,16,17,27,28,29,153] [2,3,4,17,801,802,803,804] ?_;refine cm (by simp[k1,k3,hq]) (ae fw [2,3] [2,3] ?_);exact aW (Aq fw (Aq @hp aiB))
    have jf:kk >= 3:=aa
    match r,gk with
    | [b,c],gk=>
     have cN:c.length<=20000:=by have:=(rF c ak).2;omega
     have oK:=adl G hP hE c aa;simp only[dS]at oK;simp only[gE,if_pos jf]at gk;simp only[agW,aia];refine ag fun ot e7=>?_;have qf:=(Aq fw (Aq @k1 (Aq @k3 @jf)));refine ay [2,3,4,5,6,7,10,16,17,27,28,29,153] [2,3,4,17,801,802,803,804] ?_;refine cw (by simp[k1,k3,jf]) (ar (e7 _ ?_));refine ae fw [2,3,4,5,6,7,10,16,17,27,28,29] [2,3,4,17,801,802,803,804] ?_;refine ag fun sR mj=>?_;have qf:=(Aq fw (Aq @k1 (Aq @k3 @jf)));refine ay [2,3,4,5,6,7,10,16,17,27,28,29,163] [2,3,4,17,801,802,803,804] ?_;refine cm (by simp[jf]) ?_
     cases zh:vw c with
     | none=>
      rw[zh]at oK gk;simp only[wo]at oK;have l5:gO ln = .form:=gk;have hp:=kU 3 pk (by rw[gl,l5]);refine br fw oK [2,3,4,5,6,7,10,17,18,19,27,28,29] [2,3,4,17,801,802,803,804] ?_;refine ag fun vY j9=>ae fw [2,3,4,5,6,7,10,17,18,27,28,29,172] [2,3,4,17,801,802,803,804] ?_;refine aI (ae fw [2,3] [2,3] ?_);exact aW (Aq fw (Aq @hp aiB))
     | some v=>
      rw[zh]at oK gk;simp only[wo]at oK;have l5:gO ln = .name ⟨b,kk,v⟩:=gk;refine br fw oK [2,3,4,5,6,7,10,17,18,19,27,28,29] [2,3,4,17,801,802,803,804] ?_;refine ag fun vY j9=>ae fw [2,3,4,5,6,7,10,17,18,27,28,29,172] [2,3,4,17,801,802,803,804] ?_;refine al (ar (j9 _ ?_));refine gH fw mj [2,3,4,5,6,7,10,17,27,28,29] [2,3,4,17,801,802,803,804] ?_;refine ag fun mT gp=>?_;by_cases mF:s.ax=[]
      .have hn:=eX _ (by rw[gl,l5];exact if_pos mF);have px:A2=[]:=ahV.1 (by rw[wH,mF];rfl)
       have lk:(s.names ++ [(⟨b,kk,v⟩:gz)]).map bo=N1 ++ [[.v (.string (bs b)),.v (.int .i64 kk),.v (.int .i64 v)]]:=by rw[agV,b1];rfl
       have dJ:dO (s.jz ++ [pk])=A1 ++ [[.v (.int .i64 pk)]]:=by rw[yA,b3];rfl
       subst px;refine ae fw [2,3,4,5,6,7,10,17,27,28,29,180] [2,3,4,17,801,802,803,804] ?_;refine al (ar (gp _ ?_));refine eU (aB _) fun K' ao=>?_;(repeat refine aM fun Kq af=>?_;simp[ab,dS,sh];(repeat refine⟨aa,?_⟩);refine af _ ?_);refine bK (ao _ ?_);refine ck _ (AW.norm [2,3,4,5,6,7,27,28,29] [2,3,4,801,802,803,804] aN (AW.st (by simp[ab,dS,sh];rfl) ?_));refine cE fw ?_;(try simp only[aT,aV]);refine ba.mk (n+1) ⟨aa,_,hn⟩ aa ?_;have e1:=A3 _ hn;have e2:=A9 _ hn;have e3:=AZ _ hn;have e4:=A7 _ hn
       try dsimp only at e1 e2 e3 e4
       rw[lk]at e1;rw[b2]at e2;rw[dJ]at e3;rw[b4]at e4;refine aK.fk aN (by simp[ab,dS,e1,e2,e3,e4,fg]) (by simp[ab,dS,e1,e2,e3,e4,fg])
      .have hp:=kU 3 pk (by rw[gl,l5];exact if_neg mF)
       have px:0 < A2.length:=by rw[wH];exact ahu.2 mF
       have qf:=(Aq fw @px);refine ay [2,3,4,5,6,7,10,17,27,28,29,180] [2,3,4,17,801,802,803,804] ?_;refine cm (by simp[px]) (ae fw [2,3] [2,3] ?_);exact aW (Aq fw (Aq @hp aiB))
    | [],gk=>
     have l5:gO ln = .form:=gk;simp only[aia];have hp:=kU 3 pk (by rw[gl,l5]);refine ag fun ot e7=>?_;have qf:=(Aq fw (Aq @k1 (Aq @k3 @jf)));refine ay [2,3,4,5,6,7,10,16,17,27,28,29,153] [2,3,4,17,801,802,803,804] ?_;refine cm (by simp[k1,k3,jf]) (ae fw [2,3] [2,3] ?_);exact aW (Aq fw (Aq @hp aiB))
    | [b],gk=>
     have l5:gO ln = .form:=by rw[gk,gE,if_neg aa]
     simp only[agW,aia];have hp:=kU 3 pk (by rw[gl,l5]);refine ag fun ot e7=>?_;have qf:=(Aq fw (Aq @k1 (Aq @k3 @jf)));refine ay [2,3,4,5,6,7,10,16,17,27,28,29,153] [2,3,4,17,801,802,803,804] ?_;refine cm (by simp[k1,k3,jf]) (ae fw [2,3] [2,3] ?_);exact aW (Aq fw (Aq @hp aiB))
    | b :: c :: d :: r,gk=>
     have l5:gO ln = .form:=gk
     have hq:¬ ((r.length:Int)+1+1+1+1=3):=aa
     simp only[agW];have hp:=kU 3 pk (by rw[gl,l5]);refine ag fun ot e7=>?_;have qf:=(Aq fw (Aq @k1 (Aq @k3 (Aq @jf @hq))));refine ay [2,3,4,5,6,7,10,16,17,27,28,29,153] [2,3,4,17,801,802,803,804] ?_;refine cm (by simp[k1,k3,jf,hq]) (ae fw [2,3] [2,3] ?_);exact aW (Aq fw (Aq @hp aiB))
  .obtain rfl:n=l.length:=aa
   refine cw ak ?_;have eI:=J0 (s:=s) aa (hl ▸ hs);have cz:=Cy (t:=t) aa (agD _) (hl ▸ hs);have zo:=Qq cz (by rw[<- hl];omega);have jS:=aaZ G hF hM ⟨s.names,s.ax⟩ zo;obtain⟨fN,eY,fy,_,_⟩:=cz;rw[<- hl]at fy;have b1:=A4 _ s hs;have b2:=Ba _ s hs;have b3:=A0 _ s hs;have b4:=A8 _ s hs;simp only[dU,ft,cj]at jS;rw[<- b1,<- b2]at jS
   have afk:(NA l.length).length=s.names.length:=by rw[b3];simp[dO,fN]
   have afl:(RA l.length).length=s.ax.length:=by rw[b4];simp[dO,eY]
   have ka:=fun i h=>ME (s.jz ++ s.jD) i h;rw[yA,<- b3,<- b4]at ka;have q1:(∀ el∈RA l.length,el.length=1)=True:=eq_true (by rw[b4];simp[dO]);have q2:(∀ el∈RA l.length,∀ c∈el,c.one=true)=True:=eq_true (by rw[b4];simp[dO,ab,D.one])
   have Iv:dU ⟨s.names,s.ax⟩ = .agg [.sl none (NN l.length),.sl none (RR l.length)]:=by rw[b1,b2];rfl
   have Yi:=fun c o=>GD (p:=⟨s.names,s.ax⟩) (c:=c) (o:=o)
   have It:∀ c i,dr ⟨s.names,s.ax⟩=some (c,some i)->i < (s.jz ++ s.jD).length:=fun c i h=>by have:=LU h;simp at this ⊢;omega
   refine bW (au _ ?_);generalize NN l.length=N1 at *;generalize RR l.length=R1 at *;generalize NA l.length=A1 at *;generalize RA l.length=A2 at *;refine AW.imp (aK.freeze 801 trivial) ?_;refine AW.st (by simp[ab,dS];rfl) ?_;refine AW.imp (aK.freeze 802 trivial) ?_;refine AW.st (by simp[ab,dS];rfl) ?_;refine AW.imp (aK.freeze 804 trivial) ?_;refine AW.st (by simp[ab,dS];rfl) ?_
   cases aZ:dr ⟨s.names,s.ax⟩ with
   | none=>
    rw[aZ]at jS eI;dsimp only at eI;simp only[dw,codeF,b7,ab]at jS;refine br fw jS [2,3,4,5,6,20] [2,3,4,20,803] ?_;refine ag fun yh rr=>ae fw [2,3,4,5,6,20,199] [2,3,4,20,803] ?_;refine al (ar (rr _ ?_));refine o4 (aB _) ah [(0,4),(2,2),(3,3)] [2,3] [2,3] aN ah fun K' ao=>?_;(repeat refine jm fun Kq af=>?_;simp[ab,dS,MX];(repeat refine⟨aa,?_⟩);refine af _ ?_);refine ky (ao _ ?_);refine AW.st (by simp[ab,dS,MX];rfl) ?_;exact aW (Aq fw (Aq @eI (Aq @Iv (Aq @aij (Aq @aik (Aq @ail (Aq @aim @ain)))))))
   | some ci=>
    obtain⟨c,o⟩:=ci;have lf:=Yi c o aZ;rw[aZ]at jS eI
    cases o with
    | none=>
     dsimp only at eI;simp only[dw,codeF,b7,ab]at jS;refine br fw jS [2,3,4,5,6,20] [2,3,4,20,803] ?_;refine ag fun yh rr=>?_;have qf:=(Aq fw @lf);refine ay [2,3,4,5,6,20,199] [2,3,4,20,803] ?_;refine cm (by simp[lf]) (ag fun C7 tw=>?_);refine ae fw [2,3,5,6,20,202] [2,3,4,20,803] ?_;refine al (ar (tw _ ?_));refine o4 (aB _) ah [(1,20),(2,2),(3,3)] [2,3] [2,3] aN ah fun K' ao=>?_;(repeat refine jm fun Kq af=>?_;simp[ab,dS];(repeat refine⟨aa,?_⟩);refine af _ ?_);refine ky (ao _ ?_);refine AW.st (by simp[ab,dS];rfl) ?_;exact aW (Aq fw (Aq @eI aiB))
    | some i=>
     dsimp only at eI;have hi:=It c i aZ;obtain⟨dD,nN⟩:=BY.1 (ka i hi);clear ka
     have NJ:i < A1.length+A2.length:=by simpa using dD
     have zb:(i:Int) < (A1.length:Int)+(A2.length:Int):=aa
     simp only[dw,codeF,b7,ab]at jS nN;generalize (s.jz ++ s.jD).getD i 0=pl at nN eI;refine br fw jS [2,3,4,5,6,20] [2,3,4,20,803] ?_;refine ag fun yh rr=>?_;have qf:=(Aq fw @lf);refine ay [2,3,4,5,6,20,199] [2,3,4,20,803] ?_;refine cm (by simp[lf]) (ag fun C7 tw=>?_);refine ae fw [2,3,5,6,20,202] [2,3,4,20,803] ?_;refine cm ak ?_;refine sM (aB _) ah ([(2,(803,803))]) ([(3,[803]),(4,[803]),(7,[803])]) ([0,1,3,4,2,5,6,7,8]) ah fun K' ao=>?_;(repeat refine qV rfl fun K2 au=>?_;simp[ab,dS,AH,q1,q2,dD,NJ,zb,nN,sh];(repeat refine⟨aa,?_⟩);refine au _ ?_;clear au K2);refine sI (ao _ ?_);refine tw _ (AW.norm [2,3,20] [2,3,4,20] aN (AW.st (by simp[ab,dS,AH,q1,q2,dD,NJ,zb,nN,sh];rfl) ?_));refine o4 (aB _) ah [(1,20),(2,2),(3,3)] [2,3] [2,3] aN ah fun K' ao=>?_;(repeat refine jm fun Kq af=>?_;simp[ab,dS];(repeat refine⟨aa,?_⟩);refine af _ ?_);refine ky (ao _ ?_);refine AW.st (by simp[ab,dS];rfl) ?_;exact aW (Aq fw (Aq @eI aiB))
theorem Rh {k:Int} {nm hd rest:Tx} {c:Int} {o:Nat} (h:mN k nm hd rest = .bad c o):c≠0:=by
 unfold mN at h;split at h
 .rename_i c' o' he;simp only[ra.bad.injEq]at h;have:=J1 he;omega
 .cases h
theorem adz {hd rest:Tx} {l:List Tx} {c:Int} {o:Nat} (h:qj hd rest l = .bad c o):c≠0:=by
 unfold qj at h;split at h
 .exact Rh h
 .split at h
  .cases h
  .exact Rh h
 .cases h
theorem abD {l:List Tx} {c:Int} {o:Nat} (h:lq l = .bad c o):c≠0:=by
 unfold lq at h;split at h
 .unfold gE at h;split at h
  .split at h<;>cases h
  .split at h
   .split at h<;>cases h
   .cases h
  .cases h
 .cases h
theorem aa6 {s:Tx} {c:Int} {o:Nat} (h:gO s = .bad c o):c≠0:=by
 unfold gO at h;split at h
 .exact adz h
 .exact abD h
theorem Qj {l:List Tx}:∀ {k:Nat} {c:Int} {i:Nat},gn l k = .inl (c,i)->c≠0
 | 0,c,i,h=>by cases h
 | k+1,c,i,h=>by
  rw[gn]at h
  cases hk:gn l k with
  | inl e=>
   rw[hk]at h;obtain⟨c',i'⟩:=e;simp only[Sum.inl.injEq,agA]at h;have:=Qj hk;omega
  | inr s0=>
   rw[hk]at h;dsimp only at h;unfold ly at h;split at h
   .cases h
   .split at h
    .simp only[Sum.inl.injEq,agA]at h;omega
    .rename_i hb;simp only[Sum.inl.injEq,agA]at h;have:=aa6 hb;omega
    .split at h
     .cases h
     .simp only[Sum.inl.injEq,agA]at h;omega
    .cases h
theorem ace {t:Tx} {c:Int} {o:Option Nat} (h:(jB t).1=some (c,o)):c≠0:=by
 unfold jB at h;split at h
 .simp only[IT,agA]at h;omega
 .split at h
  .rename_i c' i' hp;simp only[IT,agA]at h;have:=Qj hp;omega
  .split at h
   .cases h
   .rename_i c' hc;simp only[IT,agA]at h;have:=GD hc;omega
   .rename_i c' i' hc;simp only[IT,agA]at h;have:=GD hc;omega
end Go.Proofs.YtoohljflflnbeaaGreatDoor
namespace Go.Av
section
variable {P:Program} {T:Ty} {Mv X:Nat->Prop} {G:aC} {N:Fr} {w:World} {μ:Mu} {a:Act} {σ:St} {ops:Array Oper}
def patch (R:List Nat) (H0 H2:Heap):Heap:=fun q=>if R.contains q then H0 q else H2 q
def sP (R:List Nat) (H:Heap):Prop:=∀ q,R.contains q=true->H q=none\/∃ (t:TypeId) (cs:List D),H q=some (.box t (cs.map AV.d))
def v7 (R:List Nat) (H0 H:Heap):Prop:=∀ q,R.contains q=false->H0 q=H q
def zQ (R:List Nat):AV->Bool
 | .ref r _ _=>!R.contains r
 | _=>true
def vX (P:Program) (G:aC) (mvd R:List Nat) (g:FuncId) (xs:List AV) (H:Heap) (y:AV) (H2:Heap):Prop:=
 sP R H/\(∀ q,R.contains q=true->H2 q=H q)/\∀ H0,sP R H0->v7 R H0 H->HC P G mvd g xs H0 y (patch R H0 H2)
theorem J4 {R:List Nat} {H H2:Heap} (h:∀ q,R.contains q=true->H2 q=H q):patch R H H2=H2:=by
 funext q;unfold patch;split
 .rename_i hq;exact (h q hq).symm
 .rfl
theorem vX.hc {mvd R:List Nat} {g:FuncId} {xs:List AV} {H H2:Heap} {y:AV} (h:vX P G mvd R g xs H y H2):HC P G mvd g xs H y H2:=by
 have:=h.2.2 H h.1 fun _ _=>rfl
 rwa [J4 h.2.1]at this
theorem vX.swap {mvd R:List Nat} {g:FuncId} {xs:List AV} {H H2 H':Heap} {y:AV} (h:vX P G mvd R g xs H y H2) (hc:sP R H') (ho:v7 R H' H):vX P G mvd R g xs H' y (patch R H' H2):=by
 refine⟨hc,fun q hq=>by unfold patch;rw[if_pos hq],fun H0 h0 BJ=>?_⟩
 have e:patch R H0 (patch R H' H2)=patch R H0 H2:=by
  funext q;unfold patch;split
  .rfl
  .rfl
 rw[e];exact h.2.2 H0 h0 fun q hq=>(BJ q hq).trans (ho q hq)
theorem jH.swap {R:List Nat} {H H2 H':Heap} {p:Nat×AV} (h:jH T ops H H2 p) (hp:zQ R p.2=true) (ho:v7 R H' H):jH T ops H' (patch R H' H2) p:=by
 obtain⟨k,v⟩:=p;unfold jH at h ⊢;dsimp only at h hp ⊢
 cases he:ops[k]? with
 | none=>rw[he]at h;exact h.elim
 | some o=>
  rw[he]at h;dsimp only at h ⊢
  split at h<;>try exact h.elim
  cases v with
  | ref r e j=>
   simp only[zQ,ahY]at hp;have e1:=ho r hp
   have e2:patch R H' H2 r=H2 r:=by unfold patch;rw[if_neg (by rw[hp];decide)]
   unfold n5 at h ⊢;dsimp only at h ⊢;rw[e1,e2];exact h
  | d x=>cases x<;>rfl
  | _=>rfl
theorem VF {R:List Nat} {H:Heap} {d:Nat} {t:TypeId} {cs:List D} (h:sP R H):sP R (aX H d (.box t (cs.map AV.d))):=fun q hq=>by
 unfold aX;split
 .exact .inr ⟨t,cs,rfl⟩
 .exact h q hq
theorem VG {R:List Nat} {H:Heap} {d:Nat} {b:Row} (h:sP R (aX H d b)) (hd:H d=none):sP R H:=fun q hq=>by
 by_cases e:q=d
 .subst e;exact .inl hd
 .have:=h q hq;unfold aX at this
  rwa [if_neg e]at this
theorem JW {R:List Nat} {H:Heap} {d:Nat} {b:Row} (hd:R.contains d=true):v7 R (aX H d b) H:=fun q hq=>by
 unfold aX;rw[if_neg (fun e=>by subst e;rw[hd]at hq;cases hq)]
theorem v7.symm {R:List Nat} {H H':Heap} (h:v7 R H H'):v7 R H' H:=fun q hq=>(h q hq).symm
theorem Qh {R:List Nat} {H H2:Heap} {d:Nat} {b:Row} (hd:R.contains d=true):aX (patch R H H2) d b=patch R (aX H d b) H2:=by
 funext q;unfold aX patch;by_cases e:q=d
 .subst e;simp only[if_true,hd]
 .simp only[if_neg e]
theorem aci {R:List Nat} {H H2:Heap} {d:Nat} {b:Row} (hd:R.contains d=true) (h:∀ q,R.contains q=true->H2 q=H q):patch R (aX H d b) H2=aX H2 d b:=by
 rw[<- Qh hd,J4 h]
def xF (R:List Nat) (o:Oper):Bool:=match o.op,o.dst with
 | .alloc _,some d=>R.contains d
 | _,_=>false
theorem SV {R:List Nat} {o:Oper} (h:xF R o=true):∃ t d,o.op = .alloc t/\o.dst=some d/\R.contains d=true:=by
 unfold xF at h;split at h
 .rename_i t d h1 h2;exact⟨t,d,h1,h2,h⟩
 .cases h
theorem Lu {R:List Nat} {o:Oper} (h:xF R o=true) {e:Env} {H H':Heap} {x:AV} (hx:Ex P T Mv G o e H x H'):∃ (d:Nat) (t:TypeId) (cs:List D),R.contains d=true/\H d=none/\H'=aX H d (.box t (cs.map AV.d))/\∀ e2 H2,H2 d=none->Ex P T Mv G o e2 H2 x (aX H2 d (.box t (cs.map AV.d))):=by
 obtain⟨t,d,h1,h2,h3⟩:=SV h;obtain⟨dst,op,type,pos,after,guard⟩:=o;dsimp only at h1 h2;subst h1 h2;unfold Ex at hx ⊢;simp only[ey,gD,if_true]at hx ⊢;obtain⟨c,hw,hc⟩:=hx;unfold wr at hw ⊢;dsimp only at hw ⊢
 cases hT:T t with
 | none=>rw[hT]at hw;cases hw
 | some ti=>
  rw[hT]at hw;dsimp only at hw;simp only[IT,agA,St.mk.injEq]at hw;obtain⟨rfl,rfl,_,rfl⟩:=hw;exact⟨d,t,kz ti.zero,h3,hc,rfl,fun e2 H2 hn=>⟨_,rfl,hn⟩⟩
def Su (P:Program) (T:Ty) (Mv:Nat->Prop) (G:aC) (mvd R:List Nat) (ops:Array Oper) (ex:List (Nat×AV)) (o:Oper) (σ aJ:St):Prop:=∃ c g xs y H2,ey o.op=some c/\lz G σ.env c=some (g,xs)/\(∀ r∈mvd,Mv r)/\vX P G mvd R g xs σ.H y H2/\(∀ p∈ex,jH T ops σ.H H2 p/\zQ R p.2=true)/\kB mvd y/\aJ=⟨aR σ.env o.dst y,H2⟩
def yb (P:Program) (T:Ty) (Mv:Nat->Prop) (G:aC) (N:Fr) (mvd R db hv:List Nat) (ex:List (Nat×AV)) (ops:Array Oper) (i:Nat) (o:Oper) (σ aJ:St):Prop:=
 gP N o/\o.guard=none/\pP mvd σ.env/\((db.contains i=true/\∃ c y,ow T G σ.env o=some (c,y)/\c/\aJ=⟨aR σ.env o.dst (.d y),σ.H⟩)\/
  (db.contains i=false/\hv.contains i=true/\Su P T Mv G mvd R ops ex o σ aJ)\/
  (db.contains i=false/\hv.contains i=false/\kindOf o.op≠9/\qc G ex i o σ.env/\∃ x H',Ex P T Mv G o σ.env σ.H x H'/\kB mvd x/\aJ=⟨aR σ.env o.dst x,H'⟩))
theorem Tr {mvd R db hv:List Nat} {ex:List (Nat×AV)} {i:Nat} {o:Oper} {σ aJ:St} (h:yb P T Mv G N mvd R db hv ex ops i o σ aJ):vZ P T Mv G N mvd db hv ex ops i o σ aJ:=by
 obtain⟨h1,h2,h3,h⟩:=h;refine⟨h1,h2,h3,?_⟩
 rcases h with h | ⟨b,v,c,g,xs,y,H2,hc,ht,hm,hh,hl,ho,e⟩ | h
 .exact .inl h
 .exact .inr (.inl ⟨b,v,c,g,xs,y,H2,hc,ht,hm,hh.hc,fun p hp=>(hl p hp).1,ho,e⟩)
 .exact .inr (.inr h)
theorem Ts (hg:Good P T) (mvd R db hv:List Nat) (ex:List (Nat×AV)):Sound P X G N Mv (yb P T Mv G N mvd R db hv ex ops) ops:=fun i o ho σ aJ h=>Px hg mvd db hv ex i o ho σ aJ (Tr h)
def Ds (R db hv:List Nat) (ex:List (Nat×AV)) (ops:Array Oper) (i j:Nat) (oi oj:Oper):Bool:=oi.apart ops oj && (db.contains i || db.contains j ||
 (if hv.contains i then !hv.contains j && (kindOf oj.op == 0 || (ex.lookup j).isSome || xF R oj) else if hv.contains j then kindOf oi.op == 0 || (ex.lookup i).isSome || xF R oi else uo (kindOf oi.op) (kindOf oj.op)))
theorem Tt (mvd R db hv:List Nat) (ex:List (Nat×AV)):yi (yb P T Mv G N mvd R db hv ex ops) (Ds R db hv ex ops) ops:=fun i j oi oj ik fD hc σ bh iy h1 h2=>by
 simp only[Ds,abi]at hc;obtain⟨gL,je⟩:=hc;obtain⟨di,gi,oE,h1⟩:=h1;obtain⟨dj,gj,_,h2⟩:=h2;have fV:∀ v,iA oj.op (aR σ.env oi.dst v) σ.env:=fun v t ht=>(kD gL (e:=σ.env) (v:=v)).1 t (lP ht);have gJ:∀ v,iA oi.op σ.env (aR σ.env oj.dst v):=fun v t ht=>((kD gL (e:=σ.env) (v:=v)).2.1 t (lP ht)).symm;have bl:=(kD gL (e:=σ.env) (v:=dN)).2.2;have tg:∀ {o:Oper} {c:Call} {e e':Env},ey o.op=some c->iA o.op e e'->lz G e c=lz G e' c:=fun {o c e e'} hc ha=>z7 fun t ht=>ha t (by rw[(vh hc).1];exact ht)
 have qd:∀ {k:Nat} {o:Oper} {e e':Env},iA o.op e e'->qc G ex k o e->qc G ex k o e':=fun {k o e e'} ha h=>by
  unfold qc at h ⊢;split
  .rename_i pv hl;simp only[hl]at h;split
   .rename_i t x kb;simp only[kb]at h;rw[<- fm (x:=x) fun t' vd=>ha t' (by rw[kb,vd];simp[Op.operands])];exact h
   .rename_i jc;split at h
    .rename_i t x kb;exact absurd kb (jc t x)
    .exact h
  .trivial
 rcases h1 with⟨bi,c,y,e1,c1,rfl⟩ | ⟨bi,vi,c,g,xs,y,H2,iN,ti,gu,cN,jU,oy,rfl⟩ | ⟨bi,vi,k1,l1,x,H',e1,ox,rfl⟩
 .-- data first
  rcases h2 with⟨bj,c',z,e2,c2,rfl⟩ | ⟨bj,vj,c',g,xs,z,H2,pf,tj,gu,cN,jU,oz,rfl⟩ | ⟨bj,vj,k2,l2,z,H2,e2,oz,rfl⟩
  .rw[nH (fV _)]at e2;refine⟨⟨aR σ.env oj.dst (.d z),σ.H⟩,⟨dj,gj,oE,.inl ⟨bj,c',z,e2,c2,rfl⟩⟩,di,gi,oE.put (kB.d _ _) _,.inl ⟨bi,c,y,?_,c1,?_⟩⟩
   .rw[<- nH (gJ _)];exact e1
   .rw[iI bl]
  .rw[tg pf (fV _)]at tj;refine⟨⟨aR σ.env oj.dst z,H2⟩,⟨dj,gj,oE,.inr (.inl ⟨bj,vj,c',g,xs,z,H2,pf,tj,gu,cN,jU,oz,rfl⟩)⟩,di,gi,oE.put oz _,.inl ⟨bi,c,y,?_,c1,?_⟩⟩
   .rw[<- nH (gJ _)];exact e1
   .rw[iI bl]
  .refine⟨⟨aR σ.env oj.dst z,H2⟩,⟨dj,gj,oE,.inr (.inr ⟨bj,vj,k2,qd (fV _) l2,z,H2,e2.congr k2 (fV _),oz,rfl⟩)⟩,di,gi,oE.put oz _,.inl ⟨bi,c,y,?_,c1,?_⟩⟩
   .rw[<- nH (gJ _)];exact e1
   .rw[iI bl]
 .-- a call first
  rcases h2 with⟨bj,c',z,e2,c2,rfl⟩ | ⟨bj,vj,_⟩ | ⟨bj,vj,k2,l2,z,H3,e2,oz,rfl⟩
  .rw[nH (fV _)]at e2;refine⟨⟨aR σ.env oj.dst (.d z),σ.H⟩,⟨dj,gj,oE,.inl ⟨bj,c',z,e2,c2,rfl⟩⟩,di,gi,oE.put (kB.d _ _) _,.inr (.inl ⟨bi,vi,c,g,xs,y,H2,iN,?_,gu,cN,jU,oy,?_⟩)⟩
   .rw[<- tg iN (gJ _)];exact ti
   .rw[iI bl]
  .rw[bi,bj,vi]at je;simp[vj]at je
   simp_all
  .rw[bi,bj]at je;have uP:=e2.congr k2 (fV _);have zC:=qd (fV _) l2
   have hp:(kindOf oj.op=0\/(ex.lookup j).isSome=true)\/xF R oj=true:=by
    simp only[ah2,vi,vj,if_true,ahw,Bool.true_and]at je;simpa[or_assoc]using je
   rcases hp with hp | hp
   .have hq:H3=H2/\Ex P T Mv G oj σ.env σ.H z σ.H:=by
     rcases hp with hp | hp
     .exact⟨uP.keeps aa,uP.free hp σ.H⟩
     .obtain⟨pv,mD⟩:=aht.1 hp;have hs:=(jU _ (E6 mD)).1;refine zD fD mD zC ?_ uP;unfold jH at hs ⊢;simp only[fD]at hs ⊢;split<;>simp_all
    obtain⟨rfl,e3⟩:=hq;refine⟨⟨aR σ.env oj.dst z,σ.H⟩,⟨dj,gj,oE,.inr (.inr ⟨bj,vj,k2,zC,z,σ.H,e3,oz,rfl⟩)⟩,di,gi,oE.put oz _,.inr (.inl ⟨bi,vi,c,g,xs,y,H3,iN,?_,gu,cN,jU,oy,?_⟩)⟩
    .rw[<- tg iN (gJ _)];exact ti
    .rw[iI bl]
   .obtain⟨d,t,cs,hd,hn,rfl,mG⟩:=Lu hp uP
    have BE:σ.H d=none:=by rw[<- cN.2.1 d hd];exact hn
    refine⟨⟨aR σ.env oj.dst z,aX σ.H d (.box t (cs.map AV.d))⟩,⟨dj,gj,oE,.inr (.inr ⟨bj,vj,k2,zC,z,_,mG _ _ BE,oz,rfl⟩)⟩,di,gi,oE.put oz _,.inr (.inl ⟨bi,vi,c,g,xs,y,patch R (aX σ.H d (.box t (cs.map AV.d))) H2,iN,?_,gu,cN.swap (VF cN.1) (JW hd),fun p hp=>⟨(jU p hp).1.swap (jU p hp).2 (JW hd),(jU p hp).2⟩,oy,?_⟩)⟩
    .rw[<- tg iN (gJ _)];exact ti
    .rw[iI bl,aci hd cN.2.1]
 .rcases h2 with⟨bj,c',z,e2,c2,rfl⟩ | ⟨bj,vj,c',g,xs,z,H2,pf,tj,gu,cN,jU,oz,rfl⟩ | ⟨bj,vj,k2,l2,z,H2,e2,oz,rfl⟩
  .rw[nH (fV _)]at e2;refine⟨⟨aR σ.env oj.dst (.d z),σ.H⟩,⟨dj,gj,oE,.inl ⟨bj,c',z,e2,c2,rfl⟩⟩,di,gi,oE.put (kB.d _ _) _,.inr (.inr ⟨bi,vi,k1,qd (gJ _) l1,x,H',e1.congr k1 (gJ _),ox,?_⟩)⟩;rw[iI bl]
  .rw[tg pf (fV _)]at tj;rw[bi,bj]at je
   have hp:(kindOf oi.op=0\/(ex.lookup i).isSome=true)\/xF R oi=true:=by
    simp only[ah2,vi,vj,if_true,agE,if_false]at je;simpa[or_assoc]using je
   have yD:=e1.congr k1 (gJ z);have vm:=qd (gJ z) l1
   rcases hp with (hp | hp) | hp
   .obtain rfl:=e1.keeps aa;refine⟨⟨aR σ.env oj.dst z,H2⟩,⟨dj,gj,oE,.inr (.inl ⟨bj,vj,c',g,xs,z,H2,pf,tj,gu,cN,jU,oz,rfl⟩)⟩,di,gi,oE.put oz _,.inr (.inr ⟨bi,vi,k1,vm,x,H2,yD.free hp H2,ox,?_⟩)⟩;rw[iI bl]
   .obtain⟨pv,mD⟩:=aht.1 hp;have hs:=(jU _ (E6 mD)).1;have hH:H'=σ.H:=(zD (H2:=σ.H) ik mD l1 (by unfold jH;simp only[ik];unfold jH at hs;simp only[ik]at hs;split<;>simp_all) e1).1;subst hH;obtain⟨_,e3⟩:=zD ik mD vm hs yD;refine⟨⟨aR σ.env oj.dst z,H2⟩,⟨dj,gj,oE,.inr (.inl ⟨bj,vj,c',g,xs,z,H2,pf,tj,gu,cN,jU,oz,rfl⟩)⟩,di,gi,oE.put oz _,.inr (.inr ⟨bi,vi,k1,vm,x,H2,e3,ox,?_⟩)⟩;rw[iI bl]
   .obtain⟨d,t,cs,hd,hn,rfl,mG⟩:=Lu hp yD;have hO:=JW (H:=σ.H) (b:=.box t (cs.map AV.d)) hd;have Yh:=cN.swap (VG cN.1 hn) hO.symm
    have nT:patch R σ.H H2 d=none:=by unfold patch;rw[if_pos hd];exact hn
    refine⟨⟨aR σ.env oj.dst z,patch R σ.H H2⟩,⟨dj,gj,oE,.inr (.inl ⟨bj,vj,c',g,xs,z,patch R σ.H H2,pf,tj,gu,Yh,fun p hp=>⟨(jU p hp).1.swap (jU p hp).2 hO.symm,(jU p hp).2⟩,oz,rfl⟩)⟩,di,gi,oE.put oz _,.inr (.inr ⟨bi,vi,k1,vm,x,_,mG _ _ nT,ox,?_⟩)⟩;rw[iI bl,Qh hd,J4 cN.2.1]
  .rw[bi,bj]at je
   have cG:kH ops oi oj=true:=by simp only[kH,abi];simp only[ah2,vi,vj,agE,if_false]at je;exact⟨gL,je⟩
   obtain⟨H3,f1,f2⟩:=yq (N:=N) cG ⟨di,.inl ⟨lA gi,e1⟩⟩ ⟨dj,.inl ⟨lA gj,e2⟩⟩ k1 k2
   have un:∀ {o:Oper} {e:Env} {H H':Heap} {x:AV},o.guard=none->Sx P T Mv G N ops o e H x H'->Ex P T Mv G o e H x H':=fun e8 h=>by
    rcases h.2 with⟨_,h⟩ | ⟨hw,_⟩
    .exact h
    .rw[lA e8]at hw;cases hw
   refine⟨⟨aR σ.env oj.dst z,H3⟩,⟨dj,gj,oE,.inr (.inr ⟨bj,vj,k2,qd (fV _) l2,z,H3,un gj f1,oz,rfl⟩)⟩,di,gi,oE.put oz _,.inr (.inr ⟨bi,vi,k1,qd (gJ _) l1,x,H2,un gi f2,ox,?_⟩)⟩;rw[iI bl]
def Bf (P:Program) (T:Ty) (Mv:Nat->Prop) (G:aC) (mvd R:List Nat) (ops:Array Oper) (ex:List (Nat×AV)) (g:FuncId) (xs:List AV) (σ:St) (dst:Option Tmp) (K:St->Prop):Prop:=∃ y H2,(∀ r∈mvd,Mv r)/\vX P G mvd R g xs σ.H y H2/\(∀ p∈ex,jH T ops σ.H H2 p/\zQ R p.2=true)/\kB mvd y/\K ⟨aR σ.env dst y,H2⟩
theorem aex (o f:Nat->Nat->Nat->AV) (t:TypeId) (cs:List D):Row.tr o f (.box t (cs.map AV.d)) = .box t (cs.map AV.d):=by
 simp[Row.tr,AV.tr,agy]
theorem Zc {l:List (Nat×Row)} {q:Nat} (h:(aw l q).isSome=true):∃ p∈l,p.1=q:=by
 induction l with
 | nil=>simp[aw]at h
 | cons p l ih=>
  simp only[aw,List.lookup]at h
  cases pw:(q == p.1) with
  | true=>exact⟨p,ak,by simpa using (beq_iff_eq.1 pw).symm⟩
  | false=>
   rw[pw]at h;obtain⟨p',h1,h2⟩:=ih h;exact⟨p',by simp[h1],h2⟩
theorem Bf.mc {mvd R:List Nat} {ex:List (Nat×AV)} {dst:Option Tmp} {K:St->Prop} {fx:List Nat} {g:FuncId} {pN xs:List AV} {cq fR:List (Nat×Row)} {y:AV} (hc:MC P G fx g xs (aw cq) y (aw fR)) (hx:pN.map (AV.tr (fF (cq.map (·.1))) (fE (cq.map (·.1))))=xs)
  (hR:∀ r∈R,(cq.map (·.1)).contains r=false/\(fR.map (·.1)).contains r=false/\(σ.H r=none\/∃ (t:TypeId) (cs:List D),σ.H r=some (.box t (cs.map AV.d))))
  (hH:∀ p∈cq,(σ.H p.1).map (Row.tr (fF (cq.map (·.1))) (fE (cq.map (·.1))))=aw cq p.1) (hd:∀ p∈fR,(cq.map (·.1)).contains p.1=true\/σ.H p.1=none) (hm:∀ r∈cq.map (·.1),fx.contains r=false->r∈mvd) (gu:∀ r∈mvd,Mv r) (ho:∀ r∈mvd,y.kill r=y)
  (hl:∀ p∈ex,jH T ops σ.H (nQ (aw fR) (fe (fP (cq.map (·.1))) (nz (cq.map (·.1)) fx) (ny (cq.map (·.1)) fx) σ.H)) p/\zQ R p.2=true)
  (h:K ⟨aR σ.env dst y,nQ (aw fR) (fe (fP (cq.map (·.1))) (nz (cq.map (·.1)) fx) (ny (cq.map (·.1)) fx) σ.H)⟩):Bf P T Mv G mvd R ops ex g pN σ dst K:=by
 have aS:∀ q,R.contains q=true->q∈R:=fun q hq=>aha.1 hq;have cN:sP R σ.H:=fun q hq=>(hR q (aS q hq)).2.2
 have dP:∀ (H0:Heap),sP R H0->∀ q,R.contains q=true->nQ (aw fR) (fe (fP (cq.map (·.1))) (nz (cq.map (·.1)) fx) (ny (cq.map (·.1)) fx) H0) q=H0 q:=fun H0 lf q hq=>by
  obtain⟨a1,a2,_⟩:=hR q (aS q hq)
  have e1:aw fR q=none:=by
   cases he:aw fR q with
   | none=>rfl
   | some r=>
    obtain⟨p,hp,rfl⟩:=Zc (l:=fR) (q:=q) (by rw[he];rfl);have:(fR.map (·.1)).contains p.1=true:=aha.2 (ag3.2 ⟨p,hp,rfl⟩);rw[this]at a2;cases a2
  unfold nQ;rw[e1];dsimp only;unfold fe fP;rw[a1];simp only[ahw,if_true]
  rcases lf q hq with h0 | ⟨t,cs,h0⟩
  .rw[h0];rfl
  .rw[h0,ag1,aex]
 refine⟨y,_,gu,⟨cN,dP σ.H cN,fun H0 lf BJ=>?_⟩,hl,ho,h⟩
 have xS:∀ p∈cq,R.contains p.1=false:=fun p hp=>by
  cases he:R.contains p.1 with
  | false=>rfl
  | true=>
   have h1:=(hR p.1 (aS _ he)).1;have:(cq.map (·.1)).contains p.1=true:=aha.2 (ag3.2 ⟨p,hp,rfl⟩);rw[this]at h1;cases h1
 have Fl:∀ p∈fR,R.contains p.1=false:=fun p hp=>by
  cases he:R.contains p.1 with
  | false=>rfl
  | true=>
   have h1:=(hR p.1 (aS _ he)).2.1;have:(fR.map (·.1)).contains p.1=true:=aha.2 (ag3.2 ⟨p,hp,rfl⟩);rw[this]at h1;cases h1
 have key:=HC.mc (mvd:=mvd) (H:=H0) hc hx (fun p hp=>by rw[BJ p.1 (xS p hp)];exact hH p hp) (fun p hp=>by rw[BJ p.1 (Fl p hp)];exact hd p hp) hm
 have e:patch R H0 (nQ (aw fR) (fe (fP (cq.map (·.1))) (nz (cq.map (·.1)) fx) (ny (cq.map (·.1)) fx) σ.H))=nQ (aw fR) (fe (fP (cq.map (·.1))) (nz (cq.map (·.1)) fx) (ny (cq.map (·.1)) fx) H0):=by
  funext q;unfold patch;split
  .rename_i hq;exact (dP H0 lf q hq).symm
  .rename_i hq
   have oO:R.contains q=false:=by simpa using hq
   unfold nQ fe;rw[BJ q oO]
 rw[e];exact key
def FN (P:Program) (T:Ty) (Mv:Nat->Prop) (G:aC) (N:Fr) (mvd R db hv:List Nat) (ex:List (Nat×AV)) (ops:Array Oper) (i:Nat) (o:Oper) (σ:St) (K:St->Prop):Prop:=gP N o/\o.guard=none/\
 if db.contains i=true then (match ow T G σ.env o with
  | some (c,y)=>c/\K ⟨aR σ.env o.dst (.d y),σ.H⟩
  | none=>False)
 else if hv.contains i=true then (match ey o.op with
  | some c=>match lz G σ.env c with
   | some (g,xs)=>Bf P T Mv G mvd R ops ex g xs σ o.dst K
   | none=>False
  | none=>False)
 else kindOf o.op≠9/\qc G ex i o σ.env/\match ey o.op with
  | some c=>qt P G c σ.env o.dst σ.H [] [] K
  | none=>Cv T G Mv mvd o σ K
def uy (P:Program) (T:Ty) (Mv:Nat->Prop) (G:aC) (N:Fr) (mvd R db hv:List Nat) (ex:List (Nat×AV)) (ops:Array Oper) (K:St->Prop):List (Nat×Oper)->St->Prop
 | [],σ=>K σ
 | (i,o) :: rest,σ=>FN P T Mv G N mvd R db hv ex ops i o σ (uy P T Mv G N mvd R db hv ex ops K rest)
theorem ad8 {mvd R db hv:List Nat} {ex:List (Nat×AV)} {K:St->Prop}:∀ (l:List Nat) (σ:St),(∀ i∈l,i < ops.size)->pP mvd σ.env->uy P T Mv G N mvd R db hv ex ops K (cU ops l) σ->∃ cJ,K cJ/\Go.Av.iJ (yb P T Mv G N mvd R db hv ex ops) ops l σ cJ:=by
 intro l
 induction l with
 | nil=>intro σ _ _ h;exact⟨σ,h,rfl⟩
 | cons i l ih=>
  intro σ hl jy h;have hi:=hl i ak
  have ho:ops[i]? = some ops[i]:=by simp[hi]
  simp only[cU,ho]at h;generalize ops[i]=o at ho h;simp only[uy,FN]at h;obtain⟨hd,e8,h⟩:=h
  have fin:∀ bh,yb P T Mv G N mvd R db hv ex ops i o σ bh->pP mvd bh.env->uy P T Mv G N mvd R db hv ex ops K (cU ops l) bh->∃ cJ,K cJ/\Go.Av.iJ (yb P T Mv G N mvd R db hv ex ops) ops (i :: l) σ cJ:=fun bh hs hE h1=>by
   obtain⟨cJ,hk,hr⟩:=ih bh (fun j hj=>hl j (by simp[hj])) hE h1;exact⟨cJ,hk,o,ho,bh,hs,hr⟩
  split at h
  .rename_i hb;split at h
   .rename_i c y hw;obtain⟨hc,h⟩:=h;exact fin _ ⟨hd,e8,jy,.inl ⟨hb,c,y,hw,hc,rfl⟩⟩ (jy.put (kB.d _ _) _) h
   .exact h.elim
  .rename_i hb
   have hb:db.contains i=false:=by simpa using hb
   split at h
   .rename_i iS;split at h
    .rename_i c hc;split at h
     .rename_i g xs ht;obtain⟨y,H2,h0,h1,h2,h3,h⟩:=h;exact fin _ ⟨hd,e8,jy,.inr (.inl ⟨hb,iS,c,g,xs,y,H2,hc,ht,h0,h1,h2,h3,rfl⟩)⟩ (jy.put h3 _) h
     .exact h.elim
    .exact h.elim
   .rename_i iS
    have iS:hv.contains i=false:=by simpa using iS
    obtain⟨hk,oI,h⟩:=h;split at h
    .rename_i c hc;obtain⟨y,g,ds,ht,hp,ij,h⟩:=h;refine fin _ ⟨hd,e8,jy,.inr (.inr ⟨hb,iS,hk,oI,.d y,σ.H,?_,kB.d _ _,rfl⟩)⟩ (jy.put (kB.d _ _) _) h;unfold Ex;simp only[hc];exact⟨y,⟨g,_,ht,.inl ⟨ds,rfl,hp⟩⟩,rfl,trivial⟩
    .rename_i hc;unfold Cv at h;split at h
     .rename_i hw;split at h
      .rename_i c x bh h1;obtain⟨cG,ij,h⟩:=h;have he:=Ae hk h1;obtain⟨e,H⟩:=σ;obtain⟨e1,H1⟩:=bh;dsimp only at he;subst he;refine fin _ ⟨hd,e8,jy,.inr (.inr ⟨hb,iS,hk,oI,x,H1,?_,ij,rfl⟩)⟩ (jy.put ij _) h;unfold Ex;simp only[hc];rw[if_pos hw];exact⟨c,h1,cG⟩
      .exact h.elim
     .rename_i hw;split at h
      .rename_i c x h1;obtain⟨cG,ij,h⟩:=h;refine fin _ ⟨hd,e8,jy,.inr (.inr ⟨hb,iS,hk,oI,x,σ.H,?_,ij,rfl⟩)⟩ (jy.put ij _) h;unfold Ex;simp only[hc];rw[if_neg hw];exact⟨c,h1,cG,trivial⟩
      .exact h.elim
theorem SE (hg:Good P T) (hm:P.follows .mixedOrders=true) (mvd R db hv:List Nat) (ex:List (Nat×AV)) (ord:List Nat) {id:Nat} (cz:qP (Ds R db hv ex ops) ord ops=true) (jy:pP mvd σ.env) {Q:Exit->St->Prop} (h:uy P T Mv G N mvd R db hv ex ops (fun aJ=>Q .normal aJ) (cU ops ord) σ):AW P Mv X G N (.region id ops true) Q σ:=
 ye hm (Ts hg mvd R db hv ex) (Tt mvd R db hv ex) ord cz fun aG=>ad8 ord σ aG jy h
theorem SC (hg:Good P T) (hm:P.follows .mixedOrders=true) (mvd R db hv:List Nat) (ex:List (Nat×AV)) (ord:List Nat) (l ns:List Nat) (hM:∀ r,ns.contains r=false->Mv r) {id:Nat} (cz:qP (Ds R db hv ex ops) ord ops=true) (jy:pP mvd σ.env) {y:Code} {Q:Exit->St->Prop}
  (h:∀ K:St->Prop,(∀ τ:St,AW P Mv X G N y Q (τ.norm l ns)->K τ)->uy P T Mv G N mvd R db hv ex ops K (cU ops ord) σ):AW P Mv X G N (.seq (.region id ops true) y) Q σ:=
 sN (SE hg hm mvd R db hv ex ord cz jy (h _ fun _ h=>h.norm l ns hM))
theorem CV {mvd R db hv:List Nat} {ex:List (Nat×AV)} {K:St->Prop} {i:Nat} {l:List Nat} {o:Oper} (ho:ops[i]? = some o) (h:∀ K':St->Prop,(∀ τ,uy P T Mv G N mvd R db hv ex ops K (cU ops l) τ->K' τ)->FN P T Mv G N mvd R db hv ex ops i o σ K'):uy P T Mv G N mvd R db hv ex ops K (cU ops (i :: l)) σ:=by
 have:cU ops (i :: l)=(i,o) :: cU ops l:=by simp[cU,ho]
 rw[this];exact h _ fun _ h=>h
theorem ad7 {mvd R db hv:List Nat} {ex:List (Nat×AV)} {K:St->Prop} (h:K σ):uy P T Mv G N mvd R db hv ex ops K (cU ops []) σ:=h
end
attribute [simp] FN
attribute [simp] zQ
end Go.Av
namespace Go.Proofs.YtoohljflflnbeaaGreatDoor
open Go.Av
theorem ab5 (l:List Int):(∀ el∈l.map (fun n=>[D.v (.int .i64 n)]),el.length=1)=True:=eq_true ak
theorem one_one (l:List Int):(∀ el∈l.map (fun n=>[D.v (.int .i64 n)]),∀ c∈el,c.one=true)=True:=eq_true (by simp[D.one])
theorem abZ (l:List Bool):(∀ el∈l.map (fun n=>[D.v (.bool n)]),el.length=1)=True:=eq_true fun el h=>by obtain⟨b,_,rfl⟩:=ag3.1 h;rfl
theorem ab0 (l:List Bool):(∀ el∈l.map (fun n=>[D.v (.bool n)]),∀ c∈el,c.one=true)=True:=eq_true fun el h c hc=>by
 obtain⟨b,_,rfl⟩:=ag3.1 h;obtain rfl:=ahc.1 hc;rfl
theorem VD (G:aC) (l:List Int) (h:l.length < 2^40):MC prog G [] 117 [.d (gg l)] (aw []) (.own 702 0 l.length) (aw [(702,.sl 3 1 (l.map fun n=>[.v (.int .i64 n)]))]):=by
 have gC:(l.map fun n=>[D.v (.int .i64 n)]).length=l.length:=ak
 have q1:=ab5 l;have q2:=one_one l;simp only[gg];rw[<- gC];rw[<- gC]at h;generalize (l.map fun n=>[D.v (.int .i64 n)])=L at *;refine MC.aQ (aB _) func117 rfl rfl (rs:=[.tmp 2]) results117 (by simp[ntmps117]) rfl fun X=>?_;simp only[ntmps117];refine AW.JK 0 rfl ?_ fun hl=>?_
 .refine aq [0] [] ?_;refine ag fun K1 aF=>aq [0,4] [] ?_;refine pO false rfl (fun hc=>by cases hc) (fun hc=>?_);refine ar (aF _ ?_);have qf:=(Aq @q1 @q2);refine ay [2] [5] ?_;refine AW.imp (aK.dM (r:=5) (r':=702) bO ak) ?_;refine AW.st (by simp[gR,gQ,Go.Av.dM,qS];rfl) ?_;exact gw
 .subst hl;refine aq [0] [] ?_;refine ag fun K1 aF=>aq [0,4] [] ?_;refine pO true rfl (fun hc=>?_) (fun hc=>by cases hc);refine aq [2] [] ?_;refine AW.imp (aK.kC 2 702 3 1 rfl rfl) ?_;refine AW.st bA ?_;exact gw
theorem VC (G:aC) (l:List Bool) (h:l.length < 2^40):MC prog G [] 163 [.d (iM l)] (aw []) (.own 701 0 l.length) (aw [(701,.sl 4 1 (l.map fun n=>[.v (.bool n)]))]):=by
 have gC:(l.map fun n=>[D.v (.bool n)]).length=l.length:=ak
 have q1:=abZ l;have q2:=ab0 l;simp only[iM];rw[<- gC];rw[<- gC]at h;generalize (l.map fun n=>[D.v (.bool n)])=L at *;refine MC.aQ (aB _) func163 rfl rfl (rs:=[.tmp 2]) results163 (by simp[ntmps163]) rfl fun X=>?_;simp only[ntmps163];refine AW.JK 0 rfl ?_ fun hl=>?_
 .refine aq [0] [] ?_;refine ag fun K1 aF=>aq [0,4] [] ?_;refine pO false rfl (fun hc=>by cases hc) (fun hc=>?_);refine ar (aF _ ?_);have qf:=(Aq @q1 @q2);refine ay [2] [5] ?_;refine AW.imp (aK.dM (r:=5) (r':=701) bO ak) ?_;refine AW.st (by simp[gR,gQ,Go.Av.dM,qS];rfl) ?_;exact gw
 .subst hl;refine aq [0] [] ?_;refine ag fun K1 aF=>aq [0,4] [] ?_;refine pO true rfl (fun hc=>?_) (fun hc=>by cases hc);refine aq [2] [] ?_;refine AW.imp (aK.kC 2 701 4 1 rfl rfl) ?_;refine AW.st bA ?_;exact gw
theorem Cj {s:Tx} (h:jg s=true):s≠[]:=(abF h).1
theorem Gs {S1 S2:Tx->Prop}:∀ (n:Nat) (e:Ex),SizeOf.sizeOf e<=n->hU e->(∀ s∈du true e,S1 s)->(∀ s∈du false e,S2 s)->iK S1 S2 e
 | 0,e,hn,_,_,_=>by cases e<;>simp at hn
 | n+1,e,hn,hw,h1,h2=>by
  have many:∀ l:List Ex,(∀ x∈l,SizeOf.sizeOf x<=n)->(∀ s∈fO true l,S1 s)->(∀ s∈fO false l,S2 s)->(∀ x∈l,hU x)->sO S1 S2 l:=by
   intro l
   induction l with
   | nil=>intro _ _ _ _;rw[sO];trivial
   | cons x l ih=>
    intro hs h1 h2 h3;simp only[fO,agN]at h1 h2;rw[sO];exact⟨Gs n x (hs x ak) (h3 x ak) (fun s h=>h1 s (.inl h)) (fun s h=>h2 s (.inl h)),ih (fun y hy=>hs y (by simp[hy])) (fun s h=>h1 s (.inr h)) (fun s h=>h2 s (.inr h)) (fun y hy=>h3 y (by simp[hy]))⟩
  cases e with
  | gU b=>rw[iK];trivial
  | bit s=>
   rw[iK];rw[hU]at hw;exact h1 s (by simp[du,dH,gG,Cj hw])
  | jk s=>
   rw[iK];rw[hU]at hw;exact⟨h1 s (by simp[du,dH,gG,Cj hw]),h2 s (by simp[du,dH,gG,Cj hw])⟩
  | ja s=>
   rw[iK];rw[hU]at hw;exact⟨h1 s (by simp[du,dH,gG,Cj hw]),h2 s (by simp[du,dH,gG,Cj hw])⟩
  | not x=>
   rw[iK];rw[hU]at hw;exact Gs n x (by simp at hn;omega) hw (fun s h=>h1 s (by rw[du];exact h)) (fun s h=>h2 s (by rw[du];exact h))
  | and l=>
   rw[iK];rw[hU]at hw;exact many l (fun x hx=>by have:=ag0 hx;simp only[Ex.and.sizeOf_spec]at hn;omega) (fun s h=>h1 s (by rw[du];exact h)) (fun s h=>h2 s (by rw[du];exact h)) ((wa l).1 hw.2)
  | or l=>
   rw[iK];rw[hU]at hw;exact many l (fun x hx=>by have:=ag0 hx;simp only[Ex.or.sizeOf_spec]at hn;omega) (fun s h=>h1 s (by rw[du];exact h)) (fun s h=>h2 s (by rw[du];exact h)) ((wa l).1 hw.2)
theorem Tp {S1 S2:Tx->Prop} {e:Ex} (hw:hU e) (h1:∀ s∈du true e,S1 s) (h2:∀ s∈du false e,S2 s):iK S1 S2 e:=Gs _ e (agD _) hw h1 h2
theorem adA (p:aP) (s t0:cK) {n:Nat} (h:n < p.ax.length):(p.ax.take (n+1)).foldl (mb p s) t0=mb p s ((p.ax.take n).foldl (mb p s) t0) p.ax[n]:=by
 rw[agB h,List.foldl_append];rfl
theorem Rj {p:aP} (hc:dr p=none) (hk:∀ r∈p.ax,mR r) {r:iL} (hr:r∈p.ax):∃ e,r.cond=some e/\iK (fun nm=>¬ bH p nm < 0) (fun nm=>¬ bH p nm < 0) e/\bE e<=2^28:=by
 obtain⟨e,he,hw,_,hb⟩:=hk r hr;obtain⟨_,_,e',jT,aS⟩:=we hc r hr;rw[he]at jT;obtain rfl:=AI jT;refine⟨e,he,Tp hw (fun s hs=>aS s (Ck.2 hs)) (fun s hs=>aS s (PD (Ck.2 hs))),aa⟩
theorem Mf (G:aC) (p:aP) (aZ:dr p=none) (hk:∀ r∈p.ax,mR r) (s:cK) (hs:fU p s) (cC:List Bool) (aS:cC.length=(aY p).length):aD prog G 85 [fH p,qw s,iM cC] (qw (lW p s cC)):=by
 have hg:=iB aZ;have fy:=hg.names;have tX:=hg.ax;have dG:=hs.l1;have dW:=hs.l2;have ga:=Pf G p aa 1;have y6:=VC G s.is aa;have iN:=VD G s.ct aa;have b5:=fun x=>vn G p aa x;have wW:=vl p.names 1 p.names.length;obtain⟨t0,p6,AQ⟩:∃ t0,t0=(⟨nr (aY p) cC s.is (aY p).length,s.ct⟩:cK)/\fU p t0:=⟨_,rfl,(xW cC hs _ (agD _)).1⟩;obtain⟨T,hT⟩:∃ T:Nat->cK,∀ n,T n=(p.ax.take n).foldl (mb p s) t0:=⟨_,fun _=>rfl⟩;have XR:T 0=t0:=hT 0
 have XT:∀ n (h:n < p.ax.length),T (n+1)=mb p s (T n) p.ax[n]:=fun n h=>by rw[hT,hT,adA p s t0 h]
 have wJ:T p.ax.length=lW p s cC:=by rw[hT,aho,p6];rfl
 have yX:∀ n,fU p (T n):=fun n=>by rw[hT];exact (FJ aZ s _ (fun r hr=>agJ hr) AQ).1
 have gM:∀ n (h:n < p.ax.length),∃ e,p.ax[n].cond=some e/\aD prog G 67 [dE e,.fn (.func 164) [.ip (ou (T n)),.ip (fW p)],.fn (.func 165) [.ip (ou s),.ip (fW p)]] (.v (.bool (eQ (gA p (T n).is) (gA p s.is) e))):=fun n h=>by
  obtain⟨e,he,ha,hb⟩:=Rj aZ hk (OF h);exact⟨e,he,WH G _ _ _ _ _ _ _ _ (Tn G p aa (T n) (yX n).l1) (To G p aa s dG) e ha hb⟩
 clear hT;rw[<- wJ];have oN:∀ k,k<=(aY p).length->(nr (aY p) cC s.is k).length=p.names.length:=fun k hk=>(xW cC hs k hk).1.l1
 have Oa:∀ k (h:k < (aY p).length) (h2:k < cC.length),∃ i,i < p.names.length/\(aY p)[k]=(i:Int)/\nr (aY p) cC s.is (k+1)=(nr (aY p) cC s.is k).set i cC[k]:=fun k h h2=>by
  obtain⟨i,hi,he,_⟩:=zy h;refine⟨i,hi,he,?_⟩;rw[Ka h he];congr 1;exact gV h2
 have Eu:nr (aY p) cC s.is 0=s.is:=rfl;have eI:t0=⟨nr (aY p) cC s.is (aY p).length,s.ct⟩:=p6;clear p6;generalize XH:nr (aY p) cC s.is=PI at oN Oa Eu eI;clear XH;have l3:iT p.names 1 p.names.length=aY p:=rfl;rw[l3]at ga wW;generalize aY p=KI at *;simp only[fH,fW,cj,fq,iM,gg,ou]at ga y6 iN b5 gM;simp only[fH,fW,cj,fq,qw,ou,iM,gg]
 have tB:(p.names.map bo).length=p.names.length:=ak
 have nK:∀ i (h:i < p.names.length),(p.names.map bo)[i]? = some [.v (.string (bs p.names[i].name)),.v (.int .i64 p.names[i].kind),.v (.int .i64 p.names[i].count)]:=fun i h=>by simp[h,bo,dS]
 have eS:(p.ax.map c8).length=p.ax.length:=ak
 have rv:∀ i (h:i < p.ax.length),(p.ax.map c8)[i]? = some (c8 p.ax[i]):=fun i h=>by simp[h]
 generalize p.names.map bo=NN at *;generalize p.ax.map c8=RR at *;refine aD.aQ (aB _) func85 rfl rfl (rs:=[.cell 6 88]) results85 (by simp[ntmps85]) fun X=>?_;simp only[ntmps85,List.map];have fw:=@aih;refine ae fw [2,3,4,6] [3,4,6] ?_;refine dI fw 3 ?_;refine dI fw 4 ?_;refine SC (aB _) ah ([]) ([7]) ([]) ([2,5]) ([(1,.d (.ip [.sl none (s.is.map fun b=>[.v (.bool b)]),.sl none (s.ct.map fun n=>[.v (.int .i64 n)])])),(4,.d (.ip [.sl none (s.ct.map fun n=>[.v (.int .i64 n)])]))]) (List.range 9) [2,3,4,6,7] [6,7,701,702] aN ah (by simp[pP]) fun K' ao=>?_;(repeat refine CV rfl fun K2 au=>?_;simp[ab];(repeat refine⟨aa,?_⟩);refine au _ ?_;clear au K2);refine CV rfl fun K2 au=>?_;simp[ab];refine Bf.mc (y6) (by simp[ab]) (by simp[ab]) (by simp[ab]) (by simp[ab]) (by simp[ab]) (by simp[ab]) (by simp[ab]) (by simp[jH,ab]) ?_;simp[ab];refine au _ ?_;clear au K2;(repeat refine CV rfl fun K2 au=>?_;simp[ab];(repeat refine⟨aa,?_⟩);refine au _ ?_;clear au K2);refine CV rfl fun K2 au=>?_;simp[ab];refine Bf.mc (iN) (by simp[ab]) (by simp[ab]) (by simp[ab]) (by simp[ab]) (by simp[ab]) (by simp[ab]) (by simp[ab]) (by simp[jH,ab]) ?_;simp[ab];refine au _ ?_;clear au K2;(repeat refine CV rfl fun K2 au=>?_;simp[ab];(repeat refine⟨aa,?_⟩);refine au _ ?_;clear au K2);refine ad7 (ao _ ?_);refine AW.st (by simp[ab];rfl) ?_;refine ag fun K1 aF=>br fw ga [2,3,4,6,7,24,25,26] [6,7,701,702] ?_;refine cy (S:=Nat) (fun k=>k<=KI.length) (fun k=>⟨bn [(2,.d (.sl none (cC.map fun b=>[.v (.bool b)]))),(3,.d (.ip [.sl none NN,.sl none RR])),(4,.d (.ip [.sl none (s.is.map fun b=>[.v (.bool b)]),.sl none (s.ct.map fun n=>[.v (.int .i64 n)])])),(6,.ref 6 0 0),(7,.ref 7 0 0),(24,.d (.sl none (KI.map fun x=>[.v (.int .i64 x)]))),(25,int KI.length),(26,int k)],aw [(6,.box 88 [.d (.sl (some false) []),.d (.sl (some false) [])]),(7,.box 88 [.own 701 0 (PI k).length,.own 702 0 s.ct.length]),(701,.sl 4 1 ((PI k).map fun b=>[.v (.bool b)])),(702,.sl 3 1 (s.ct.map fun n=>[.v (.int .i64 n)]))]⟩) (fun k=>KI.length - k) 0 ?_ aa ?_
 .rw[Eu];refine bq fw
 .intro k lL;have pb:=oN k lL;have Eb:=Oa k;generalize lG:PI k=P at pb Eb ⊢;refine ae fw [2,3,4,6,7,24,25,26,27] [6,7,701,702] ?_;refine ag fun K2 au=>eE (b:=k < KI.length) (by simp[D.le,D.le.go,aL,ab]) (fun hc=>?_) (fun hc=>?_)
  .have aG:=hc
   have ff:k < cC.length:=aa
   obtain⟨i,hi,He,XL⟩:=Eb aG ff
   have fZ:i < P.length:=aa
   refine ar (au _ (ag fun K3 aU=>bd ?_));have qf:=(Aq fw (Aq @aG @He));refine ay [2,3,4,6,7,8,9,24,25,26] [6,7,701,702] ?_;refine rO (aB _) ah [(1,7),(6,999),(7,701),(8,701)] ah fun K' ao=>?_;(repeat refine jm fun Kq af=>?_;simp[ab,fZ,ff];(repeat refine⟨aa,?_⟩);refine af _ ?_);refine ky (ao _ ?_);refine aU _ (AW.norm [2,3,4,6,7,24,25,26] [6,7,701,702] aN (AW.st (by simp[ab,fZ,ff];rfl) ?_));refine cE fw ?_;(try simp only[aT,aV]);refine ba.mk (k+1) aa aa ?_;rw[XL];refine aK.fk aN (by simp[ab,agQ]) (by simp[ab,agQ])
  .have kM:k=KI.length:=aa
   refine bW (aF _ ?_)
   have ZS:t0=⟨P,s.ct⟩:=by rw[eI,<- kM,lG]
   refine ae fw [3,4,6,7,10] [6,7,701,702] ?_;refine ae fw [3,6,7,10,11] [6,7,701,702] ?_;refine ag fun K4 ck=>ae fw [3,6,7,10,11,43,44,45] [6,7,701,702] ?_;refine cy (S:=Nat) (fun n=>n<=p.ax.length) (fun n=>⟨bn [(3,.d (.ip [.sl none NN,.sl none RR])),(6,.ref 6 0 0),(7,.ref 7 0 0),(10,.fn (.func 164) [.ref 7 0 0,.d (.ip [.sl none NN,.sl none RR])]),(11,.d (.fn (.func 165) [.ip [.sl none (s.is.map fun b=>[.v (.bool b)]),.sl none (s.ct.map fun n=>[.v (.int .i64 n)])],.ip [.sl none NN,.sl none RR]])),(43,.d (.sl none RR)),(44,int RR.length),(45,int n)],aw [(6,.box 88 [.d (.sl (some false) []),.d (.sl (some false) [])]),(7,.box 88 [.own 701 0 (T n).is.length,.own 702 0 (T n).ct.length]),(701,.sl 4 1 ((T n).is.map fun b=>[.v (.bool b)])),(702,.sl 3 1 ((T n).ct.map fun n=>[.v (.int .i64 n)]))]⟩) (fun n=>p.ax.length - n) 0 ?_ aa ?_
   .rw[XR,ZS];refine bq fw
   .intro n hn;have yY:=XT n;have sa:=yX n;have y5:=gM n;generalize XS:T n=tn at yY sa y5 ⊢;obtain⟨I,C⟩:=tn;have kT:=sa.l1;have Xn:=sa.l2;have zo:=aai aZ sa;dsimp only at kT Xn zo y5 ⊢;refine ae fw [3,6,7,10,11,43,44,45,46] [6,7,701,702] ?_;refine ag fun K5 b9=>?_;by_cases aG:n < p.ax.length
    .have eW:n < RR.length:=aa
     have nR:(n:Int) < (RR.length:Int):=aa
     refine cm (by simp[eW]) (ar (b9 _ ?_));refine ag fun K6 eH=>bd ?_;obtain⟨e,he,bp⟩:=y5 aG;obtain⟨i,hi,oL,_,nd⟩:=FI aZ (OF aG);obtain⟨u5,_⟩:=we aZ _ (OF aG);have bG:=yY aG;have jw:=rv n aG;have jJ:=b5 p.ax[n].name;rw[oL]at jJ;unfold mb at bG;simp only[oL,agO,nd,he,rZ]at bG;unfold c8 at jw;rw[he]at jw;generalize p.ax[n]=r at jw jJ u5 bG;obtain⟨rk,rn,rc⟩:=r;dsimp only at jw jJ u5 bG;generalize eQ (gA p I) (gA p s.is) e=yes at bp bG;obtain⟨DE,ev,Nz⟩:=kJ e;rw[show dC (some e)=dE e from rfl,Nz]at jw;rw[Nz]at bp;simp only[dS]at jJ jw;have wF:=nK i hi
     have fJ:i < I.length:=aa
     have fZ:i < C.length:=aa
     have mw:i < NN.length:=aa
     have lF:NN[i]=[.v (.string (bs p.names[i].name)),.v (.int .i64 p.names[i].kind),.v (.int .i64 p.names[i].count)]:=by
      rw[By mw]at wF;exact AI wF
     have Ec:RR[n]=[.v (.int .i64 rk),.v (.string (bs rn)),.bZ DE ev]:=by
      rw[By eW]at jw;exact AI jw
     have dV:=adw G ⟨I,C⟩ i p.names[i].count yes fJ fZ (fun x hx=>by have:=zo x hx;omega);generalize p.names[i].count=m at lF bG dV;generalize p.names[i].name=nmi at lF;generalize p.names[i].kind=kdi at lF;have qf:=(Aq fw (Aq @eW (Aq @nR @Ec)));refine ay [3,6,7,10,11,13,43,44,45] [6,7,701,702,13] ?_;refine dI fw 13 ?_;refine br fw jJ [3,6,7,10,11,13,14,43,44,45] [6,7,701,702] ?_;refine rg [3,6,7,10,11,13,14,15,43,44,45] [6,7,701,702] aN fun K' ao=>?_;(repeat refine aM fun Kq af=>?_;simp[ab];(repeat refine⟨aa,?_⟩);refine af _ ?_);refine aM fun Kq af=>?_;simp[ab];refine dT.rH (bp) bA (by first | exact D.bJ _ | simp[aL,agF,agy,D.le,D.le.go,D.le_refl,D.bJ,ab]) (by simp[D.scalar]) ?_;refine af _ ?_;simp only[aR,dY];(repeat refine aM fun Kq af=>?_;simp[ab];(repeat refine⟨aa,?_⟩);refine af _ ?_);refine bK (ao _ (AW.st (by simp[ab];rfl) ?_));refine ae fw [3,6,7,10,11,14,15,43,44,45,59] [6,7,701,702] ?_;refine bd ?_
     have Bu:rk=1\/rk=2\/rk=3\/rk=4\/rk=5\/rk=6:=aa
     rcases Bu with rfl | rfl | rfl | rfl | rfl | rfl
     .have bG:=bG;simp at bG;refine ae fw [3,6,7,10,11,14,15,43,44,45,59,60] [6,7,701,702] ?_;refine aI ?_;have qf:=(Aq fw @fJ);refine eJ eH [3,6,7,10,11,43,44,45] [6,7,701,702] ?_;refine cE fw ?_;(try simp only[aT,aV]);refine ba.mk (n+1) aa aa ?_;rw[bG];refine aK.fk aN (by simp[ab,agQ]) (by simp[ab,agQ])
     .have bG:=bG;rw[gV fJ]at bG;refine ae fw [3,6,7,10,11,14,15,43,44,45,59,60] [6,7,701,702] ?_;refine al (ae fw [3,6,7,10,11,14,15,43,44,45,59,67] [6,7,701,702] ?_);refine aI ?_
      cases kK:I[i] with
      | true=>
       rw[kK]at bG;simp at bG;refine rO (aB _) ah [(1,7),(4,7),(6,701),(7,701),(11,701),(12,701)] ah fun K' ao=>?_;(repeat refine jm fun Kq af=>?_;simp[ab,fJ,kK];(repeat refine⟨aa,?_⟩);refine af _ ?_);refine ky (ao _ ?_);refine eH _ (AW.norm [3,6,7,10,11,43,44,45] [6,7,701,702] aN (AW.st (by simp[ab,fJ,kK];rfl) ?_));refine cE fw ?_;(try simp only[aT,aV]);refine ba.mk (n+1) aa aa ?_;rw[bG];refine aK.fk aN (by simp[ab,agQ]) (by simp[ab,agQ])
      | false=>
       rw[kK]at bG;simp at bG;refine rO (aB _) ah [(1,7),(4,7),(6,701),(7,701),(11,701),(12,701)] ah fun K' ao=>?_;(repeat refine jm fun Kq af=>?_;simp[ab,fJ,kK];(repeat refine⟨aa,?_⟩);refine af _ ?_);refine ky (ao _ ?_);refine eH _ (AW.norm [3,6,7,10,11,43,44,45] [6,7,701,702] aN (AW.st (by simp[ab,fJ,kK];rfl) ?_));refine cE fw ?_;(try simp only[aT,aV]);refine ba.mk (n+1) aa aa ?_;rw[bG];refine aK.fk aN (by simp[ab,agQ]) (by simp[ab,agQ])
     .have bG:=bG;rw[gV fJ]at bG;refine ae fw [3,6,7,10,11,14,15,43,44,45,59,60] [6,7,701,702] ?_;refine al (ae fw [3,6,7,10,11,14,15,43,44,45,59,67] [6,7,701,702] ?_);refine al (ae fw [3,6,7,10,11,14,15,43,44,45,59,81] [6,7,701,702] ?_);refine aI ?_
      cases kK:I[i] with
      | true=>
       rw[kK]at bG;simp at bG;refine rO (aB _) ah [(1,7),(4,7),(6,701),(7,701),(12,701),(13,701)] ah fun K' ao=>?_;(repeat refine jm fun Kq af=>?_;simp[ab,fJ,kK];(repeat refine⟨aa,?_⟩);refine af _ ?_);refine ky (ao _ ?_);refine eH _ (AW.norm [3,6,7,10,11,43,44,45] [6,7,701,702] aN (AW.st (by simp[ab,fJ,kK];rfl) ?_));refine cE fw ?_;(try simp only[aT,aV]);refine ba.mk (n+1) aa aa ?_;rw[bG];refine aK.fk aN (by simp[ab,agQ]) (by simp[ab,agQ])
      | false=>
       rw[kK]at bG;simp at bG;refine rO (aB _) ah [(1,7),(4,7),(6,701),(7,701),(12,701),(13,701)] ah fun K' ao=>?_;(repeat refine jm fun Kq af=>?_;simp[ab,fJ,kK];(repeat refine⟨aa,?_⟩);refine af _ ?_);refine ky (ao _ ?_);refine eH _ (AW.norm [3,6,7,10,11,43,44,45] [6,7,701,702] aN (AW.st (by simp[ab,fJ,kK];rfl) ?_));refine cE fw ?_;(try simp only[aT,aV]);refine ba.mk (n+1) aa aa ?_;rw[bG];refine aK.fk aN (by simp[ab,agQ]) (by simp[ab,agQ])
     .have bG:=bG;simp at bG;refine ae fw [3,6,7,10,11,14,15,43,44,45,59,60] [6,7,701,702] ?_;refine al (ae fw [3,6,7,10,11,14,15,43,44,45,59,67] [6,7,701,702] ?_);refine al (ae fw [3,6,7,10,11,14,15,43,44,45,59,81] [6,7,701,702] ?_);refine al (ae fw [3,6,7,10,11,14,15,43,44,45,59,96] [6,7,701,702] ?_);refine aI ?_;obtain⟨I2,C2,Hc,Xq,Xm⟩:∃ I2 C2,iJ ⟨I,C⟩ i m yes=⟨I2,C2⟩/\I2.length=I.length/\C2.length=C.length:=⟨_,_,rfl,ak,ak⟩;rw[Hc]at dV bG;simp only[CQ,ab]at dV
      have p4:i < I2.length:=aa
      have pj:i < C2.length:=aa
      have qf:=(Aq fw (Aq @mw @lF));refine kr dV [3,6,7,10,11,14,15,43,44,45] [6,7,701,702] ?_;refine ae fw [3,6,7,10,11,14,43,44,45,108] [6,7,701,702] ?_
      cases yes with
      | true=>
       simp only[if_true]at bG;refine al (ar ?_);refine eH _ (AW.norm [3,6,7,10,11,43,44,45] [6,7,701,702] aN (AW.st (by simp[ab];rfl) ?_));refine cE fw ?_;(try simp only[aT,aV]);refine ba.mk (n+1) aa aa ?_;rw[bG];refine aK.fk aN (by simp[ab,agQ]) (by simp[ab,agQ])
      | false=>
       simp only[agE,if_false,sL]at bG;refine aI ?_;have qf:=(Aq fw (Aq @p4 @pj));refine eJ eH [3,6,7,10,11,43,44,45] [6,7,701,702] ?_;refine cE fw ?_;(try simp only[aT,aV]);refine ba.mk (n+1) aa aa ?_;rw[bG];refine aK.fk aN (by simp[ab,agQ]) (by simp[ab,agQ])
     .have bG:=bG;simp at bG;refine ae fw [3,6,7,10,11,14,15,43,44,45,59,60] [6,7,701,702] ?_;refine al (ae fw [3,6,7,10,11,14,15,43,44,45,59,67] [6,7,701,702] ?_);refine al (ae fw [3,6,7,10,11,14,15,43,44,45,59,81] [6,7,701,702] ?_);refine al (ae fw [3,6,7,10,11,14,15,43,44,45,59,96] [6,7,701,702] ?_);refine al (ae fw [3,6,7,10,11,14,15,43,44,45,59,117] [6,7,701,702] ?_);refine aI ?_;obtain⟨I2,C2,Hc,Xq,Xm⟩:∃ I2 C2,iJ ⟨I,C⟩ i m yes=⟨I2,C2⟩/\I2.length=I.length/\C2.length=C.length:=⟨_,_,rfl,ak,ak⟩;rw[Hc]at dV bG;simp only[CQ,ab]at dV;refine eU (aB _) fun K' ao=>?_;(repeat refine aM fun Kq af=>?_;simp[ab,mw,lF];(repeat refine⟨aa,?_⟩);refine af _ ?_);refine aM fun Kq af=>?_;simp[ab,mw,lF];refine dT.mc (dV) ?_ ?_ ?_ ?_ ?_<;>simp[ab,mw,lF];refine af _ ?_;(repeat refine aM fun Kq af=>?_;simp[ab,mw,lF];(repeat refine⟨aa,?_⟩);refine af _ ?_);refine bK (ao _ ?_);refine eH _ (AW.norm [3,6,7,10,11,43,44,45] [6,7,701,702] aN (AW.st (by simp[ab,mw,lF];rfl) ?_));refine cE fw ?_;(try simp only[aT,aV]);refine ba.mk (n+1) aa aa ?_;rw[bG];refine aK.fk aN (by simp[ab,agQ]) (by simp[ab,agQ])
     .have bG:=bG;simp at bG;refine ae fw [3,6,7,10,11,14,15,43,44,45,59,60] [6,7,701,702] ?_;refine al (ae fw [3,6,7,10,11,14,15,43,44,45,59,67] [6,7,701,702] ?_);refine al (ae fw [3,6,7,10,11,14,15,43,44,45,59,81] [6,7,701,702] ?_);refine al (ae fw [3,6,7,10,11,14,15,43,44,45,59,96] [6,7,701,702] ?_);refine al (ae fw [3,6,7,10,11,14,15,43,44,45,59,117] [6,7,701,702] ?_);refine al (ae fw [3,6,7,10,11,14,15,43,44,45,128] [6,7,701,702] ?_);refine aI (ae fw [3,6,7,10,11,14,43,44,45,130] [6,7,701,702] ?_)
      cases yes with
      | true=>
       simp only[if_true,sL]at bG;refine aI ?_;have qf:=(Aq fw (Aq @fJ @fZ));refine eJ eH [3,6,7,10,11,43,44,45] [6,7,701,702] ?_;refine cE fw ?_;(try simp only[aT,aV]);refine ba.mk (n+1) aa aa ?_;rw[bG];refine aK.fk aN (by simp[ab,agQ]) (by simp[ab,agQ])
      | false=>
       simp only[agE,if_false]at bG;refine al (ar ?_);refine eH _ (AW.norm [3,6,7,10,11,43,44,45] [6,7,701,702] aN (AW.st (by simp[ab];rfl) ?_));refine cE fw ?_;(try simp only[aT,aV]);refine ba.mk (n+1) aa aa ?_;rw[bG];refine aK.fk aN (by simp[ab,agQ]) (by simp[ab,agQ])
    .have nR:¬ (n:Int) < (RR.length:Int):=aa
     have bl:n=p.ax.length:=aa
     refine cw (by simp;omega) ?_;refine bW (ck _ ?_)
     have Ee:T p.ax.length=⟨I,C⟩:=by rw[<- bl];exact XS
     refine ae fw [6] [6,7,701,702] ?_;exact aW (Aq fw @Ee)
theorem adQ {p:aP} (aZ:dr p=none) (hk:∀ r∈p.ax,mR r):Da p:=by
 have hg:=iB aZ;have fy:=hg.names;have tX:=hg.ax;refine⟨aa,aa,fun n hn=>?_,fun r hr e he=>?_⟩
 .have:=abC (hg.name n hn).1;omega
 .obtain⟨e',jT,_,_,hb⟩:=hk r hr;rw[he]at jT;obtain rfl:=AI jT;have h1:=Lib.compact_length_le (nv (du true e));have h2:=sE (du true e);have h3:=xO true e;refine⟨aa,?_⟩;unfold fi;omega
def xE (x:Int) (k:Nat):Bool:=qq .and .i64 (x.fdiv (2 ^ (min k IntKind.i64.bits))) 1 == 1
def de (x:Int):Nat->List Bool
 | 0=>[]
 | k+1=>de x k ++ [xE x k]
theorem ui (x:Int):∀ k,(de x k).length=k
 | 0=>rfl
 | k+1=>by rw[de,agU,ui x k];rfl
def xX (t:Tx):Option aP:=if 1500 < t.length then none else match jB t with
 | (none,p)=>some p
 | (some _,_)=>none
theorem Qz {t:Tx} {p:aP} (h:xX t=some p):jB t=(none,p):=by
 unfold xX at h;split at h
 .cases h
 .split at h
  .rename_i q hq;obtain rfl:=AI h;exact hq
  .cases h
def yy:Option aP->D
 | none=>.bx [fH ⟨[],[]⟩,dU ⟨[],[]⟩,.v (.bool false)]
 | some p=>.bx [fH p,dU p,.v (.bool true)]
theorem GN:fH ⟨[],[]⟩ = .agg [.sl none [],.sl none []]:=rfl
theorem GO:dU ⟨[],[]⟩ = .agg [.sl none [],.sl none []]:=rfl
structure j5 where
 nm:Nat
 most:Int
 far:Bool
def jP (p:aP) (n:gz):Bool:=p.ax.any (oG n.name)
def partOf (n:gz) (ed:Bool) (i:Nat):List j5:=if n.kind=2\/(n.kind=1/\ed=true) then [⟨i,2,false⟩] else if n.kind≠1 then [⟨i,n.count+1,true⟩] else []
def gm (p:aP):Nat->List j5
 | 0=>[]
 | i+1=>gm p i ++ partOf (p.names.getD i ⟨[],0,0⟩) (jP p (p.names.getD i ⟨[],0,0⟩)) i
def bU (p:aP):List j5:=gm p p.names.length
theorem Fq {p:aP} {i:Nat} (h:i < p.names.length):gm p (i+1)=gm p i ++ partOf p.names[i] (jP p p.names[i]) i:=by
 rw[gm,gV h]
def b6:List j5->Int
 | []=>1
 | x :: l=>x.most * b6 l
def rY (x:j5) (s:cK):Int:=if x.far then s.ct.getD x.nm 0 else if s.is.getD x.nm false then 1 else 0
def gF:List j5->cK->Int
 | [],_=>0
 | x :: l,s=>rY x s+x.most * gF l s
def qQ (x:j5) (k:Int) (s:cK):cK:=if x.far then ⟨s.is.set x.nm (decide (k=x.most - 1)),s.ct.set x.nm k⟩ else ⟨s.is.set x.nm (decide (k=1)),s.ct⟩
def nw:List j5->Int->cK->cK
 | [],_,s=>s
 | x :: l,n,s=>nw l (n / x.most) (qQ x (n % x.most) s)
structure vW (p:aP) (x:j5):Prop where
 lt:x.nm < p.names.length
 fa:x.far=true->3<=p.names[x.nm].kind/\x.most=p.names[x.nm].count+1
 ne:x.far=false->x.most=2/\p.names[x.nm].kind < 3
 m2:2<=x.most
 m8:x.most<=8
theorem ach {n:gz} {ed:Bool} {i:Nat} {x:j5} (h:x∈partOf n ed i):x.nm=i/\((x.far=false/\x.most=2/\(n.kind=2\/(n.kind=1/\ed=true)))\/(x.far=true/\x.most=n.count+1/\n.kind≠1/\n.kind≠2)):=by
 unfold partOf at h;split at h
 .rename_i h1;rw[ahc]at h;subst h;exact⟨rfl,.inl ⟨rfl,rfl,h1⟩⟩
 .rename_i h1;split at h
  .rename_i h2;rw[ahc]at h;subst h;exact⟨rfl,.inr ⟨rfl,rfl,h2,fun e=>h1 (.inl e)⟩⟩
  .cases h
theorem Qf {p:aP} {x:j5}:∀ {n:Nat},n<=p.names.length->(x∈gm p n↔∃ i,∃ hi:i < p.names.length,i < n/\x∈partOf p.names[i] (jP p p.names[i]) i)
 | 0,_=>by simp[gm]
 | n+1,hn=>by
  rw[Fq aa,agN,Qf aa];constructor
  .rintro (⟨i,hi,h1,h2⟩ | h)
   .exact⟨i,hi,aa,h2⟩
   .exact⟨n,aa,aa,h⟩
  .rintro⟨i,hi,h1,h2⟩;by_cases e:i=n
   .subst e;exact .inr h2
   .exact .inl ⟨i,hi,aa,h2⟩
theorem rM {p:aP} (hg:j2 p) {x:j5} (h:x∈bU p):vW p x:=by
 obtain⟨i,hi,_,h2⟩:=(Qf (agD _)).1 h;obtain⟨rfl,h3⟩:=ach h2;have h4:=hg.name _ (OF hi);have h5:=hg.count _ (OF hi)
 rcases h3 with⟨e1,e2,e3⟩ | ⟨e1,e2,e3,e4⟩
 .exact⟨hi,(fun h=>by rw[e1]at h;cases h),fun _=>⟨e2,aa⟩,aa,aa⟩
 .exact⟨hi,fun _=>⟨aa,e2⟩,(fun h=>by rw[e1]at h;cases h),aa,aa⟩
theorem Ct (p:aP):∀ n,(gm p n).length<=n
 | 0=>agD _
 | n+1=>by
  have:=Ct p n;rw[gm,agU];unfold partOf;split<;>(try split)<;>simp<;>omega
theorem sB {l:List j5} (h:∀ x∈l,2<=x.most):0 < b6 l:=by
 induction l with
 | nil=>decide
 | cons x l ih=>
  have h1:=ih fun y hy=>h y (by simp[hy]);have h2:=h x ak;exact Int.mul_pos aa h1
theorem Cz:∀ (a b:List j5),b6 (a ++ b)=b6 a * b6 b
 | [],b=>by simp[b6]
 | x :: a,b=>by rw[ahR,b6,b6,Cz a b,Int.mul_assoc]
theorem acy {l:List j5} {k:Nat} (h:k < l.length):b6 (l.take (k+1))=b6 (l.take k) * l[k].most:=by
 rw[agB h,Cz];simp[b6]
theorem acx {l:List j5} (h:∀ x∈l,2<=x.most):∀ k,b6 (l.take k)<=b6 l:=by
 intro k
 have e:b6 l=b6 (l.take k) * b6 (l.drop k):=by rw[<- Cz,ah6]
 have h1:0 < b6 (l.take k):=sB fun x hx=>h x (agJ hx);have h2:0 < b6 (l.drop k):=sB fun x hx=>h x (ahf hx);rw[e];have:=ahq (show (1:Int)<=b6 (l.drop k) by omega) (ahW h1);omega
theorem Me {p:aP} {s:cK} (hs:fU p s) {x:j5} (hx:vW p x):0<=rY x s/\rY x s < x.most:=by
 unfold rY
 cases hf:x.far with
 | true=>
  have h1:=hs.lo x.nm;have h2:=hs.hi x.nm hx.lt;have h3:=(hx.fa hf).2;simp only[if_true];omega
 | false=>
  have:=(hx.ne hf).1;simp only[agE,if_false];split<;>omega
theorem JO {l:List j5} {s:cK} (h:∀ x∈l,0<=rY x s/\rY x s < x.most):0<=gF l s/\gF l s < b6 l:=by
 induction l with
 | nil=>exact⟨Int.le_refl 0,(by decide:(0:Int) < 1)⟩
 | cons x l ih=>
  have h1:=ih fun y hy=>h y (by simp[hy]);have h2:=h x ak;rw[gF,b6];have h3:0<=x.most * gF l s:=aie aa h1.1;have h4:x.most * (gF l s+1)<=x.most * b6 l:=ahq aa aa;rw[Int.mul_add,Int.mul_one]at h4;omega
def iW (p:aP) (n:Int):cK:=nw (bU p) n (jZ p)
theorem acC {p:aP} {x:j5} (hx:vW p x) {s:cK} (hs:fU p s) {d:Int} (h0:0<=d) (h1:d < x.most):fU p (qQ x d s):=by
 have aG:=hx.lt;unfold qQ
 cases hf:x.far with
 | false=>
  simp only[agE,if_false];exact CJ hs aG (hx.ne hf).2 _
 | true=>
  have hmo:=(hx.fa hf).2;simp only[if_true];refine⟨by simp[hs.l1],by simp[hs.l2],fun k=>?_,fun k hk=>?_,fun k hk h3=>?_⟩
  .show 0<=(s.ct.set x.nm d).getD k 0;by_cases e:x.nm=k
   .subst e;rw[nJ (by rw[hs.l2];exact aG)];exact h0
   .rw[jQ e];exact hs.lo k
  .show (s.ct.set x.nm d).getD k 0<=_;by_cases e:x.nm=k
   .subst e;rw[nJ (by rw[hs.l2];exact aG)];omega
   .rw[jQ e];exact hs.hi k hk
  .show (s.is.set x.nm _).getD k false=decide ((s.ct.set x.nm d).getD k 0=_);by_cases e:x.nm=k
   .subst e;rw[nJ (by rw[hs.l1];exact aG),nJ (by rw[hs.l2];exact aG)];congr 1;exact propext ⟨fun h=>aa,fun h=>aa⟩
   .rw[jQ e,jQ e];exact hs.at' k hk h3
theorem RF {p:aP}:∀ {l:List j5} {n:Int} {s:cK},(∀ x∈l,vW p x)->fU p s->fU p (nw l n s)
 | [],_,_,_,hs=>hs
 | x :: l,n,s,hl,hs=>by
  have hx:=hl x ak;have:=hx.m2;rw[nw];exact RF (fun y hy=>hl y (by simp[hy])) (acC hx hs (Int.emod_nonneg _ aa) (Int.emod_lt_of_pos _ aa))
theorem sF {p:aP} (hc:dr p=none) (n:Int):fU p (iW p n):=RF (fun _ hx=>rM (iB hc) hx) (ad0 (iB hc))
theorem WM {α:Type} {d:α}:∀ {a b:List α},a.length=b.length->(∀ i,i < a.length->a.getD i d=b.getD i d)->a=b:=fun {a b} hl h=>by
 refine List.ext_getElem hl fun i h1 h2=>?_;have:=h i h1
 rwa [gV h1,gV h2]at this
def qi (p:aP) (m:Nat) (s:Nat):List Int:=(List.range (2 ^ m)).map fun i:Nat=>gF (bU p) (lW p (iW p s) (de (i:Int) m))
def ef (p:aP):List (List Int):=(List.range (b6 (bU p)).toNat).map (qi p (aY p).length)
theorem Fc (p:aP):(ef p).length=(b6 (bU p)).toNat:=by simp[ef]
theorem CF (p:aP) (m s:Nat):(qi p m s).length=2 ^ m:=by simp[qi]
theorem JI {p:aP} {s:Nat} (h:s < (ef p).length):(ef p)[s]=qi p (aY p).length s:=by simp[ef]
theorem ado {p:aP} {m s i:Nat} (h:i < (qi p m s).length):(qi p m s)[i]=gF (bU p) (lW p (iW p s) (de i m)):=by simp[qi]
def cZ (p:aP) (n:gz):Int:=if 3<=n.kind then n.count+1 else if n.kind=2 then 2 else if n.kind=1/\jP p n=true then 2 else 0
def e6 (p:aP):List Int:=p.names.map (cZ p)
theorem J3 {p:aP} (hg:j2 p) {i:Nat} (hi:i < p.names.length):partOf p.names[i] (jP p p.names[i]) i=if cZ p p.names[i]=0 then [] else [⟨i,cZ p p.names[i],decide (3<=p.names[i].kind)⟩]:=by
 have h4:=hg.name _ (OF hi);have h5:=hg.count _ (OF hi);generalize p.names[i]=n at h4 h5 ⊢;unfold partOf cZ;by_cases k3:3<=n.kind
 .have n2:¬ (n.kind=2\/n.kind=1/\jP p n=true):=aa
  have n1:n.kind≠1:=aa
  have n0:¬ n.count+1=0:=aa
  rw[if_neg n2,if_pos n1,if_pos k3,if_neg n0];simp[k3]
 .by_cases k2:n.kind=2
  .rw[if_pos (.inl k2),if_neg k3,if_pos k2];simp[k3]
  .have k1:n.kind=1:=aa
   rw[if_neg k3,if_neg k2];by_cases he:jP p n=true
   .have e3:n.kind=1/\jP p n=true:=⟨k1,he⟩;have e2:n.kind=2\/n.kind=1/\jP p n=true:=.inr e3;rw[if_pos e2,if_pos e3];simp[k3]
   .have e1:¬ (n.kind=2\/n.kind=1/\jP p n=true):=fun h=>h.elim k2 fun h=>he h.2;have e2:¬ (n.kind=1/\jP p n=true):=fun h=>he h.2;rw[if_neg e1,if_neg (fun h=>h k1),if_neg e2,if_pos rfl]
theorem Qg (p:aP) (n:Nat):∀ d,∃ R,gm p (n+d)=gm p n ++ R
 | 0=>⟨[],ak⟩
 | d+1=>by
  obtain⟨R,h⟩:=Qg p n d;rw[<- ahs,gm,h];exact⟨_,ahI _ _ _⟩
def jl (p:aP) (i:Nat):List j5:=(bU p).drop (gm p i).length
theorem adJ (p:aP):jl p 0=bU p:=rfl
theorem Rp (p:aP):jl p p.names.length=[]:=ahe (agD _)
theorem Rt {p:aP} {i:Nat} (hi:i < p.names.length):jl p i=partOf p.names[i] (jP p p.names[i]) i ++ jl p (i+1):=by
 obtain⟨R,h⟩:=Qg p (i+1) (p.names.length - (i+1));rw[show i+1+(p.names.length - (i+1))=p.names.length by omega]at h;have e:bU p=gm p (i+1) ++ R:=h
 have e1:jl p (i+1)=R:=by
  unfold jl;rw[e,List.drop_left]
 have e2:gm p (i+1)=gm p i ++ partOf p.names[i] (jP p p.names[i]) i:=Fq hi;rw[e1];unfold jl;rw[e,e2,ahI,List.drop_left]
theorem Rq {p:aP} {i:Nat} {x:j5} (h:x∈jl p i):x∈bU p:=ahf h
theorem Rr {p:aP} (hg:j2 p) (s:cK) {i:Nat} (hi:i < p.names.length):gF (jl p i) s=if cZ p p.names[i]=0 then gF (jl p (i+1)) s else (if 3<=p.names[i].kind then s.ct.getD i 0 else if s.is.getD i false then 1 else 0)+cZ p p.names[i] * gF (jl p (i+1)) s:=by
 rw[Rt hi,J3 hg hi];by_cases h:cZ p p.names[i]=0
 .rw[if_pos h,if_pos h,ahP]
 .rw[if_neg h,if_neg h,ahv,gF];congr 1;unfold rY;by_cases k3:3<=p.names[i].kind
  .simp[k3]
  .simp[k3]
theorem acw {p:aP} (hg:j2 p) {i:Nat} (hi:i < p.names.length):b6 (gm p (i+1))=if cZ p p.names[i]=0 then b6 (gm p i) else b6 (gm p i) * cZ p p.names[i]:=by
 rw[Fq hi,Cz,J3 hg hi];by_cases h:cZ p p.names[i]=0
 .rw[if_pos h,if_pos h];simp[b6]
 .rw[if_neg h,if_neg h];simp[b6]
theorem adZ {p:aP} (hg:j2 p) (n:Int) (s:cK) {i:Nat} (hi:i < p.names.length):nw (jl p i) n s=if cZ p p.names[i]=0 then nw (jl p (i+1)) n s else nw (jl p (i+1)) (n / cZ p p.names[i]) (qQ ⟨i,cZ p p.names[i],decide (3<=p.names[i].kind)⟩ (n % cZ p p.names[i]) s):=by
 rw[Rt hi,J3 hg hi];by_cases h:cZ p p.names[i]=0
 .rw[if_pos h,if_pos h,ahP]
 .rw[if_neg h,if_neg h,ahv,nw]
def iZ (x:j5):List D:=[.v (.int .i64 x.nm),.v (.int .i64 x.most),.v (.bool x.far)]
def pa (l:List j5):D:=.sl none (l.map iZ)
def rU (p:aP) (st fc:Int) (nx:List (List D)):List D:=[cj p.names,fq p.ax,.v (.int .i64 st),.v (.int .i64 fc),.sl none nx,pa (bU p),gg (aY p)]
def sx (p:aP) (st fc:Int) (nx:List (List D)):List (Nat×Row):=[(25,.box 113 [.d (cj p.names),.d (fq p.ax),.d (.v (.int .i64 st)),.d (.v (.int .i64 fc)),.own 800 0 nx.length,.d (pa (bU p)),.d (gg (aY p))]),(800,.sl 41 1 nx)]
def pU (p:aP) (st fc:Int) (nx:List (List D)):D:=.ip (rU p st fc nx)
def cW (l:List (List Int)):List (List D):=l.map fun r=>[gg r]
theorem zO (l:List (List Int)):(cW l).length=l.length:=by simp[cW]
theorem RG (G:aC) (p:aP) (hp:p.names.length < 2^40):MC prog G [] 111 [.d (fH p)] (aw []) (.agg [.own 701 0 (jZ p).is.length,.own 702 0 (jZ p).ct.length]) (aw [(701,.sl 4 1 ((jZ p).is.map fun b=>[.v (.bool b)])),(702,.sl 3 1 ((jZ p).ct.map fun n=>[.v (.int .i64 n)]))]):=by
 have gC:(p.names.map bo).length=p.names.length:=ak
 simp only[fH,fW,cj,fq,jZ,List.map_replicate,List.length_replicate];rw[<- gC];rw[<- gC]at hp;generalize p.names.map bo=NN at *;generalize p.ax.map c8=RR at *;refine MC.aQ (aB _) func111 rfl rfl (rs:=[.cell 2 88]) results111 (by simp[ntmps111]) rfl fun X=>?_;simp only[ntmps111];refine aq [1,2] [1,2] ?_;refine fI 1 ?_;refine SK (aB _) ah ([]) ([]) ([0,1,2,4,5,6,3,7,8,9]) [2] [2,6,10] (eh rfl) ah fun K' ao=>?_;(repeat refine qV rfl fun K2 au=>?_;simp[qN,kz];(repeat refine⟨aa,?_⟩);refine au _ ?_;clear au K2);refine sI (ao _ ?_);refine AW.st (by simp[qN,kz];rfl) ?_;refine AW.imp (aK.dM (r:=6) (r':=701) bO ak) ?_;refine AW.st (by simp[gR,gQ,Go.Av.dM,qS];rfl) ?_;refine AW.imp (aK.dM (r:=10) (r':=702) bO ak) ?_;refine AW.st (by simp[gR,gQ,Go.Av.dM,qS];rfl) ?_;exact gw
theorem abx (G:aC) (p:aP) (aZ:dr p=none) (st fc:Int) (nx:List (List D)) (n:Int) (h0:0<=n) (h1:n<=2^40):MC prog G [25,800] 66 [.ref 25 0 0,.d (ab n)] (aw (sx p st fc nx)) (.d (qw (iW p n))) (aw (sx p st fc nx)):=by
 have hg:=iB aZ;have fy:=hg.names;have dP:=RG G p aa;have wG:∀ x∈bU p,vW p x:=fun x hx=>rM hg hx
 have dG:(jZ p).is.length=p.names.length:=by simp[jZ]
 have dW:(jZ p).ct.length=p.names.length:=by simp[jZ]
 have uZ:nw ((bU p).drop 0) n (jZ p)=iW p n:=rfl;have pb:=Ct p p.names.length;have A6:gm p p.names.length=bU p:=rfl;rw[A6]at pb;simp only[fH,fW,cj,fq]at dP;simp only[sx,cj,fq,pa,gg,ab,qw,ou,iM];generalize Xo:iW p n=Gd at *;generalize XP:jZ p=ST at *;generalize Hj:bU p=cM at *
 have Ee:(cM.map iZ).length=cM.length:=ak
 have Bc:∀ i (h:i < cM.length),(cM.map iZ)[i]? = some [.v (.int .i64 cM[i].nm),.v (.int .i64 cM[i].most),.v (.bool cM[i].far)]:=fun i h=>by simp[h,iZ]
 generalize cM.map iZ=PT at *;generalize (aY p).map (fun n=>[D.v (.int .i64 n)])=IN at *;generalize p.names.map bo=NN at *;generalize p.ax.map c8=RR at *;refine MC.aQ (aB _) func66 rfl rfl (rs:=[.cell 4 88]) results66 (by simp[ntmps66]) rfl fun X=>?_;simp only[ntmps66];have fw:=@aih;refine ae fw [0,1,4] [25,800,4] ?_;refine bD fw dP [0,1,4,5] [25,800,4,5,701,702] ?_;refine ag fun K1 aF=>ae fw [1,4,5,17,18,19] [25,800,4,5,701,702] ?_;refine cy (S:=Nat×Int×cK) (fun s=>s.1<=cM.length/\0<=s.2.1/\s.2.1<=2^40/\s.2.2.is.length=p.names.length/\s.2.2.ct.length=p.names.length/\nw (cM.drop s.1) s.2.1 s.2.2=Gd) (fun s=>⟨bn [(1,int s.2.1),(4,.ref 4 0 0),(5,.ref 5 0 0),(17,.d (.sl none PT)),(18,int PT.length),(19,int s.1)],aw [(25,.box 113 [.d (.sl none NN),.d (.sl none RR),.d (.v (.int .i64 st)),.d (.v (.int .i64 fc)),.own 800 0 nx.length,.d (.sl none PT),.d (.sl none IN)]),(800,.sl 41 1 nx),(4,.box 88 [.d (.sl (some false) []),.d (.sl (some false) [])]),(5,.box 88 [.own 701 0 s.2.2.is.length,.own 702 0 s.2.2.ct.length]),(701,.sl 4 1 (s.2.2.is.map fun b=>[.v (.bool b)])),(702,.sl 3 1 (s.2.2.ct.map fun n=>[.v (.int .i64 n)]))]⟩) (fun s=>cM.length - s.1) (0,n,ST) ?_ ⟨ak,h0,h1,dG,dW,uZ⟩ ?_
 .refine bq fw
 .rintro⟨k,m,T⟩ ⟨hk,rA,w9,ig,gC,cO⟩;dsimp only at hk rA w9 ig gC cO ⊢;obtain⟨TI,TC⟩:=T;dsimp only at ig gC ⊢;refine ae fw [1,4,5,17,18,19,20] [25,800,4,5,701,702] ?_;refine ag fun K2 au=>?_;by_cases aG:k < cM.length
  .have eW:k < PT.length:=aa
   have nR:(k:Int) < (PT.length:Int):=aa
   refine cm (by simp<;>omega) ?_;refine ar (au _ (ag fun K3 aU=>bd ?_));have hx:=wG _ (OF aG)
   have lG:PT[k]=[.v (.int .i64 cM[k].nm),.v (.int .i64 cM[k].most),.v (.bool cM[k].far)]:=by
    have:=Bc k aG;rw[By eW]at this;exact AI this
   rw[agR aG,nw]at cO;have jW:=hx.lt;have oJ:=hx.m2;have BB:=hx.m8;clear hx;generalize cM[k]=x at lG cO jW oJ BB;obtain⟨i,M,fa⟩:=x;dsimp only at lG cO jW oJ BB
   have r5:¬ M=0:=aa
   have jV:m.tmod M=m % M:=ahx rA;have iP:0<=m / M:=Int.ediv_nonneg rA aa;have rz:m / M<=m:=Int.ediv_le_self _ rA
   have hdiv:IntKind.i64.wrap (m.tdiv M)=m / M:=by
    rw[ahy rA];exact vN aa
   have mF:0<=m % M:=Int.emod_nonneg _ r5;have tW:m % M < M:=Int.emod_lt_of_pos _ aa;generalize hq:m / M=q at *;generalize hr:m % M=r at *
   have fJ:i < TI.length:=aa
   have fZ:i < TC.length:=aa
   have qf:=(Aq fw (Aq @eW @lG));refine ay [1,4,5,7,17,18,19] [25,800,4,5,7,701,702] ?_;refine dI fw 7 ?_;have qf:=(Aq fw (Aq @r5 @jV));refine ay [1,4,5,7,8,17,18,19] [25,800,4,5,701,702] ?_;have qf:=(Aq fw (Aq @r5 @hdiv));refine ay [1,4,5,7,8,17,18,19] [25,800,4,5,701,702] ?_;refine ae fw [1,4,5,7,8,17,18,19,32] [25,800,4,5,701,702] ?_
   cases fa with
   | true=>
    simp only[qQ,if_true]at cO;refine aI ?_;have qf:=(Aq fw @fZ);refine ay [1,4,5,7,8,17,18,19] [25,800,4,5,701,702] ?_;have qf:=(Aq fw @fJ);refine eJ aU [1,4,5,17,18,19] [25,800,4,5,701,702] ?_;refine cE fw ?_;(try simp only[aT,aV]);refine ba.mk (k+1,q,⟨TI.set i (decide (r=M - 1)),TC.set i r⟩) ⟨by dsimp only;omega,iP,by dsimp only;omega,by simp[ig],by simp[gC],cO⟩ (by dsimp only;omega) ?_;refine aK.fk (eh rfl) (by simp[ab,agQ]) (by simp[ab,agQ])
   | false=>
    simp only[qQ,agE,if_false]at cO;refine al ?_;have qf:=(Aq fw @fJ);refine eJ aU [1,4,5,17,18,19] [25,800,4,5,701,702] ?_;refine cE fw ?_;(try simp only[aT,aV]);refine ba.mk (k+1,q,⟨TI.set i (decide (r=1)),TC⟩) ⟨by dsimp only;omega,iP,by dsimp only;omega,by simp[ig],gC,cO⟩ (by dsimp only;omega) ?_;refine aK.fk (eh rfl) (by simp[ab,agQ]) (by simp[ab,agQ])
  .have nR:¬ (k:Int) < (PT.length:Int):=aa
   rw[ahe aa,nw]at cO;subst cO;refine cw (by simp;omega) ?_;refine bW (aF _ (AW.imp (aK.freeze 701 bO) ?_));refine AW.st (by simp[ab,sh];rfl) ?_;refine AW.imp (aK.freeze 702 bO) ?_;refine AW.st (by simp[ab,sh];rfl) ?_;refine ae fw [4] [25,800,4] ?_;exact aW fw
theorem aby (G:aC) (p:aP) (aZ:dr p=none) (st fc:Int) (nx:List (List D)) (n:Int) (h0:0<=n) (h1:n<=2^40):aD prog G 66 [pU p st fc nx,ab n] (qw (iW p n)):=by
 have hg:=iB aZ;have fy:=hg.names;have dP:=RG G p aa;have wG:∀ x∈bU p,vW p x:=fun x hx=>rM hg hx
 have dG:(jZ p).is.length=p.names.length:=by simp[jZ]
 have dW:(jZ p).ct.length=p.names.length:=by simp[jZ]
 have uZ:nw ((bU p).drop 0) n (jZ p)=iW p n:=rfl;have pb:=Ct p p.names.length;have A6:gm p p.names.length=bU p:=rfl;rw[A6]at pb;simp only[fH,fW,cj,fq]at dP;simp only[pU,rU,cj,fq,pa,gg,ab,qw,ou,iM];generalize Xo:iW p n=Gd at *;generalize XP:jZ p=ST at *;generalize Hj:bU p=cM at *
 have Ee:(cM.map iZ).length=cM.length:=ak
 have Bc:∀ i (h:i < cM.length),(cM.map iZ)[i]? = some [.v (.int .i64 cM[i].nm),.v (.int .i64 cM[i].most),.v (.bool cM[i].far)]:=fun i h=>by simp[h,iZ]
 generalize cM.map iZ=PT at *;generalize (aY p).map (fun n=>[D.v (.int .i64 n)])=IN at *;generalize p.names.map bo=NN at *;generalize p.ax.map c8=RR at *;refine aD.aQ (aB _) func66 rfl rfl (rs:=[.cell 4 88]) results66 (by simp[ntmps66]) fun X=>?_;simp only[ntmps66,List.map];have fw:=@aih;refine ae fw [0,1,4] [4] ?_;refine bD fw dP [0,1,4,5] [4,5,701,702] ?_;refine ag fun K1 aF=>ae fw [1,4,5,17,18,19] [4,5,701,702] ?_;refine cy (S:=Nat×Int×cK) (fun s=>s.1<=cM.length/\0<=s.2.1/\s.2.1<=2^40/\s.2.2.is.length=p.names.length/\s.2.2.ct.length=p.names.length/\nw (cM.drop s.1) s.2.1 s.2.2=Gd) (fun s=>⟨bn [(1,int s.2.1),(4,.ref 4 0 0),(5,.ref 5 0 0),(17,.d (.sl none PT)),(18,int PT.length),(19,int s.1)],aw [(4,.box 88 [.d (.sl (some false) []),.d (.sl (some false) [])]),(5,.box 88 [.own 701 0 s.2.2.is.length,.own 702 0 s.2.2.ct.length]),(701,.sl 4 1 (s.2.2.is.map fun b=>[.v (.bool b)])),(702,.sl 3 1 (s.2.2.ct.map fun n=>[.v (.int .i64 n)]))]⟩) (fun s=>cM.length - s.1) (0,n,ST) ?_ ⟨ak,h0,h1,dG,dW,uZ⟩ ?_
 .refine bq fw
 .rintro⟨k,m,T⟩ ⟨hk,rA,w9,ig,gC,cO⟩;dsimp only at hk rA w9 ig gC cO ⊢;obtain⟨TI,TC⟩:=T;dsimp only at ig gC ⊢;refine ae fw [1,4,5,17,18,19,20] [4,5,701,702] ?_;refine ag fun K2 au=>?_;by_cases aG:k < cM.length
  .have eW:k < PT.length:=aa
   have nR:(k:Int) < (PT.length:Int):=aa
   refine cm (by simp<;>omega) ?_;refine ar (au _ (ag fun K3 aU=>bd ?_));have hx:=wG _ (OF aG)
   have lG:PT[k]=[.v (.int .i64 cM[k].nm),.v (.int .i64 cM[k].most),.v (.bool cM[k].far)]:=by
    have:=Bc k aG;rw[By eW]at this;exact AI this
   rw[agR aG,nw]at cO;have jW:=hx.lt;have oJ:=hx.m2;have BB:=hx.m8;clear hx;generalize cM[k]=x at lG cO jW oJ BB;obtain⟨i,M,fa⟩:=x;dsimp only at lG cO jW oJ BB
   have r5:¬ M=0:=aa
   have jV:m.tmod M=m % M:=ahx rA;have iP:0<=m / M:=Int.ediv_nonneg rA aa;have rz:m / M<=m:=Int.ediv_le_self _ rA
   have hdiv:IntKind.i64.wrap (m.tdiv M)=m / M:=by
    rw[ahy rA];exact vN aa
   have mF:0<=m % M:=Int.emod_nonneg _ r5;have tW:m % M < M:=Int.emod_lt_of_pos _ aa;generalize hq:m / M=q at *;generalize hr:m % M=r at *
   have fJ:i < TI.length:=aa
   have fZ:i < TC.length:=aa
   have qf:=(Aq fw (Aq @eW @lG));refine ay [1,4,5,7,17,18,19] [4,5,7,701,702] ?_;refine dI fw 7 ?_;have qf:=(Aq fw (Aq @r5 @jV));refine ay [1,4,5,7,8,17,18,19] [4,5,701,702] ?_;have qf:=(Aq fw (Aq @r5 @hdiv));refine ay [1,4,5,7,8,17,18,19] [4,5,701,702] ?_;refine ae fw [1,4,5,7,8,17,18,19,32] [4,5,701,702] ?_
   cases fa with
   | true=>
    simp only[qQ,if_true]at cO;refine aI ?_;have qf:=(Aq fw @fZ);refine ay [1,4,5,7,8,17,18,19] [4,5,701,702] ?_;have qf:=(Aq fw @fJ);refine eJ aU [1,4,5,17,18,19] [4,5,701,702] ?_;refine cE fw ?_;(try simp only[aT,aV]);refine ba.mk (k+1,q,⟨TI.set i (decide (r=M - 1)),TC.set i r⟩) ⟨by dsimp only;omega,iP,by dsimp only;omega,by simp[ig],by simp[gC],cO⟩ (by dsimp only;omega) ?_;refine aK.fk aN (by simp[ab,agQ]) (by simp[ab,agQ])
   | false=>
    simp only[qQ,agE,if_false]at cO;refine al ?_;have qf:=(Aq fw @fJ);refine eJ aU [1,4,5,17,18,19] [4,5,701,702] ?_;refine cE fw ?_;(try simp only[aT,aV]);refine ba.mk (k+1,q,⟨TI.set i (decide (r=1)),TC⟩) ⟨by dsimp only;omega,iP,by dsimp only;omega,by simp[ig],gC,cO⟩ (by dsimp only;omega) ?_;refine aK.fk aN (by simp[ab,agQ]) (by simp[ab,agQ])
  .have nR:¬ (k:Int) < (PT.length:Int):=aa
   rw[ahe aa,nw]at cO;subst cO;refine cw (by simp;omega) ?_;refine bW (aF _ (AW.imp (aK.freeze 701 trivial) ?_));refine AW.st (by simp[ab,sh];rfl) ?_;refine AW.imp (aK.freeze 702 trivial) ?_;refine AW.st (by simp[ab,sh];rfl) ?_;refine ae fw [4] [4] ?_;exact aW fw
theorem abu (G:aC) (p:aP) (aZ:dr p=none) (st fc:Int) (nx:List (List D)) (s:cK) (hs:fU p s) (hP:b6 (bU p)<=4096):MC prog G [25,800] 84 [.ref 25 0 0,.d (qw s)] (aw (sx p st fc nx)) (.d (ab (gF (bU p) s))) (aw (sx p st fc nx)):=by
 have hg:=iB aZ;have fy:=hg.names;have wG:∀ x∈bU p,vW p x:=fun x hx=>rM hg hx;have HF:∀ x∈bU p,0<=rY x s/\rY x s < x.most:=fun x hx=>Me hs (wG x hx);have rB:=JO HF;have oJ:∀ x∈bU p,2<=x.most:=fun x hx=>(wG x hx).m2;have Nw:∀ k,0<=gF ((bU p).drop k) s:=fun k=>(JO fun x hx=>HF x (ahf hx)).1;have Yw:∀ k,0 < b6 ((bU p).drop k):=fun k=>sB fun x hx=>oJ x (ahf hx);have dG:=hs.l1;have dW:=hs.l2;clear hs;have pb:=Ct p p.names.length;have A6:gm p p.names.length=bU p:=rfl;rw[A6]at pb;simp only[sx,cj,fq,pa,gg,ab,qw,ou,iM];obtain⟨TI,TC⟩:=s;dsimp only at dG dW ⊢;generalize Hj:bU p=cM at *
 have Ee:(cM.map iZ).length=cM.length:=ak
 have Bc:∀ i (h:i < cM.length),(cM.map iZ)[i]? = some [.v (.int .i64 cM[i].nm),.v (.int .i64 cM[i].most),.v (.bool cM[i].far)]:=fun i h=>by simp[h,iZ]
 generalize cM.map iZ=PT at *;generalize (aY p).map (fun n=>[D.v (.int .i64 n)])=IN at *;generalize p.names.map bo=NN at *;generalize p.ax.map c8=RR at *;refine MC.aQ (aB _) func84 rfl rfl (rs:=[.tmp 4]) results84 (by simp[ntmps84]) rfl fun X=>?_;simp only[ntmps84];have fw:=@aih;refine ae fw [0,3] [25,800,3] ?_;refine dI fw 3 ?_;refine ae fw [0,3,5,6] [25,800] ?_;refine ag fun K1 aF=>ae fw [3,5,6,13,14,15] [25,800] ?_;refine cy (S:=Nat×Int×Int) (fun s=>s.1<=cM.length/\0<=s.2.1/\0 < s.2.2/\s.2.2 * b6 (cM.drop s.1)=b6 cM/\s.2.1+s.2.2 * gF (cM.drop s.1) ⟨TI,TC⟩=gF cM ⟨TI,TC⟩) (fun s=>⟨bn [(3,.d (.ip [.sl none (TI.map fun b=>[.v (.bool b)]),.sl none (TC.map fun n=>[.v (.int .i64 n)])])),(5,int s.2.1),(6,int s.2.2),(13,.d (.sl none PT)),(14,int PT.length),(15,int s.1)],aw [(25,.box 113 [.d (.sl none NN),.d (.sl none RR),.d (.v (.int .i64 st)),.d (.v (.int .i64 fc)),.own 800 0 nx.length,.d (.sl none PT),.d (.sl none IN)]),(800,.sl 41 1 nx)]⟩) (fun s=>cM.length - s.1) (0,0,1) ?_ ⟨ak,ak,ak,ak,ak⟩ ?_
 .refine bq fw
 .rintro⟨k,n,b⟩ ⟨hk,xc,iD,iR,cO⟩;dsimp only at hk xc iD iR cO ⊢;have qF:=Nw k;have ry:0<=b * gF (cM.drop k) ⟨TI,TC⟩:=aie aa qF;refine ae fw [3,5,6,13,14,15,16] [25,800] ?_;refine ag fun K2 au=>?_;by_cases aG:k < cM.length
  .have eW:k < PT.length:=aa
   have nR:(k:Int) < (PT.length:Int):=aa
   refine cm (by simp<;>omega) ?_;refine ar (au _ (ag fun K3 aU=>bd ?_));have hx:=wG _ (OF aG);obtain⟨iP,rz⟩:=HF _ (OF aG)
   have lG:PT[k]=[.v (.int .i64 cM[k].nm),.v (.int .i64 cM[k].most),.v (.bool cM[k].far)]:=by
    have:=Bc k aG;rw[By eW]at this;exact AI this
   have Yt:=Nw (k+1);have afu:=Yw (k+1);rw[agR aG,gF]at cO;rw[agR aG,b6,<- Int.mul_assoc]at iR;rw[Int.mul_add,<- Int.add_assoc,<- Int.mul_assoc]at cO;have jW:=hx.lt;have oJ:=hx.m2;clear hx ry qF;unfold rY at cO iP rz;generalize cM[k]=x at lG cO iR jW oJ iP rz;obtain⟨i,M,fa⟩:=x;dsimp only at lG cO iR jW oJ iP rz;have Ef:0 < b * M:=Int.mul_pos iD aa
   have afs:b * M<=4096:=by
    have:=ahq (show (1:Int)<=b6 (cM.drop (k+1)) by omega) (ahW Ef);omega
   have aft:0<=b * M * gF (cM.drop (k+1)) ⟨TI,TC⟩:=aie aa Yt
   have fJ:i < TI.length:=aa
   have fZ:i < TC.length:=aa
   rw[gV fJ,gV fZ]at cO iP rz;generalize wK:TI[i]=bv at *;generalize pg:TC[i]=c at *;generalize Ht:b * M=bM at *;have qf:=(Aq fw (Aq @eW @lG));refine ay [3,5,6,8,13,14,15] [25,800,8] ?_;refine dI fw 8 ?_;refine ae fw [3,5,6,8,9,13,14,15] [25,800] ?_;refine ag fun K4 ck=>ae fw [3,5,6,8,9,13,14,15,20] [25,800] ?_
   cases fa with
   | true=>
    simp only[if_true]at cO iP rz;have lf:0<=b * c:=aie aa iP
    have gq:b * c<=bM:=by
     have:=ahq (ahW rz) (ahW iD);omega
    generalize X6:b * c=bc at *;refine aI ?_;have qf:=(Aq fw (Aq @fZ @pg));refine eJ ck [3,5,6,8,9,13,14,15] [25,800] ?_;have qf:=(Aq fw @X6);refine ay [3,5,6,8,13,14,15] [25,800] ?_;have qf:=(Aq fw @Ht);refine eJ aU [3,5,6,13,14,15] [25,800] ?_;refine cE fw ?_;(try simp only[aT,aV]);refine ba.mk (k+1,n+bc,bM) ⟨by dsimp only;omega,by dsimp only;omega,Ef,iR,cO⟩ (by dsimp only;omega) ?_;refine bq fw
   | false=>
    simp only[agE,if_false]at cO iP rz;refine al ?_;have qf:=(Aq fw (Aq @fJ @wK));refine ay [3,5,6,8,9,13,14,15,32] [25,800] ?_
    cases bv with
    | true=>
     simp only[if_true,Int.mul_one]at cO
     have eM:b<=bM:=by
      have:=ahq (show (1:Int)<=M by omega) (ahW iD);omega
     refine aI (gH fw ck [3,5,6,8,9,13,14,15] [25,800] ?_);refine ae fw [3,5,6,8,13,14,15] [25,800] ?_;have qf:=(Aq fw @Ht);refine eJ aU [3,5,6,13,14,15] [25,800] ?_;refine cE fw ?_;(try simp only[aT,aV]);refine ba.mk (k+1,n+b,bM) ⟨by dsimp only;omega,by dsimp only;omega,Ef,iR,cO⟩ (by dsimp only;omega) ?_;refine bq fw
    | false=>
     simp only[agE,if_false,Int.mul_zero,Int.add_zero]at cO;refine al (ar (ck _ ?_));refine ae fw [3,5,6,8,13,14,15] [25,800] ?_;have qf:=(Aq fw @Ht);refine eJ aU [3,5,6,13,14,15] [25,800] ?_;refine cE fw ?_;(try simp only[aT,aV]);refine ba.mk (k+1,n,bM) ⟨by dsimp only;omega,by dsimp only;omega,Ef,iR,cO⟩ (by dsimp only;omega) ?_;refine bq fw
  .have nR:¬ (k:Int) < (PT.length:Int):=aa
   rw[ahe aa,gF,Int.mul_zero,Int.add_zero]at cO;subst cO;refine cw (by simp;omega) ?_;refine bW (aF _ (ae fw [4] [25,800] ?_));exact aW fw
theorem abo (G:aC) (p:aP) (aZ:dr p=none) (st fc:Int) (nx:List (List D)) (x:Int):MC prog G [25,800] 86 [.ref 25 0 0,.d (ab x)] (aw (sx p st fc nx)) (.d (iM (de x (aY p).length))) (aw (sx p st fc nx)):=by
 have fy:=(iB aZ).names;have wW:=vl p.names 1 p.names.length;have l3:iT p.names 1 p.names.length=aY p:=rfl;rw[l3]at wW;simp only[sx,cj,fq,pa,gg,ab,iM]
 have kT:((aY p).map fun n=>[D.v (.int .i64 n)]).length=(aY p).length:=ak
 generalize (aY p).length=m at *;generalize (aY p).map (fun n=>[D.v (.int .i64 n)])=IN at *;generalize (bU p).map iZ=PT at *;generalize p.names.map bo=NN at *;generalize p.ax.map c8=RR at *;refine MC.aQ (aB _) func86 rfl rfl (rs:=[.tmp 4]) results86 (by simp[ntmps86]) rfl fun X=>?_;simp only[ntmps86];have fw:=@aih;refine ae fw [0,1] [25,800] ?_;refine ae fw [0,1,5] [25,800] ?_;refine ag fun K1 aF=>ae fw [1,5,11,12] [25,800] ?_;refine cy (S:=Nat) (fun k=>k<=m) (fun k=>⟨bn [(1,int x),(5,.own 901 0 k),(11,int m),(12,int k)],aw [(25,.box 113 [.d (.sl none NN),.d (.sl none RR),.d (.v (.int .i64 st)),.d (.v (.int .i64 fc)),.own 800 0 nx.length,.d (.sl none PT),.d (.sl none IN)]),(800,.sl 41 1 nx),(901,.sl 4 1 ((de x k).map fun b=>[.v (.bool b)]))]⟩) (fun k=>m - k) 0 ?_ aa ?_
 .refine (aK.kC 5 901 4 1 rfl rfl).trans ?_;refine bq (Aq fw (Aq @de.eq_1 (Aq @de.eq_2 @kT)))
 .intro k w5
  have lE:((de x k).map fun b=>[D.v (.bool b)]).length=k:=by simp[ui]
  have rp:de x (k+1)=de x k ++ [xE x k]:=rfl;have Br:(qq .and .i64 (x.fdiv (2 ^ (min k IntKind.i64.bits))) 1 == 1)=xE x k:=rfl;generalize kL:de x k=B at lE rp ⊢;refine ae fw [1,5,11,12,13] [25,800,901] ?_;refine ag fun K2 au=>eE (b:=k < m) (by simp[D.le,D.le.go,aL,ab]) (fun hc=>?_) (fun hc=>?_)
  .refine ar (au _ (ag fun K3 aU=>bd (ae fw [1,5,6,11,12] [25,800,901] ?_)));refine eU (aB _) fun K' ao=>?_;(repeat refine aM fun Kq af=>?_;simp[ab,lE,sh,od,Br];(repeat refine⟨aa,?_⟩);refine af _ ?_);refine bK (ao _ ?_);refine aU _ (AW.norm [1,5,11,12] [25,800,901] (eh rfl) (AW.st (by simp[ab,lE,sh,od,Br];rfl) ?_));refine cE fw ?_;(try simp only[aT,aV]);refine ba.mk (k+1) aa aa ?_;rw[rp];refine bq fw
  .obtain rfl:k=m:=aa
   refine bW (aF _ ?_);rw[kL];refine AW.imp (aK.freeze 901 bO) ?_;refine AW.st (by simp[ab,lE,sh];rfl) ?_;refine ae fw [4] [25,800] ?_;exact aW fw
theorem abp (G:aC) (p:aP) (aZ:dr p=none) (st fc:Int) (nx:List (List D)) (x:Int):aD prog G 86 [pU p st fc nx,ab x] (iM (de x (aY p).length)):=by
 have fy:=(iB aZ).names;have wW:=vl p.names 1 p.names.length;have l3:iT p.names 1 p.names.length=aY p:=rfl;rw[l3]at wW;simp only[pU,rU,cj,fq,pa,gg,ab,iM]
 have kT:((aY p).map fun n=>[D.v (.int .i64 n)]).length=(aY p).length:=ak
 generalize (aY p).length=m at *;generalize (aY p).map (fun n=>[D.v (.int .i64 n)])=IN at *;generalize (bU p).map iZ=PT at *;generalize p.names.map bo=NN at *;generalize p.ax.map c8=RR at *;refine aD.aQ (aB _) func86 rfl rfl (rs:=[.tmp 4]) results86 (by simp[ntmps86]) fun X=>?_;simp only[ntmps86,List.map];have fw:=@aih;refine ae fw [0,1] [] ?_;refine ae fw [0,1,5] [] ?_;refine ag fun K1 aF=>ae fw [1,5,11,12] [] ?_;refine cy (S:=Nat) (fun k=>k<=m) (fun k=>⟨bn [(1,int x),(5,.own 901 0 k),(11,int m),(12,int k)],aw [(901,.sl 4 1 ((de x k).map fun b=>[.v (.bool b)]))]⟩) (fun k=>m - k) 0 ?_ aa ?_
 .refine (aK.kC 5 901 4 1 rfl rfl).trans ?_;refine bq (Aq fw (Aq @de.eq_1 (Aq @de.eq_2 @kT)))
 .intro k w5
  have lE:((de x k).map fun b=>[D.v (.bool b)]).length=k:=by simp[ui]
  have rp:de x (k+1)=de x k ++ [xE x k]:=rfl;have Br:(qq .and .i64 (x.fdiv (2 ^ (min k IntKind.i64.bits))) 1 == 1)=xE x k:=rfl;generalize kL:de x k=B at lE rp ⊢;refine ae fw [1,5,11,12,13] [901] ?_;refine ag fun K2 au=>eE (b:=k < m) (by simp[D.le,D.le.go,aL,ab]) (fun hc=>?_) (fun hc=>?_)
  .refine ar (au _ (ag fun K3 aU=>bd (ae fw [1,5,6,11,12] [901] ?_)));refine eU (aB _) fun K' ao=>?_;(repeat refine aM fun Kq af=>?_;simp[ab,lE,sh,od,Br];(repeat refine⟨aa,?_⟩);refine af _ ?_);refine bK (ao _ ?_);refine aU _ (AW.norm [1,5,11,12] [901] aN (AW.st (by simp[ab,lE,sh,od,Br];rfl) ?_));refine cE fw ?_;(try simp only[aT,aV]);refine ba.mk (k+1) aa aa ?_;rw[rp];refine bq fw
  .obtain rfl:k=m:=aa
   refine bW (aF _ ?_);rw[kL];refine AW.imp (aK.freeze 901 trivial) ?_;refine AW.st (by simp[ab,lE,sh];rfl) ?_;refine ae fw [4] [] ?_;exact aW fw
