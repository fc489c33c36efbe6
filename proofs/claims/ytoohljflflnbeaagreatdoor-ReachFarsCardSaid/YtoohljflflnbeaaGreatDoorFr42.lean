/- Parts. -/
import Derived.Test.YtoohljflflnbeaaGreatDoorFr26
import Derived.Test.YtoohljflflnbeaaGreatDoorFr33
import Derived.Test.YtoohljflflnbeaaGreatDoorFr41
import Derived.Ground.Names8Prog
import Derived.Shelf.Spec.SlicesGrow
set_option linter.unusedSectionVars false
set_option linter.unusedSimpArgs false
set_option linter.unusedVariables false
set_option maxHeartbeats 64000000
set_option maxRecDepth 100000
open Go.Proofs.Tryz
namespace Go.Proofs
open Go.Shelf
def Tryz.YA:Go.Shelf.Ren:=⟨fun | 4=>240 | n=>n,fun | 22=>41 | 25=>3 | 3=>3 | 4=>4 | 9=>9 | 20=>20 | 0=>0 | n=>n,fun | n=>n⟩
theorem Tryz.Yz:Go.Proofs.Lays8.n4 prog Tryz.YA:={
 mixed:=ah
 f4:=⟨Tryz.f240.name,bF,func240.trans aP⟩
 t0:=underlying0
 a0:=isAgg0
 z0:=sizeOf0
 v0:=zeroValue0
 t3:=underlying3
 a3:=isAgg3
 z3:=sizeOf3
 v3:=zeroValue3
 t4:=underlying4
 a4:=isAgg4
 z4:=sizeOf4
 v4:=zeroValue4
 t9:=underlying9
 a9:=isAgg9
 z9:=sizeOf9
 v9:=zeroValue9
 t20:=underlying20
 a20:=isAgg20
 z20:=sizeOf20
 v20:=zeroValue20
 t22:=underlying41
 a22:=isAgg41
 z22:=sizeOf41
 v22:=zeroValue41 }
end Go.Proofs
namespace Go.Proofs.YtoohljflflnbeaaGreatDoor
open Go.Av Go.Shelf Go.RowKit
theorem agH (n G:Nat) (h:n<=G):(([]:List Value).toArray ++ Builtin.zeroCells (Value.int .i64 0).cells (0+n - 0) ++ Builtin.zeroCells (Value.int .i64 0).cells (G - (0+n))).size=G:=by
 simp[size_zeroCells,Value.cells];omega
theorem YB (G:ay) (n:Nat) (hn:n<=2^40):MC prog G [] 240 [.d (.sl (some false) []),.d (ab n)] (aq []) (.own 900 0 0) (aq [(900,.sl 3 1 [])]):=by
 refine⟨iA.of func240 rfl rfl,fun X w μ vs hs dt bd hv=>?_⟩
 obtain⟨a,b,rfl⟩:∃ a b,vs = #[a,b]:=by
  match vs,bd with
  | ⟨[a,b]⟩,_=>exact⟨a,b,rfl⟩
 obtain rfl:a = .slice none 0 0:=by
  rcases (hv 0 a _ rfl rfl).data.rY with⟨rfl,_⟩ | ⟨_,_,_,hk,_⟩
  .rfl
  .exact absurd rfl hk
 obtain rfl:b = .int .i64 n:=(hv 1 b _ rfl rfl).scalar;have hL:=Tryz.Yz;have aO:In w X G μ ⟨0,[],none⟩ { tmps:=#[],defers:=[] } ⟨fun _=>none,aq []⟩:=⟨hs,⟨rfl,rfl,fun i x h=>by cases h⟩,dt⟩
 have hH:∀ row,aY (aq []) 900 row=aq [(900,row)]:=fun row=>by
  funext q;by_cases h:q=900
  .subst h;rfl
  .have hq:(q == 900)=false:=by simpa using h
   simp only[aY,if_neg h,aq,List.lookup,hq]
 by_cases h0:n=0
 .subst h0;refine (Any8.slices_Grow_room hL none 0 0 0 w aa aa aa aa).mono fun e w' ⟨he,hw⟩=>?_;subst hw;obtain⟨h1,ev⟩:=aO.alloc (Mv:=jx []) (w':=w') (m:=⟨none,1,0⟩) (d:=900) rfl (cN.refl _) ak (row:=.sl 3 1 []) fun _=>.nil rfl rfl;have h2:=h1.bq;dsimp only at h2;rw[hH]at h2;exact⟨_,_,_,_,he,⟨rfl,rfl⟩,.own (m:=⟨none,1,0⟩) (by simp[dY]) (.inl ⟨rfl,rfl,rfl,rfl⟩),h2,ev⟩
 .obtain⟨i0,hi,lY,AO,Gn⟩:=info_parts (P:=prog) (e:=3) (z:=.int .i64 0) (size:=1) (bytes:=8) ah;refine (Any8.slices_Grow_grow hL i0 (.int .i64 0) hi lY aa none 0 0 n [] w aa aa (by rw[Gn];omega) aa ak (fun _=>rfl) (fun a e=>by cases e)).mono fun e w' ⟨he,hw⟩=>?_
  have we:n<=grownCap w (0+n) 0 3:=by have:=grownCap_ge w (0+n) 0 3;omega
  have hle:grownCap w (0+n) 0 3<=maxLen:=grownCap_le_maxLen w (0+n) 0 3 (by unfold maxLen;omega);have he:e = .returned (.slice (some ⟨w.heap.size,0,none⟩) 0 (grownCap w (0+n) 0 3)):=he;have hw:w'=w.drew.alloc (.cells (([]:List Value).toArray ++ Builtin.zeroCells (Value.int .i64 0).cells (0+n - 0) ++ Builtin.zeroCells (Value.int .i64 0).cells (grownCap w (0+n) 0 3 - (0+n))) 3):=hw;have bd:=agH n (grownCap w (0+n) 0 3) we;generalize grownCap w (0+n) 0 3=C at he hw we hle bd;generalize (([]:List Value).toArray ++ Builtin.zeroCells (Value.int .i64 0).cells (0+n - 0) ++ Builtin.zeroCells (Value.int .i64 0).cells (C - (0+n)))=Z at hw bd;subst hw;have g1:=cN.drew w;have g2:=cN.alloc w.drew (.cells Z 3);have hg:cN w (w.drew.alloc (.cells Z 3)):=⟨ald g1.size g2.size,g2.os.trans g1.os,g2.tape.trans g1.tape,g2.output.trans g1.output,fun b hb=>(g2.same b (akd hb g1.size)).trans (g1.same b hb)⟩;have lU:(w.drew.alloc (.cells Z 3)).heap[w.heap.size]? = some (.cells Z 3 (0,0)):=heap_alloc_new w.drew _
  obtain⟨h1,ev⟩:=aO.alloc (Mv:=jx []) (w':=w.drew.alloc (.cells Z 3)) (m:=⟨some w.heap.size,1,C⟩) (d:=900) rfl hg (by rintro b h;injection h with h;omega) (row:=.sl 3 1 []) fun _=>
   .sl (b:=w.heap.size) rfl rfl lU (by simpa using bd) ak hle ak aa ak
  have h2:=h1.bq;dsimp only at h2;rw[hH]at h2;exact⟨_,_,_,_,he,⟨rfl,rfl⟩,.own (m:=⟨some w.heap.size,1,C⟩) (by simp[dY]) (.inr ⟨_,rfl,ak,ak⟩),h2,ev⟩
def dO (l:List Nat):List (List D):=l.map fun (n:Nat)=>[ab (n:Int)]
theorem zJ (a b:List Nat):dO (a ++ b)=dO a ++ dO b:=by unfold dO;rw[akj]
def lp {α:Type} (a b c:α):Nat->α
 | 0=>a
 | 1=>b
 | _=>c
theorem Xa (G:ay) (a b:List Nat) (ha:a.length<=2^30) (hb:b.length<=2^30):aD prog G 181 [.sl none [[.sl none (dO a)],[.sl none (dO b)]]] (.sl none (dO (a ++ b))):=by
 rw[zJ];have YK:(∀ el∈dO a,el.length=1)=True:=eq_true (by simp[dO]);have Pq:(∀ el∈dO b,el.length=1)=True:=eq_true (by simp[dO]);have Fs:(∀ el∈dO a,∀ c∈el,c.one=true)=True:=eq_true (by simp[dO,ab,D.one]);have Pr:(∀ el∈dO b,∀ c∈el,c.one=true)=True:=eq_true (by simp[dO,ab,D.one])
 have Po:(dO a).length<=2^30:=by simpa[dO]using ha
 have sZ:(dO b).length<=2^30:=by simpa[dO]using hb
 generalize dO a=A at *;generalize dO b=B at *;have fJ:=YB G (A.length+B.length) aa;simp only[ab]at fJ;refine aD.aQ (aC _) func181 rfl rfl (rs:=[.tmp 2]) results181 (by simp[ntmps181]) fun X=>?_;simp only[ntmps181,List.map];have fw:=@alv;refine ae fw [0] [] ?_;refine ae fw [0,3] [] ?_;refine ag fun K1 aF=>ae fw [0,3,9,10,11] [] ?_;refine cG (S:=Nat) (fun n=>n<=2) (fun n=>⟨bp [(0,.d (.sl none [[.sl none A],[.sl none B]])),(3,int (lp 0 (A.length:Int) ((A.length:Int)+B.length) n)),(9,.d (.sl none [[.sl none A],[.sl none B]])),(10,int 2),(11,int n)],aq []⟩) (fun n=>2 - n) 0 ?_ aa ?_
 .refine aM.dk aN (by simp[ab,lp]) (by simp[ab,lp])
 .intro n hn
  rcases (by omega:n=0\/n=1\/n=2)with rfl | rfl | rfl
  .simp only[lp];refine ae fw [0,3,9,10,11,12] [] ?_;refine ag fun K2 aw=>aJ ?_;refine ar (aw _ (ag fun K3 aZ=>bg (ae fw [0,3,5,9,10,11] [] ?_)));refine ae fw [0,3,9,10,11] [] ?_;refine ae fw [0,3,9,10,11,20] [] ?_;refine al (ar (aZ _ ?_));refine cD fw ?_;(try simp only[aV,aX]);refine bh.mk 1 aa aa ?_;refine aM.dk aN (by simp[ab,lp]) (by simp[ab,lp])
  .simp only[lp];refine ae fw [0,3,9,10,11,12] [] ?_;refine ag fun K2 aw=>aJ ?_;refine ar (aw _ (ag fun K3 aZ=>bg (ae fw [0,3,5,9,10,11] [] ?_)));refine ae fw [0,3,9,10,11] [] ?_;refine ae fw [0,3,9,10,11,20] [] ?_;refine al (ar (aZ _ ?_));refine cD fw ?_;(try simp only[aV,aX]);refine bh.mk 2 aa aa ?_;refine aM.dk aN (by simp[ab,lp]) (by simp[ab,lp])
  .simp only[lp];refine ae fw [0,3,9,10,11,12] [] ?_;refine ag fun K2 aw=>al ?_;refine b5 (aF _ (bG fw fJ [0,6] [900] ?_));refine ag fun K4 cr=>?_;refine ae fw [6,25,26,27] [900] ?_;refine cG (S:=Nat) (fun n=>n<=2) (fun n=>⟨bp [(6,.own 900 0 (lp 0 A.length (A.length+B.length) n)),(25,.d (.sl none [[.sl none A],[.sl none B]])),(26,int 2),(27,int n)],aq [(900,.sl 3 1 (lp [] A (A ++ B) n))]⟩) (fun n=>2 - n) 0 ?_ aa ?_
   .refine aM.dk aN (by simp[ab,lp]) (by simp[ab,lp])
   .intro n hn
    rcases (by omega:n=0\/n=1\/n=2)with rfl | rfl | rfl
    .simp only[lp];refine ae fw [6,25,26,27,28] [900] ?_;refine ag fun K5 cg=>aJ ?_;refine ar (cg _ (ag fun K6 eB=>bg (ae fw [6,8,25,26,27] [900] ?_)));have qf:=(Aq fw (Aq @YK @Fs));refine e6 eB [6,25,26,27] [900] ?_;refine cD fw ?_;(try simp only[aV,aX]);refine bh.mk 1 aa aa ?_;refine aM.dk aN (by simp[ab,lp]) (by simp[ab,lp])
    .simp only[lp];refine ae fw [6,25,26,27,28] [900] ?_;refine ag fun K5 cg=>aJ ?_;refine ar (cg _ (ag fun K6 eB=>bg (ae fw [6,8,25,26,27] [900] ?_)));refine fH (aC _) fun K' ao=>?_;(repeat refine aK fun Kq af=>?_;simp[ab,Pq,Pr,sh];(repeat refine⟨aa,?_⟩);refine af _ ?_);refine bJ (ao _ ?_);refine eB _ (AW.norm [6,25,26,27] [900] aN (AW.st (by simp[ab,Pq,Pr,sh];rfl) ?_));refine cD fw ?_;(try simp only[aV,aX]);refine bh.mk 2 aa aa ?_;refine aM.dk aN (by simp[ab,lp]) (by simp[ab,lp])
    .simp only[lp];refine ae fw [6,25,26,27,28] [900] ?_;refine ag fun K5 cg=>al ?_;refine b5 (cr _ (AW.imp (aM.freeze 900 trivial) ?_));refine AW.st (by simp[ab];rfl) ?_;refine ae fw [2] [] ?_;exact aU fw
end Go.Proofs.YtoohljflflnbeaaGreatDoor
namespace Go.Proofs.YtoohljflflnbeaaGreatDoor
open Go.Av
theorem Vl {P:Program} {Mv X:Nat->Prop} {G:ay} {n s:Nat} {x y:Code} {Q:Exit->St->Prop} {σ:St} (h:∀ K:St->Prop,(∀ aG,gh P Mv X G n s y Q aG->K aG)->∀ X' ds,AW P Mv X' G ⟨n,ds,none⟩ x (aV K Q) σ):gh P Mv X G n s (.seq x y) Q σ:=
 En (Em (h _ fun _ h=>h))
theorem Vm {P:Program} {Mv X:Nat->Prop} {G:ay} {n s:Nat} {x y:Code} {Q:Exit->St->Prop} {σ:St} (h:∀ K:St->Prop,(∀ aG,gh P Mv X G n s y Q aG->K aG)->gh P Mv X G n s x (aV K Q) σ):gh P Mv X G n s (.seq x y) Q σ:=
 En (h _ fun _ h=>h)
theorem agh {P:Program} {Mv X:Nat->Prop} {G:ay} {N:Fr} {x y:Code} {Q:Exit->St->Prop} {σ:St} (h:∀ K:St->Prop,(∀ aG,AW P Mv X G N y Q aG->K aG)->AW P Mv X G N x (aV K (fun _ _=>False)) σ):AW P Mv X G N x (aV (AW P Mv X G N y Q) (fun _ _=>False)) σ:=
 h _ fun _ h=>h
section
variable {P:Program} {X:Nat->Prop} {G:ay} {n s:Nat} {σ τ iU:St} {p:Prop}
theorem gh.norm (l ns:List Nat) {c:Code} {Q:Exit->St->Prop} (h:gh P (fun _=>True) X G n s c Q (σ.norm l ns)):gh P (fun _=>True) X G n s c Q σ:=gh.imp (fun X' ds=>aM.norm l ns fun _ _=>trivial) h
theorem gh.st {c:Code} {Q:Exit->St->Prop} (h:σ=τ) (h':gh P (fun _=>True) X G n s c Q τ):gh P (fun _=>True) X G n s c Q σ:=h ▸ h'
theorem Hv (q:p) (l ns:List Nat) {id:Nat} {ops:Array Oper} {y:Code} {Q:Exit->St->Prop} (k:gh P (fun _=>True) X G n s y Q iU)
  (h:p->∀ (X':Nat->Prop) (ds:List Deferred) (K':St->Prop),K' τ->kM P (cJ P) (fun _=>True) X' G ⟨n,ds,none⟩ ops K' ops.toList σ:=by
   intro q X' ds K' ao;repeat (refine aK fun Kq af=>?_;simp[q];(repeat refine⟨aa,?_⟩);refine af _ ?_)
   exact bJ ao)
  (hn:p->τ.norm l ns=iU:=by intro q;simp[q];rfl):gh P (fun _=>True) X G n s (.seq (.region id ops false) y) Q σ:=
 En (Em fun X' ds=>fH (aC _) fun K hK=>h q X' ds K (hK _ (gh.norm l ns (hn q ▸ k))))
theorem agy (q:p) {fx:List Nat} {g:FuncId} {xs:List AV} {b6 gd:List (Nat×Row)} {yv:AV} (hc:MC P G fx g xs (aq b6) yv (aq gd)) (l ns:List Nat) {id:Nat} {ops:Array Oper} {y:Code} {Q:Exit->St->Prop} (k:gh P (fun _=>True) X G n s y Q iU)
  (h:p->MC P G fx g xs (aq b6) yv (aq gd)->∀ (X':Nat->Prop) (ds:List Deferred) (K':St->Prop),K' τ->kM P (cJ P) (fun _=>True) X' G ⟨n,ds,none⟩ ops K' ops.toList σ:=by
   intro q hc X' ds K' ao;(repeat refine aK fun Kq af=>?_;simp[q];(repeat refine⟨aa,?_⟩);refine af _ ?_);refine aK fun Kq af=>?_;simp[q];refine cX.mc hc (by simp[q]) (by simp[q]) (by simp[q]) (by simp[q]) ?_;simp[q];refine af _ ?_;repeat (refine aK fun Kq af=>?_;simp[q];(repeat refine⟨aa,?_⟩);refine af _ ?_)
   exact bJ ao)
  (hn:p->τ.norm l ns=iU:=by intro q;simp[q];rfl):gh P (fun _=>True) X G n s (.seq (.region id ops false) y) Q σ:=
 En (Em fun X' ds=>fH (aC _) fun K hK=>h q hc X' ds K (hK _ (gh.norm l ns (hn q ▸ k))))
end
def tJ:D:=.sl (some false) []
def wX (NN RR NA RA:List (List D)) (pl:Int):Heap:=aq [(2,.box 28 [.d tJ,.d tJ]),(3,.box 30 [.d (.v .nilIface)]),(4,.box 28 [.own 801 0 NN.length,.own 802 0 RR.length]),(5,.box 41 [.own 803 0 NA.length]),(6,.box 41 [.own 804 0 RA.length]),(7,.box 3 [int pl]),(801,.sl 78 3 NN),(802,.sl 153 3 RR),(803,.sl 3 1 NA),(804,.sl 3 1 RA)]
theorem Xs (c:Option Ex):(dC c).one=true:=by
 cases c with
 | none=>rfl
 | some e=>obtain⟨a,b,h⟩:=kW e;rw[dC,h];rfl
theorem Pb (l:List Nat) (i:Nat) (h:i < l.length):(dO l)[i]? = some [ab ((l.getD i 0:Nat):Int)]:=by
 rw[OF];unfold dO;simp[h]
theorem Ow {p:aS} {c:Int} {i:Nat} (h:c8 p=some (c,some i)):i < p.names.length+p.ax.length:=by
 unfold c8 at h;split at h
 .cases h
 .split at h
  .rename_i e k hf;have:=B9 hf;simp only[IS,ajH]at h;omega
  .split at h
   .rename_i e k hf;have:=B9 hf;simp only[IS,ajH]at h;omega
   .cases h
theorem Uc {k:Int} {nm hd rest:Tx} {c:Int} {off:Nat} (h:ng k nm hd rest = .bad c off):off<=hd.length+1+rest.length:=by
 unfold ng at h;split at h
 .rename_i c' o hp;simp only[r6.bad.injEq]at h
  cases o with
  | none=>simp at h;omega
  | some o=>
   have:=DO hp;simp at h;omega
 .cases h
theorem acj {s:Tx} {c:Int} {off:Nat} (h:iw s = .bad c off):off<=2 * s.length+1:=by
 have hle:=ES 61 s
 have nb:∀ l,lB l≠.bad c off:=fun l=>by
  match l with
  | []=>simp[lB]
  | [a]=>simp[lB,ic]
  | [a,b]=>simp only[lB,ic];split<;>simp
  | [a,b,c]=>simp only[lB,ic];split<;>(try split)<;>simp
  | a :: b :: c :: d :: l=>simp[lB,ic]
 unfold iw at h;split at h
 .have h2:off<=(cutAt 61 s).1.length+1+(cutAt 61 s).2.length:=by
   match hw:iT (cutAt 61 s).1,h with
   | [a],h=>exact Uc h
   | [a,b],h=>
    simp only[qV]at h;split at h
    .cases h
    .exact Uc h
  omega
 .exact absurd h (nb _)
theorem tF:(⟨#[]⟩:ByteArray)=bs []:=rfl
theorem tG:(⟨#[32]⟩:ByteArray)=bs [32]:=rfl
theorem al0:type_of% (Aq @gu.eq_1 (Aq @gX.eq_1 (Aq @alL (Aq @fg.eq_1 (Aq @alF (Aq @alG @alH)))))):=(Aq @gu.eq_1 (Aq @gX.eq_1 (Aq @alL (Aq @fg.eq_1 (Aq @alF (Aq @alG @alH))))))
theorem acp (G:ay) (hM:k9 G) (hP:sL G) (hG:ra G) {es er:Value} (hE:uc G es er) (t:Tx):aD prog G 105 [dS t] (.bz [gu (jT t).2,bD (jT t).1]):=by
 refine aD.ac9 (aC _) func105 rfl rfl (rs:=[.cell 2 28,.cell 3 30]) results105 (by simp[ntmps105]) fun X s0=>?_;simp only[ntmps105,List.map];have fw:=al5;refine Hv fw [0,2,3] [2,3] ?_;refine Vl fun K1 aF X' ds=>?_;by_cases ht:20000 < t.length
 .have qK:(t.length:Int) > 20000:=aa
  have hp:jT t=(some (4,none),⟨[],[]⟩):=by unfold jT;rw[if_pos ht]
  have qf:=(Aq fw (Aq @bN @qK));refine au [0,2,3,19] [2,3] ?_;refine b8 (by simp[qK]) (ae fw [2,3] [2,3] ?_);exact aU (Aq fw (Aq @hp al0))
 have qK:¬ (t.length:Int) > 20000:=aa
 have QT:=agS G t;have qf:=(Aq fw (Aq @bN @qK));refine au [0,2,3,19] [2,3] ?_;refine b9 (by simp[qK]) (ar (aF _ ?_));refine Hv fw [0,2,3,4] [2,3,4] ?_;refine Hv fw [0,2,3,4,5,6] [2,3,4,5,6] ?_;refine Hv fw [0,2,3,4,5,6,7] [2,3,4,5,6,7] ?_;refine Vm fun K5 cg=>?_;refine gh.imp (fun X' ds=>aM.r8 4 0 801 78 3 rfl rfl rfl) ?_;refine gh.st bB ?_;refine gh.imp (fun X' ds=>aM.r8 4 1 802 153 3 rfl rfl rfl) ?_;refine gh.st bB ?_;refine gh.imp (fun X' ds=>aM.r8 5 0 803 3 1 rfl rfl rfl) ?_;refine gh.st bB ?_;refine gh.imp (fun X' ds=>aM.r8 6 0 804 3 1 rfl rfl rfl) ?_;refine gh.st bB ?_;simp only[y9,D0,dS,ab]at QT;refine agy (Aq @Sa fw) QT [2,3,4,5,6,7,23] [2,3,4,5,6,7,511,512,513,801,802,803,804] ?_;refine Vj ?_;obtain⟨l,hl⟩:∃ l,l=eW 10 t:=⟨_,rfl⟩;have Kp:=ET 10 t;rw[<- hl]at Kp
 obtain⟨inv,aah⟩:∃ f:Nat->Heap,f=fun k=>match gG l k with
  | .inl _=>jj
  | .inr s=>wX (s.names.map bw) (s.ax.map cU) (dO s.jR) (dO s.jV) (jU l k):=⟨_,rfl⟩
 have hinv:∀ k s,gG l k = .inr s->inv k=wX (s.names.map bw) (s.ax.map cU) (dO s.jR) (dO s.jV) (jU l k):=fun k s h=>by rw[aah];dsimp only;rw[h]
 refine Vk (l.map fun s=>.string (bs s)) [511,512,513] [2,3,4,5,6,7] (bp [(2,.ref 2 0 0),(3,.ref 3 0 0),(4,.ref 4 0 0),(5,.ref 5 0 0),(6,.ref 6 0 0),(7,.ref 7 0 0)]) inv (fun k=>∃ s,gG l k = .inr s) ⟨p6,rfl⟩ (gf:=284) (caps:=[.ref 512 0 0,.ref 511 0 0,.ref 513 0 0]) ak (iA.of func284 rfl rfl) bF ?hIt ?he1 ?hH aN ?hfx ?round ?done
 case hIt=>
  intro w X μ lb hs dt bd wu;rw[hl];refine agC G hM t aa w X μ lb ?_ dt bd ?_
  .simpa[y9,dS,ab]using hs
  .intro i u x hu hx;have h:=wu i u x hu hx
   match i,hx with
   | 0,hx=>obtain rfl:=AI hx;exact h
   | 1,hx=>obtain rfl:=AI hx;exact h
   | 2,hx=>obtain rfl:=AI hx;exact h
 case he1=>
  intro i x hx;have h:=LN hx;simp only[ajX,List.not_mem_nil,or_false,ajH]at h
  rcases h with⟨rfl,rfl⟩ | ⟨rfl,rfl⟩ | ⟨rfl,rfl⟩ | ⟨rfl,rfl⟩ | ⟨rfl,rfl⟩ | ⟨rfl,rfl⟩<;>exact⟨rfl,_,rfl,rfl⟩
 case hH=>
  rw[hinv 0 p6 rfl];simp[wX,p6,dO,adL,tJ]
  try rfl
 case hfx=>
  intro q h;simp at h ⊢;omega
 case done=>
  rintro⟨s,hs⟩;rw[aki]at hs ⊢;have fE:=Mq (s:=s) aa (hl ▸ hs);have bX:=DV (t:=t) aa (ajJ _) (hl ▸ hs);have AG:=Td bX (by rw[<- hl];omega);have kf:=RE G ⟨s.names,s.ax⟩ AG;rw[hinv _ _ hs];refine cg _ (Em fun X' ds=>?_);obtain⟨fD,fq,iF,_,_⟩:=bX;rw[<- hl]at iF
  have KK:∀ c i,c8 ⟨s.names,s.ax⟩=some (c,some i)->i < (s.jR ++ s.jV).length:=fun c i h=>by have:=Ow h;simp at this ⊢;omega
  unfold wX;refine AW.imp (aM.freeze 801 trivial) ?_;refine AW.st (by simp[ab,dS];rfl) ?_;refine AW.imp (aM.freeze 802 trivial) ?_;refine AW.st (by simp[ab,dS];rfl) ?_;refine AW.imp (aM.freeze 803 trivial) ?_;refine AW.st (by simp[ab,dS];rfl) ?_;refine AW.imp (aM.freeze 804 trivial) ?_;refine AW.st (by simp[ab,dS];rfl) ?_;have cK:=Xa G s.jR s.jV aa aa;have mN:=fun i h=>Pb (s.jR ++ s.jV) i h;simp only[gu,gX,cE,fg]at kf;generalize v8:s.names.map bw=NN at kf ⊢;generalize uK:s.ax.map cU=RR at kf ⊢;generalize dO s.jR=NA at cK ⊢;generalize dO s.jV=RA at cK ⊢;generalize dO (s.jR ++ s.jV)=CC at cK mN
  cases bn:c8 ⟨s.names,s.ax⟩ with
  | none=>
   rw[bn]at kf fE;simp only[bD]at kf;refine br fw kf [2,3,4,5,6,14] [2,3,4,5,6,7] ?_;refine ag fun K7 eO=>ae (Aq fw alV) [2,3,4,5,6,14,15,16] [2,3,4,5,6,7] ?_;refine ae fw [2,3,4,5,6,14,15,108] [2,3,4,5,6,7] ?_;refine al (ar (eO _ ?_));refine ag fun K8 eX=>ae fw [2,3,4,14,127] [2,3,4,5,6,7] ?_;refine al (ar (eX _ ?_));refine ae fw [2,3] [2,3,4,5,6,7] ?_;exact aU (Aq fw (Aq @fE (Aq @gu.eq_1 (Aq @gX.eq_1 (Aq @alL (Aq @fg.eq_1 (Aq @alF (Aq @alG (Aq @alH (Aq @v8 @uK))))))))))
  | some ci=>
   obtain⟨c,i⟩:=ci;rw[bn]at kf fE
   cases i with
   | none=>
    simp only[bD]at kf;refine br fw kf [2,3,4,5,6,14] [2,3,4,5,6,7] ?_;refine ag fun K7 eO=>ae (Aq fw alV) [2,3,4,5,6,14,15,16] [2,3,4,5,6,7] ?_;refine ae fw [2,3,4,5,6,14,15,108] [2,3,4,5,6,7] ?_;refine al (ar (eO _ ?_));refine ag fun K8 eX=>ae fw [2,3,4,14,127] [2,3,4,5,6,7] ?_;refine aJ (ae fw [2,3] [2,3,4,5,6,7] ?_);exact aU (Aq fw (Aq @fE al0))
   | some i=>
    have hi:=KK c i bn;have x7:=mN i hi;dsimp only at fE;obtain⟨dM,om⟩:=BY.1 x7;simp only[bD]at kf;simp only[ab]at om;clear x7;generalize (s.jR ++ s.jV).getD i 0=pl at om fE;refine br fw kf [2,3,4,5,6,14] [2,3,4,5,6,7] ?_;refine ag fun K7 eO=>ae (Aq fw alV) [2,3,4,5,6,14,15,16] [2,3,4,5,6,7] ?_;refine ae fw [2,3,4,5,6,14,15,108] [2,3,4,5,6,7] ?_;refine aJ (Vp (aC _) ah ([6,15]) (List.range 18) ah fun K' ao=>?_);(repeat refine vt rfl fun K2 aw=>?_;simp[ab,dS,dM,om];(repeat refine⟨aa,?_⟩);refine aw _ ?_;clear aw K2);refine vt rfl fun K2 aw=>?_;simp[ab,dS,dM,om];refine sb.mk (cK) bB bB (by first | exact D.bR _ | simp[aR,ajN,ajG,D.le,D.le.go,D.le_refl,D.bR,ab,dS,dM,om]) ak ?_;refine aw _ ?_;clear aw K2;simp only[aL,dL];(repeat refine vt rfl fun K2 aw=>?_;simp[ab,dS,dM,om];(repeat refine⟨aa,?_⟩);refine aw _ ?_;clear aw K2);refine zg (ao _ ?_);refine eO _ (AW.norm [2,3,4,14] [2,3,4,5,6,7] aN (AW.st (by simp[ab,dS,dM,om];rfl) ?_));refine ag fun K8 eX=>ae fw [2,3,4,14,127] [2,3,4,5,6,7] ?_;refine aJ (ae fw [2,3] [2,3,4,5,6,7] ?_);exact aU (Aq fw (Aq @fE al0))
 case round=>
  rintro X' L k hk ⟨s,hs⟩
  have gy:k < l.length:=by simpa using hk
  obtain⟨ln,pN⟩:∃ ln,ln=l[k]:=⟨_,rfl⟩;rw[hinv k s hs,show (l.map fun s=>Value.string (bs s))[k] = .string (bs ln) by simp[pN]]
  have hpb:jU l k+ln.length<=t.length:=by rw[pN];subst hl;exact Mx gy
  have eY:(jU l (k+1):Int)=(jU l k:Int)+((ln.length:Int)+1):=by rw[My gy,<- pN];omega
  have bX:=DV (t:=t) aa (Nat.le_of_lt (hl ▸ gy)) (hl ▸ hs);have ga:∀ s',lJ s (jU l k) ln = .inr s'->gG l (k+1) = .inr s':=fun s' h=>S9 gy hs (pN ▸ h);have ld:∀ c i,lJ s (jU l k) ln = .inl (c,i)->jT t=(some (c,some i),⟨[],[]⟩):=fun c i h=>Mp aa (hl ▸ S8 gy hs (pN ▸ h));obtain⟨fD,fq,iF,_,_⟩:=bX;have ia:=ahC G ln aa;have QZ:=ahF ln;have aau:=fun h=>ack G hM hP hG hE ln aa h;generalize wA:jU l k=pk at *
  have Y8:(s.names.map bw).length=s.names.length:=ak
  have Zk:(s.ax.map cU).length=s.ax.length:=ak
  have Y9:(dO s.jR).length=s.names.length:=by simp[dO,fD]
  have xQ:(dO s.jV).length=s.ax.length:=by simp[dO,fq]
  generalize v8:s.names.map bw=NN at *;generalize uK:s.ax.map cU=RR at *;generalize z6:dO s.jR=NA at *;generalize Aa:dO s.jV=RA at *;unfold wX;refine AW.st bB ?_;refine agh fun K7 eO=>?_;refine gR fw eO [2,3,4,5,6,7,8] [2,3,4,5,6,7,801,802,803,804] ?_;refine bg (ag fun K8 eX=>?_);simp only[dS]at ia;by_cases h0:iT ln=[]
  .have hz:=QZ.2 h0;rw[hz]at ia
   have eL:lJ s pk ln = .inr s:=by unfold lJ;rw[if_pos h0]
   have hn:=ga _ eL;refine rg [2,3,4,5,6,7,8,27] [2,3,4,5,6,7,801,802,803,804] (ew rfl) fun K' ao=>?_;(repeat refine aK fun Kq af=>?_;simp[ab,dS,tF,tG,bo,bu];(repeat refine⟨aa,?_⟩);refine af _ ?_);refine aK fun Kq af=>?_;simp[ab,dS,tF,tG,bo,bu];refine cX.data (ia) bB (by first | exact D.bR _ | simp[aR,ajN,ajG,D.le,D.le.go,D.le_refl,D.bR,ab,dS,tF,tG,bo,bu]) ?_;refine af _ ?_;simp only[aL,dL];(repeat refine aK fun Kq af=>?_;simp[ab,dS,tF,tG,bo,bu];(repeat refine⟨aa,?_⟩);refine af _ ?_);refine bJ (ao _ (AW.st (by simp[ab,dS,tF,tG,bo,bu];rfl) ?_));refine al (ar (eX _ ?_));have qf:=(Aq fw @bN);refine Bl ?_;(try simp only[aV,aX]);refine And.intro ⟨s,hn⟩ ?_;rw[hinv _ _ hn,eY,v8,uK,z6,Aa];unfold wX;refine (show aM _ _ _ _ _ ⟨bp [],aq _⟩ from ?_);refine bt (Aq fw @eY)
  have hz:Lib.trimB ln 32≠[]:=fun h=>h0 (QZ.1 h)
  have gC:lJ s pk ln=match iw ln with
   | .form=>.inl (3,pk)
   | .bad c off=>.inl (c,pk+off)
   | .name n=>if s.ax=[] then .inr ⟨s.names ++ [n],s.jR ++ [pk],s.ax,s.jV⟩ else .inl (3,pk)
   | .p9 r=>.inr ⟨s.names,s.jR,s.ax ++ [r],s.jV ++ [pk]⟩:=by unfold lJ;rw[if_neg h0];cases iw ln<;>rfl
  have mg:=aau h0;simp only[dS]at mg;generalize Lib.trimB ln 32=tz at ia hz;refine rg [2,3,4,5,6,7,8,27] [2,3,4,5,6,7,801,802,803,804] (ew rfl) fun K' ao=>?_;(repeat refine aK fun Kq af=>?_;simp[ab,dS,tF,tG,bo,bu,hz];(repeat refine⟨aa,?_⟩);refine af _ ?_);refine aK fun Kq af=>?_;simp[ab,dS,tF,tG,bo,bu,hz];refine cX.data (ia) bB (by first | exact D.bR _ | simp[aR,ajN,ajG,D.le,D.le.go,D.le_refl,D.bR,ab,dS,tF,tG,bo,bu,hz]) ?_;refine af _ ?_;simp only[aL,dL];(repeat refine aK fun Kq af=>?_;simp[ab,dS,tF,tG,bo,bu,hz];(repeat refine⟨aa,?_⟩);refine af _ ?_);refine bJ (ao _ (AW.st (by simp[ab,dS,tF,tG,bo,bu,hz];rfl) ?_));refine b8 (by simp[hz]) ?_;have sq:=fun c off=>acj (s:=ln) (c:=c) (off:=off)
  cases CO:iw ln with
  | form=>
   rw[CO]at mg gC;dsimp only at gC;simp only[cZ]at mg;have hp:=ld _ _ gC;refine br fw mg [2,3,4,5,6,7,8,9,10,11] [2,3,4,5,6,7,801,802,803,804] ?_;refine ag fun K9 j2=>ae (Aq fw alV) [2,3,4,5,6,7,8,9,10,11,12,13] [2,3,4,5,6,7,801,802,803,804] ?_;refine ae fw [2,3,4,5,6,7,8,9,10,11,12,39] [2,3,4,5,6,7,801,802,803,804] ?_;refine al (ar (j2 _ ?_));refine bg (ag fun nS eJ=>?_);refine ae fw [2,3,4,5,6,7,8,9,10,66] [2,3,4,5,6,7,801,802,803,804] ?_;refine aJ (ar (eJ _ ?_));refine aJ (HY (aC _) ah ([3]) ([(1,7),(5,2),(6,3)]) (List.range 7) [2,3] [2,3,4,5,6,7,801,802,803,804] (ew rfl) ah fun K' ao=>?_);(repeat refine Na rfl fun K2 aw=>?_;simp[ab,dS];(repeat refine⟨aa,?_⟩);refine aw _ ?_;clear aw K2);refine Nb (ao _ ?_);refine AW.st (by simp[ab,dS];rfl) ?_;refine bT (Exists.intro _ (And.intro (aM.env (by intro i x h;cases h)) ?_));simp[D.le,D.le.go,aR,hp,gu,gX,cE,fg,bD,tJ,ab]
  | bad c off=>
   rw[CO]at mg gC;dsimp only at gC;simp only[cZ]at mg;have hp:=ld _ _ gC;have ho:=sq c off CO
   have cO:((pk+off:Nat):Int)=(pk:Int)+(off:Int):=aa
   refine br fw mg [2,3,4,5,6,7,8,9,10,11] [2,3,4,5,6,7,801,802,803,804] ?_;refine ag fun K9 j2=>ae (Aq fw alV) [2,3,4,5,6,7,8,9,10,11,12,13] [2,3,4,5,6,7,801,802,803,804] ?_;refine ae fw [2,3,4,5,6,7,8,9,10,11,12,39] [2,3,4,5,6,7,801,802,803,804] ?_;refine aJ (HY (aC _) ah ([12]) ([(4,999),(5,7),(9,999),(14,2),(15,3)]) (List.range 16) [2,3] [2,3,4,5,6,7,801,802,803,804] (ew rfl) ah fun K' ao=>?_);(repeat refine Na rfl fun K2 aw=>?_;simp[ab,dS];(repeat refine⟨aa,?_⟩);refine aw _ ?_;clear aw K2);refine Nb (ao _ ?_);refine AW.st (by simp[ab,dS];rfl) ?_;refine bT (Exists.intro _ (And.intro (aM.env (by intro i x h;cases h)) ?_));simp[D.le,D.le.go,aR,hp,gu,gX,cE,fg,bD,tJ,ab,cO]
  | name n=>
   rw[CO]at mg gC;dsimp only at gC;simp only[cZ]at mg;have jh:bw n=[.v (.string (bs n.name)),.v (.int .i64 n.kind),.v (.int .i64 n.count)]:=rfl
   have PE:(s.names ++ [n]).map bw=NN ++ [bw n]:=by rw[akj,v8];rfl
   have zV:dO (s.jR ++ [pk])=NA ++ [[.v (.int .i64 pk)]]:=by rw[<- z6];unfold dO;rw[akj];rfl
   generalize bs n.name=nm at jh;generalize n.kind=kd at jh;generalize n.count=ct at jh;rw[jh]at mg PE;refine br fw mg [2,3,4,5,6,7,8,9,10,11] [2,3,4,5,6,7,801,802,803,804] ?_;refine ag fun K9 j2=>ae (Aq fw alV) [2,3,4,5,6,7,8,9,10,11,12,13] [2,3,4,5,6,7,801,802,803,804] ?_;refine ae fw [2,3,4,5,6,7,8,9,10,11,12,39] [2,3,4,5,6,7,801,802,803,804] ?_;refine al (ar (j2 _ ?_));refine bg (ag fun nS eJ=>?_);refine ae fw [2,3,4,5,6,7,8,9,10,66] [2,3,4,5,6,7,801,802,803,804] ?_;refine al ?_;by_cases nG:s.ax=[]
   .rw[if_pos nG]at gC;have hn:=ga _ gC;have pW:RA=[]:=ak4.1 (by rw[xQ,nG];rfl);subst pW;refine gR fw eJ [2,3,4,5,6,7,8,9,10,66] [2,3,4,5,6,7,801,802,803,804] ?_;refine al (ae fw [2,3,4,5,6,7,8,9,10,81] [2,3,4,5,6,7,801,802,803,804] ?_);refine al (Eo (aC _) ah ([(6,(801,59)),(10,(803,63))]) ([(7,[801]),(8,[801]),(9,[801]),(11,[803])]) ([0,1,2,3,4,7,8,5,9,6,11,10,12,13]) ah fun K' ao=>?_);(repeat refine zh rfl fun K2 aw=>?_;simp[ab,dS,sh];(repeat refine⟨aa,?_⟩);refine aw _ ?_;clear aw K2);refine zi (ao _ ?_);refine eX _ (AW.norm [2,3,4,5,6,7,8] [2,3,4,5,6,7,801,802,803,804] (ew rfl) (AW.st (by simp[ab,dS,sh];rfl) ?_));have qf:=(Aq fw @bN);refine Bl ?_;(try simp only[aV,aX]);refine And.intro ⟨_,hn⟩ ?_;rw[hinv _ _ hn,eY];dsimp only;rw[PE,zV,uK,Aa];unfold wX;refine (show aM _ _ _ _ _ ⟨bp [],aq _⟩ from ?_);refine bt (Aq fw @eY)
   .rw[if_neg nG]at gC;have hp:=ld _ _ gC
    have pW:0 < RA.length:=by rw[xQ];exact aky.2 nG
    have qf:=(Aq fw @pW);refine e6 eJ [2,3,4,5,6,7,8,9,10,66] [2,3,4,5,6,7,801,802,803,804] ?_;refine b8 (by simp[pW]) (HY (aC _) ah ([3]) ([(1,7),(5,2),(6,3)]) (List.range 7) [2,3] [2,3,4,5,6,7,801,802,803,804] (ew rfl) ah fun K' ao=>?_);(repeat refine Na rfl fun K2 aw=>?_;simp[ab,dS];(repeat refine⟨aa,?_⟩);refine aw _ ?_;clear aw K2);refine Nb (ao _ ?_);refine AW.st (by simp[ab,dS];rfl) ?_;refine bT (Exists.intro _ (And.intro (aM.env (by intro i x h;cases h)) ?_));simp[D.le,D.le.go,aR,hp,gu,gX,cE,fg,bD,tJ,ab]
  | p9 r=>
   rw[CO]at mg gC;dsimp only at gC;simp only[cZ]at mg;have hn:=ga _ gC;have KE:=Xs r.cond;have jo:cU r=[.v (.int .i64 r.kind),.v (.string (bs r.name)),dC r.cond]:=rfl
   have FF:(s.ax ++ [r]).map cU=RR ++ [cU r]:=by rw[akj,uK];rfl
   have zV:dO (s.jV ++ [pk])=RA ++ [[.v (.int .i64 pk)]]:=by rw[<- Aa];unfold dO;rw[akj];rfl
   generalize bs r.name=nm at jo;generalize r.kind=kd at jo;generalize dC r.cond=dc at jo KE;rw[jo]at mg FF;refine br fw mg [2,3,4,5,6,7,8,9,10,11] [2,3,4,5,6,7,801,802,803,804] ?_;refine ag fun K9 j2=>ae (Aq fw alV) [2,3,4,5,6,7,8,9,10,11,12,13] [2,3,4,5,6,7,801,802,803,804] ?_;refine ae fw [2,3,4,5,6,7,8,9,10,11,12,39] [2,3,4,5,6,7,801,802,803,804] ?_;refine al (ar (j2 _ ?_));refine bg (ag fun nS eJ=>?_);refine ae fw [2,3,4,5,6,7,8,9,10,66] [2,3,4,5,6,7,801,802,803,804] ?_;refine al (gR fw eJ [2,3,4,5,6,7,8,9,10,66] [2,3,4,5,6,7,801,802,803,804] ?_);refine al (ae fw [2,3,4,5,6,7,8,9,10,81] [2,3,4,5,6,7,801,802,803,804] ?_);refine aJ (Eo (aC _) ah ([(6,(802,89)),(10,(804,93))]) ([(7,[802]),(8,[802]),(9,[802]),(11,[804])]) ([0,1,2,3,4,7,8,5,9,6,11,10,12,13]) ah fun K' ao=>?_);(repeat refine zh rfl fun K2 aw=>?_;simp[ab,dS,sh,KE];(repeat refine⟨aa,?_⟩);refine aw _ ?_;clear aw K2);refine zi (ao _ ?_);refine eX _ (AW.norm [2,3,4,5,6,7,8] [2,3,4,5,6,7,801,802,803,804] (ew rfl) (AW.st (by simp[ab,dS,sh,KE];rfl) ?_));have qf:=(Aq fw @bN);refine Bl ?_;(try simp only[aV,aX]);refine And.intro ⟨_,hn⟩ ?_;rw[hinv _ _ hn,eY];dsimp only;rw[FF,zV,v8,z6];unfold wX;refine (show aM _ _ _ _ _ ⟨bp [],aq _⟩ from ?_);refine bt (Aq fw @eY)
end Go.Proofs.YtoohljflflnbeaaGreatDoor
namespace Go.Proofs.YtoohljflflnbeaaGreatDoor
open Go.Av
def ace (S P:Int) (n:Nat):Prop:=S < 1\/3 < S\/P < 0\/2 < P\/n < 1\/3 < n
instance (S P:Int) (n:Nat):Decidable (ace S P n):=inferInstanceAs (Decidable (_\/_))
theorem LH (G:ay) (k0:Option Bool) (t:List (List UInt8)) (s:List UInt8) (hs:s≠[]) (ht:t.length < 2^60):aD prog G 175 [.sl k0 (t.map fun x=>[dS x]),dS s] (ab (idx (fun x=>x == s) t)):=by
 have eH:s.isEmpty=false:=by rw[akY];exact hs
 refine aD.aQ (aC _) func175 rfl rfl (rs:=[.tmp 4]) results175 (by simp[ntmps175]) fun X=>?_;simp only[ntmps175,List.map];have fw:=@alv;refine ae fw [0,1] [] ?_;refine ag fun K1 aF=>ae fw [1,7,8,9] [] ?_;refine cG (S:=Nat) (fun n=>n<=t.length/\∀ i (hi:i < t.length),i < n->(t[i] == s)=false) (fun n=>⟨bp [(1,.d (dS s)),(7,.d (.sl k0 (t.map fun x=>[dS x]))),(8,int t.length),(9,int n)],aq []⟩) (fun n=>t.length - n) 0 ?_ ak ?_
 .refine bt fw
 .rintro n ⟨hn,hp⟩;refine ae fw [1,7,8,9,10] [] ?_;refine ag fun K2 aw=>fG (b:=n < t.length) (by simp[D.le,D.le.go,aR,ab]) (fun hc=>?_) (fun hc=>?_)
  .have rF:n < t.length:=hc;refine ar (aw _ (ag fun K3 aZ=>bg ?_));have qf:=(Aq fw @rF);refine au [1,5,6,7,8,9] [] ?_
   cases he:(t[n] == s) with
   | true=>
    have lR:t[n]=s:=by simpa using he
    refine rg [1,5,7,8,9,20] [] aN fun K' ao=>?_;(repeat refine aK fun Kq af=>?_;simp[ab,dS,lR,bo,b7,bu,hs,eH];(repeat refine⟨aa,?_⟩);refine af _ ?_);refine bJ (ao _ (AW.st (by simp[ab,dS,lR,bo,b7,bu,hs,eH];rfl) ?_));refine aJ (ae fw [4] [] ?_);refine bT ?_;simp[D.le,D.le.go,aR,ab];exact (ve rF he fun i hi=>hp i aa hi).symm
   | false=>
    have lR:¬ t[n]=s:=by simpa using he
    refine rg [1,5,7,8,9,20] [] aN fun K' ao=>?_;(repeat refine aK fun Kq af=>?_;simp[ab,dS,he,lR,bo,b7,bu];(repeat refine⟨aa,?_⟩);refine af _ ?_);refine bJ (ao _ (AW.st (by simp[ab,dS,he,lR,bo,b7,bu];rfl) ?_));refine al (ar ?_);refine aZ _ (AW.norm [1,7,8,9] [] aN (AW.st (by simp[ab];rfl) ?_));refine cD fw ?_;(try simp only[aV,aX]);refine bh.mk (n+1) ⟨aa,fun i hi aO=>?_⟩ aa ?_
    .by_cases h:i=n
     .subst h;exact he
     .exact hp i hi aa
    refine bt (Aq fw @alw)
  .refine b5 (aF _ (ae fw [4] [] ?_));refine bT ?_;simp[D.le,D.le.go,aR,ab];exact (vf fun i hi=>hp i hi aa).symm
theorem OP {p:aS} (h:∀ r∈p.ax,∃ e,r.cond=some e/\bE e<=2^28):∀ {n:Nat},n<=p.ax.length->(lu p n).length<=2^28 * n
 | 0,_=>by simp[lu]
 | n+1,hn=>by
  have ih:=OP h (n:=n) aa;obtain⟨e,he,hb⟩:=h p.ax[n] (By _);rw[IY aa,ajQ]
  have:(vQ p p.ax[n]).length<=2^28:=by
   unfold vQ;rw[he,aki];have h1:=Lib.compact_length_le (nM (dv false e));have h2:=tO (dv false e);have h3:=yV false e;show (fj false e).length<=_;unfold fj;omega
  omega
theorem ab5 (G:ay) (p:aS) (fD:p.names.length < 2^62) (fq:p.ax.length<=100) (hg:∀ r∈p.ax,∃ e,r.cond=some e/\bE e<=2^28):aD prog G 83 [gu p] (.sl none ((Lib.compact (pq (lu p p.ax.length))).map fun x=>[.v (.int .i64 x)])):=by
 have cu:=fun s=>yQ G p fD s;have hlen:=fun n hn=>OP (n:=n) hg hn;have hL:=hlen _ (ajJ _);have yt:=agM G 300 3 (lu p p.ax.length) aa;have qB:=W7 G 300 3 (pq (lu p p.ax.length)) (by rw[D5];omega);rw[D5]at qB;have cA:=Lib.compact_length_le (pq (lu p p.ax.length));rw[D5]at cA;generalize Y0:lu p p.ax.length=l at yt qB cA hL ⊢;generalize pq l=z at yt qB cA ⊢
 have cY:List.take (Lib.compact z).length ((Lib.compact z ++ List.replicate (l.length - (Lib.compact z).length) 0).map fun s=>[D.v (.int .i64 s)])=(Lib.compact z).map fun s=>[D.v (.int .i64 s)]:=by
  rw[akj,akN ak,sh ak]
 have Ln:(Lib.compact z ++ List.replicate (l.length - (Lib.compact z).length) 0).length=l.length:=by simp;omega
 generalize Lib.compact z ++ List.replicate (l.length - (Lib.compact z).length) 0=y at qB cY Ln;generalize Lib.compact z=c at qB cA cY ⊢;simp only[gu,gX,cE,fg,dS]at cu ⊢;refine aD.aQ (aC _) func83 rfl rfl (rs:=[.tmp 2]) results83 (by simp[ntmps83]) fun X=>?_;simp only[ntmps83,List.map];have fw:=@alv;refine ae fw [1] [1] ?_;refine dT fw 1 ?_;refine ae fw [1,3] [] ?_;refine ag fun K1 aF=>ae fw [1,3,9,10,11] [] ?_;refine cG (S:=Nat) (fun i=>i<=p.ax.length) (fun i=>⟨bp [(1,.d (.ip [.sl none (p.names.map bw),.sl none (p.ax.map cU)])),(3,.own 300 0 (lu p i).length),(9,.d (.sl none (p.ax.map cU))),(10,int p.ax.length),(11,int i)],aq [(300,.sl 3 1 ((lu p i).map fun x=>[.v (.int .i64 x)]))]⟩) (fun i=>p.ax.length - i) 0 ?_ ak ?_
 .refine (aM.nU 3 300 3 1 rfl rfl).trans ?_;refine bt (Aq fw (Aq @lu.eq_1 @lu.eq_2))
 .intro i hi;have Fu:=hlen i hi
  have xJ:(lu p i).length < 2^40:=aa
  have sx:=fun h=>IY (p:=p) (i:=i) h
  have so:i=p.ax.length->lu p i=l:=fun h=>by rw[h];exact Y0
  generalize Pv:lu p i=E at xJ sx so ⊢;refine ae fw [1,3,9,10,11,12] [300] ?_;refine ag fun K2 aw=>fG (b:=i < p.ax.length) (by simp[D.le,D.le.go,aR,ab]) (fun hc=>?_) (fun hc=>?_)
  .have aH:=hc;obtain⟨e,he,hb⟩:=hg _ (By aH);have fi:=sx aH;have jo:cU p.ax[i]=[.v (.int .i64 p.ax[i].kind),.v (.string (bs p.ax[i].name)),dC p.ax[i].cond]:=rfl;have og:=XF G e hb
   have QF:(fj false e).length<=2^28:=by
    have h1:=Lib.compact_length_le (nM (dv false e));have h2:=tO (dv false e);have h3:=yV false e;unfold fj;omega
   unfold vQ at fi;rw[he]at fi jo;simp only[dC,dS]at fi jo og;obtain⟨ta,ca,rI⟩:=kW e;rw[rI]at jo og;generalize fj false e=ns at fi og QF;generalize p.ax[i].kind=kd at jo;generalize p.ax[i].name=nm at jo;refine ar (aw _ (ag fun K3 aZ=>bg ?_));have qf:=(Aq fw (Aq @aH @jo));refine au [1,3,5,9,10,11] [300,5] ?_;refine dT fw 5 ?_;refine br fw og [1,3,9,10,11,17,18,19] [300] ?_;obtain⟨AA,zU⟩:∃ f:Nat->List Int,f=fun j=>E ++ (ns.take j).map (cw p):=⟨_,rfl⟩
   have Jk:AA 0=E:=by rw[zU];simp
   have YL:AA ns.length=E ++ ns.map (cw p):=by rw[zU];simp
   have YN:∀ j (h:j < ns.length),AA (j+1)=AA j ++ [cw p ns[j]]:=fun j h=>by rw[zU];dsimp only;rw[ajO h,akj,akt];rfl
   have YM:∀ j,(AA j).length < 2^41:=fun j=>by rw[zU];dsimp only;rw[ajQ,aki,ajW];omega
   clear zU;refine cG (S:=Nat) (fun j=>j<=ns.length) (fun j=>⟨bp [(1,.d (.ip [.sl none (p.names.map bw),.sl none (p.ax.map cU)])),(3,.own 300 0 (AA j).length),(9,.d (.sl none (p.ax.map cU))),(10,int p.ax.length),(11,int i),(17,.d (.sl none (ns.map fun s=>[.v (.string (bs s))]))),(18,int ns.length),(19,int j)],aq [(300,.sl 3 1 ((AA j).map fun x=>[.v (.int .i64 x)]))]⟩) (fun j=>ns.length - j) 0 ?_ ak ?_
   .refine bt (Aq fw @Jk)
   .intro j hj;have zV:=YN j;have Po:=YM j
    have Pn:j=ns.length->E ++ ns.map (cw p)=AA j:=fun h=>by rw[h,YL]
    generalize zU:AA j=A at zV Po Pn ⊢;refine ae fw [1,3,9,10,11,17,18,19,20] [300] ?_;refine ag fun K4 cr=>fG (b:=j < ns.length) (by simp[D.le,D.le.go,aR,ab]) (fun hc=>?_) (fun hc=>?_)
    .have nB:=hc;have Fs:=zV nB;have QD:=cu ns[j];generalize cw p ns[j]=z2 at Fs QD;refine ar (cr _ (ag fun K5 cg=>bg ?_));have qf:=(Aq fw @nB);refine au [1,3,7,9,10,11,17,18,19] [300] ?_;refine fH (aC _) fun K' ao=>?_;(repeat refine aK fun Kq af=>?_;simp[ab,sh];(repeat refine⟨aa,?_⟩);refine af _ ?_);refine aK fun Kq af=>?_;simp[ab,sh];refine cX.data (QD) bB (by first | exact D.bR _ | simp[aR,ajN,ajG,D.le,D.le.go,D.le_refl,D.bR,ab,sh]) ?_;refine af _ ?_;simp only[aL,dL];(repeat refine aK fun Kq af=>?_;simp[ab,sh];(repeat refine⟨aa,?_⟩);refine af _ ?_);refine bJ (ao _ ?_);refine cg _ (AW.norm [1,3,9,10,11,17,18,19] [300] aN (AW.st (by simp[ab,sh];rfl) ?_));refine cD fw ?_;(try simp only[aV,aX]);refine bh.mk (j+1) aa aa ?_;refine bt (Aq fw @Fs)
    .obtain rfl:j=ns.length:=aa
     rw[Pn rfl]at fi;refine b5 (aZ _ (cD fw ?_));(try simp only[aV,aX]);refine bh.mk (i+1) aa aa ?_;refine bt (Aq fw @fi)
  .obtain rfl:=so aa;refine b5 (aF _ (bG fw yt [3] [300] ?_));refine bG fw qB [2] [300] ?_
   have hle:c.length<=y.length:=aa
   by_cases uS:c.length=y.length
   .have oB:(y.map fun s=>[D.v (.int .i64 s)])=c.map fun s=>[D.v (.int .i64 s)]:=by rw[<- cY,uS,sh ak]
    refine AW.imp (aM.freeze 300 trivial) ?_;refine AW.st (by simp[ab,uS,hle,oB];rfl) ?_;exact aU (Aq fw (Aq @uS @oB))
   .refine AW.imp (aM.freeze 300 trivial) ?_;refine AW.st (by simp[ab,uS,hle,cY];rfl) ?_;exact aU (Aq fw @cY)
theorem ah7 (G:ay) (hM:k9 G) (p:aS) (fD:p.names.length < 2^40) (s8:∀ n∈p.names,n.name≠[]) (fq:p.ax.length<=100) (hg:∀ r∈p.ax,∃ e,r.cond=some e/\bE e<=2^28):aD prog G 246 [eF p] (.sl none ((gp p p.names.length).map fun x=>[.v (.int .i64 x)])):=by
 simp only[eF,gr,cE];refine aD.aQ (aC _) func246 rfl rfl (rs:=[.tmp 2]) results246 (by simp[ntmps246]) fun X=>?_;simp only[ntmps246,List.map];have fw:=@alv;refine ae fw [1] [1] ?_;refine dT fw 1 ?_;refine ae fw [1,3] [] ?_;refine ag fun K1 aF=>ae fw [1,3,9,10,11] [] ?_;refine cG (S:=Nat) (fun i=>i<=p.names.length) (fun i=>⟨bp [(1,.d (.ip [.sl none (p.names.map bw),.sl none (p.ax.map eo)])),(3,.own 300 0 (gp p i).length),(9,.d (.sl none (p.names.map bw))),(10,int p.names.length),(11,int i)],aq [(300,.sl 3 1 ((gp p i).map fun x=>[.v (.int .i64 x)]))]⟩) (fun i=>p.names.length - i) 0 ?_ ak ?_
 .refine (aM.nU 3 300 3 1 rfl rfl).trans ?_;refine bt (Aq fw (Aq @gp.eq_1 @gp.eq_2))
 .intro i hi;have xJ:=HO p i;have sx:=fun h=>U7 (p:=p) (i:=i) h;generalize Pv:gp p i=E at xJ sx ⊢;refine ae fw [1,3,9,10,11,12] [300] ?_;refine ag fun K2 aw=>fG (b:=i < p.names.length) (by simp[D.le,D.le.go,aR,ab]) (fun hc=>?_) (fun hc=>?_)
  .have aH:=hc;have fi:=sx aH;have bf:=s8 _ (By aH);have jh:bw p.names[i]=[.v (.string (bs p.names[i].name)),.v (.int .i64 p.names[i].kind),.v (.int .i64 p.names[i].count)]:=rfl;generalize p.names[i].name=nm at jh fi bf;generalize p.names[i].kind=kd at jh;generalize p.names[i].count=ct at jh;refine ar (aw _ (ag fun K3 aZ=>bg ?_));have qf:=(Aq fw (Aq @aH @jh));refine au [1,3,4,5,9,10,11] [300,5] ?_;refine dT fw 5 ?_;refine ae fw [1,3,4,5,9,10,11,17,18,19] [300] ?_;refine cG (S:=Nat) (fun j=>j<=p.ax.length/\∀ k (hk:k < p.ax.length),k < j->oU nm p.ax[k]=false) (fun j=>⟨bp [(1,.d (.ip [.sl none (p.names.map bw),.sl none (p.ax.map eo)])),(3,.own 300 0 E.length),(4,int i),(5,.d (.ip [.v (.string (bs nm)),.v (.int .i64 kd),.v (.int .i64 ct)])),(9,.d (.sl none (p.names.map bw))),(10,int p.names.length),(11,int i),(17,.d (.sl none (p.ax.map eo))),(18,int p.ax.length),(19,int j)],aq [(300,.sl 3 1 (E.map fun x=>[.v (.int .i64 x)]))]⟩) (fun j=>p.ax.length - j) 0 ?_ ak ?_
   .refine bt fw
   .rintro j ⟨hj,jj⟩;refine ae fw [1,3,4,5,9,10,11,17,18,19,20] [300] ?_;refine ag fun K4 cr=>fG (b:=j < p.ax.length) (by simp[D.le,D.le.go,aR,ab]) (fun hc=>?_) (fun hc=>?_)
    .have nB:=hc;obtain⟨e,he,hb⟩:=hg _ (By nB);have jo:eo p.ax[j]=[.v (.int .i64 p.ax[j].kind),.v (.string (bs p.ax[j].name)),l9 p.ax[j].cond]:=rfl
     have s7:oU nm p.ax[j]=false->∀ k (hk:k < p.ax.length),k < j+1->oU nm p.ax[k]=false:=fun h0 k hk wm=>by
      by_cases h:k=j
      .subst h;exact h0
      .exact jj k hk aa
     have Qj:oU nm p.ax[j]=true->p.ax.any (oU nm)=true:=fun h=>akT.2 ⟨_,By nB,h⟩
     have pa:oU nm p.ax[j]=decide (0<=idx (fun x=>x == nm) (fj false e)):=by unfold oU;rw[he]
     have og:=aek G hM e hb
     have QF:(fj false e).length<=2^28:=by
      have h1:=Lib.compact_length_le (nM (dv false e));have h2:=tO (dv false e);have h3:=yV false e;unfold fj;omega
     have iq:=LH G none (fj false e) nm bf aa;rw[he]at jo;simp only[l9]at jo;obtain⟨ec,JY⟩:∃ c,dR e = .ip c:=⟨_,sR e⟩;rw[JY]at jo og;generalize fj false e=ns at og iq pa;generalize idx (fun x=>x == nm) ns=ix at iq pa;generalize oU nm p.ax[j]=hv at s7 Qj pa;simp only[dS,ab]at og iq;generalize p.ax[j].kind=kd2 at jo;generalize p.ax[j].name=nm2 at jo;refine ar (cr _ (ag fun K5 cg=>bg ?_));have qf:=(Aq fw (Aq @nB @jo));refine au [1,3,4,5,7,9,10,11,17,18,19] [300,7] ?_;refine dT fw 7 ?_;refine tY (aC _) ah [1,3,4,5,9,10,11,17,18,19,29] [300] aN ah fun K' ao=>?_;(repeat refine ja fun Kq af=>?_;simp[ab];(repeat refine⟨aa,?_⟩);refine af _ ?_);refine ja fun Kq af=>?_;simp[ab];refine nX.data (og) bB bB (by first | exact D.bR _ | simp[aR,ajN,ajG,D.le,D.le.go,D.le_refl,D.bR,ab]) ?_;refine af _ ?_;simp only[aL,dL];(repeat refine ja fun Kq af=>?_;simp[ab];(repeat refine⟨aa,?_⟩);refine af _ ?_);refine ja fun Kq af=>?_;simp[ab];refine nX.data (iq) bB bB (by first | exact D.bR _ | simp[aR,ajN,ajG,D.le,D.le.go,D.le_refl,D.bR,ab]) ?_;refine af _ ?_;simp only[aL,dL];(repeat refine ja fun Kq af=>?_;simp[ab];(repeat refine⟨aa,?_⟩);refine af _ ?_);refine qd (ao _ ?_);refine AW.st (by simp[ab];rfl) ?_;by_cases h0:0<=ix
     .have jO:hv=true:=by rw[pa];simpa using h0
      rw[if_pos (Qj jO)]at fi;refine b8 (by simp[h0]) (rg [1,3,9,10,11] [300] aN fun K' ao=>?_);(repeat refine aK fun Kq af=>?_;simp[ab,sh];(repeat refine⟨aa,?_⟩);refine af _ ?_);refine bJ (ao _ (AW.st (by simp[ab,sh];rfl) ?_));refine b5 (aZ _ (cD fw ?_));(try simp only[aV,aX]);refine bh.mk (i+1) aa aa ?_;refine bt (Aq fw @fi)
     .have jO:hv=false:=by rw[pa];simpa using h0
      refine b9 (by simp[h0]) (ar (cg _ ?_));refine cD fw ?_;(try simp only[aV,aX]);refine bh.mk (j+1) ⟨aa,s7 jO⟩ aa ?_;refine bt fw
    .have wa:p.ax.any (oU nm)=false:=by
      rw[List.any_eq_false];intro r hr;obtain⟨k,hk,rfl⟩:=aj1.1 hr;simpa using jj k hk aa
     rw[wa,if_neg bF,ako]at fi;refine b5 (aZ _ (cD fw ?_));(try simp only[aV,aX]);refine bh.mk (i+1) aa aa ?_;refine bt (Aq fw @fi)
  .obtain rfl:i=p.names.length:=aa
   refine b5 (aF _ (AW.imp (aM.freeze 300 trivial) ?_));refine AW.st (by simp[ab,sh];rfl) ?_;refine ae fw [2] [] ?_;exact aU (Aq fw @Pv)
def BD (G:ay):Prop:=G 2=some (.ip [.sl none [[.v (.string (bs []))],[.v (.string (bs [105,110,112,117,116]))],[.v (.string (bs [99,111,105,108]))],[.v (.string (bs [116,105,109,101,114]))],[.v (.string (bs [99,111,117,110,116,101,114]))]]])
def BE (G:ay):Prop:=G 3=some (.ip [.sl none [[.v (.string (bs []))],[.v (.string (bs []))],[.v (.string (bs [115,101,116]))],[.v (.string (bs [114,101,115,101,116]))],[.v (.string (bs [114,117,110]))],[.v (.string (bs [99,111,117,110,116]))],[.v (.string (bs [122,101,114,111]))]]])
theorem ID {p:aS} {c:Int} {o:Option Nat} (h:c8 p=some (c,o)):c≠0:=by
 unfold c8 at h;split at h
 .simp only[IS,ajH]at h;omega
 split at h
 .rename_i hf;simp only[IS,ajH]at h;have:=(B9 hf).2.2;rw[<- h.1];exact this
 split at h
 .rename_i hf;simp only[IS,ajH]at h;have:=(B9 hf).2.2;rw[<- h.1];exact this
 .cases h
theorem acO {s:Tx} (h:jv s=true):s≠[]/\s.length<=8:=by
 unfold jv at h;simp only[IT,decide_eq_true_eq]at h;exact⟨h.1,h.2.1⟩
theorem acf {s:Tx} {r:jd} (h:iw s = .p9 r):∃ e,r.cond=some e/\iL e/\vM e<=20/\bE e<=10000:=by
 unfold iw at h;split at h
 .obtain⟨k,nm,hm,hr⟩:=Ub h;obtain⟨e,he,hp,_,hn,_⟩:=Uf hr;exact⟨e,he,(Ms hp).1,(Ms hp).2,SW hp⟩
 .exact absurd h Sp
def qj (r:jd):Prop:=∃ e,r.cond=some e/\iL e/\vM e<=20/\bE e<=10000
theorem S7 {l:List Tx}:∀ {k:Nat} {s:py},gG l k = .inr s->∀ r∈s.ax,qj r
 | 0,s,h=>by
  simp only[gG,aln]at h;subst h;simp[p6]
 | k+1,s,h=>by
  rw[gG]at h
  cases hk:gG l k with
  | inl e=>rw[hk]at h;cases h
  | inr s0=>
   rw[hk]at h;dsimp only at h;have ih:=S7 hk;unfold lJ at h;split at h
   .simp only[aln]at h;subst h;exact ih
   .split at h
    .cases h
    .cases h
    .split at h
     .simp only[aln]at h;subst h;exact ih
     .cases h
    .rename_i r hr;simp only[aln]at h;subst h;intro r' ow
     rcases ajR.1 ow with h1 | h1
     .exact ih r' h1
     .obtain rfl:=aj3.1 h1;exact acf hr
theorem SX {t:Tx} {p:aS} (h:jT t=(none,p)):c8 p=none/\∀ r∈p.ax,qj r:=by
 unfold jT at h;split at h
 .cases h
 .split at h
  .cases h
  .rename_i s hs;split at h
   .rename_i hc;simp only[ajH,true_and]at h;subst h;exact⟨hc,S7 hs⟩
   .cases h
   .cases h
theorem adq {t:Tx} {e:Int×Option Nat} (h:(jT t).1=some e):(jT t).2=⟨[],[]⟩:=by
 by_cases h1:20000 < t.length
 .unfold jT;rw[if_pos h1]
 .cases hs:gG (eW 10 t) (eW 10 t).length with
  | inl ci=>obtain⟨c,i⟩:=ci;rw[Mp aa hs]
  | inr s=>
   rw[Mq aa hs]at h ⊢
   cases hc:c8 ⟨s.names,s.ax⟩ with
   | none=>rw[hc]at h;cases h
   | some co=>
    obtain⟨c,o⟩:=co;cases o<;>rfl
theorem ah9:(⟨#[32]⟩:ByteArray)=bs [32]:=rfl
theorem HQ:(⟨#[]⟩:ByteArray)=bs []:=rfl
def rq (l:List Tx):List (List D):=(l.filter fun w=>decide (w≠[])).map fun s=>[dS s]
theorem Pa:rq []=[]:=rfl
theorem Yu (l:List Tx) (n:Nat) (h:n < l.length):rq (l.take (n+1))=if l[n]=[] then rq (l.take n) else rq (l.take n) ++ [[dS l[n]]]:=by
 unfold rq;rw[ajO h,List.filter_append,akj];by_cases h0:l[n]=[]
 .simp[h0]
 .simp[h0]
theorem Vd (G:ay) (hM:k9 G) (t:Tx) (ht:t.length < 2^30):aD prog G 173 [dS t] (.sl none ((iT t).map fun s=>[dS s])):=by
 have qH:=Us G hM t 32 ht
 have hwt:(iT t).map (fun s=>[dS s])=rq (eW 32 t):=by
  unfold rq iT eW;rw[<- HS]
 rw[hwt];have u2:=ET 32 t;simp only[dS]at qH;generalize eW 32 t=l at *;refine aD.aQ (aC _) func173 rfl rfl (rs:=[.tmp 2]) results173 (by simp[ntmps173]) fun X=>?_;simp only[ntmps173,List.map];have fw:=@alv;refine ae fw [0] [] ?_;refine ae fw [0,3] [] ?_;refine ag fun K1 aF=>?_;have qf:=(Aq fw @ah9);refine e7 qH [3,7,8,9] [] ?_;refine AW.imp (aM.nU 3 300 9 1 rfl rfl) ?_;refine cG (S:=Nat) (fun n=>n<=l.length) (fun n=>⟨bp [(3,.own 300 0 (rq (l.take n)).length),(7,.d (.sl (some true) (l.map fun s=>[dS s]))),(8,int l.length),(9,int n)],aq [(300,.sl 9 1 (rq (l.take n)))]⟩) (fun n=>l.length - n) 0 ?_ aa ?_
 .refine aM.dk aN (by simp[ab,Pa,dS]) (by simp[ab,Pa,dS])
 .intro n hn;refine ae fw [3,7,8,9,10] [300] ?_;refine ag fun K2 aw=>?_;by_cases aH:n < l.length
  .refine b8 (by simp;omega) ?_;have hs:=Yu l n aH;generalize PY:rq (l.take (n+1))=W2 at hs;generalize hW:rq (l.take n)=W at *
   have PZ:W.length<=2^40:=by
    rw[<- hW];unfold rq;rw[aki];have h1:=List.length_filter_le (fun w=>decide (w≠[])) (l.take n);have h2:=List.length_take_le n l;omega
   refine ar (aw _ (ag fun K3 aZ=>bg ?_));simp only[dS]at hs;have qf:=(Aq fw (Aq @aH @alw));refine au [3,5,7,8,9] [300] ?_;by_cases hx:l[n]=[]
   .rw[if_pos hx]at hs;refine rg [3,5,7,8,9,14] [300] aN fun K' ao=>?_;(repeat refine aK fun Kq af=>?_;simp[ab,HQ,bo,bu,hx];(repeat refine⟨aa,?_⟩);refine af _ ?_);refine bJ (ao _ (AW.st (by simp[ab,HQ,bo,bu,hx];rfl) ?_));refine b9 (by simp[hx]) (ar (aZ _ ?_));refine cD fw ?_;(try simp only[aV,aX]);refine bh.mk (n+1) aa aa ?_;refine bt (Aq fw (Aq @PY (Aq @hs @alw)))
   .rw[if_neg hx]at hs
    have qM:l[n].isEmpty=false:=by rw[akY];exact hx
    refine rg [3,5,7,8,9,14] [300] aN fun K' ao=>?_;(repeat refine aK fun Kq af=>?_;simp[ab,HQ,bo,bu,hx];(repeat refine⟨aa,?_⟩);refine af _ ?_);refine bJ (ao _ (AW.st (by simp[ab,HQ,bo,bu,hx];rfl) ?_));refine b8 (by simp[hx]) (fH (aC _) fun K' ao=>?_);(repeat refine aK fun Kq af=>?_;simp[ab,sh];(repeat refine⟨aa,?_⟩);refine af _ ?_);refine bJ (ao _ ?_);refine aZ _ (AW.norm [3,7,8,9] [300] aN (AW.st (by simp[ab,sh];rfl) ?_));refine cD fw ?_;(try simp only[aV,aX]);refine bh.mk (n+1) aa aa ?_;refine bt (Aq fw (Aq @PY (Aq @hs @alw)))
  .obtain rfl:n=l.length:=aa
   refine b9 ak ?_;rw[akH];refine b5 (aF _ (AW.imp (aM.freeze 300 trivial) ?_));refine AW.st (by simp[ab];rfl) ?_;refine ae fw [2] [] ?_;exact aU fw
def xA:Option Int->D
 | some v=>.bz [.v (.int .i64 v),.v (.bool true)]
 | none=>.bz [.v (.int .i64 0),.v (.bool false)]
theorem age (G:ay) (hP:sL G) {es er:Value} (hE:uc G es er) (s:Tx) (hs:s.length < 2^40):aD prog G 176 [dS s] (xA (wU s)):=by
 have th:=ado G hE s hs
 have cu:wU s=match Lib.atoiAll s with
  | .ok v=>if Lib.itoa v=s then some v else none
  | _=>none:=rfl
 unfold xB at th;refine aD.aQ (aC _) func176 rfl rfl (rs:=[.tmp 2,.tmp 3]) results176 (by simp[ntmps176]) fun X=>?_;simp only[ntmps176,List.map];have fw:=@alw;refine ae fw [0] [] ?_
 cases hn:Lib.atoiAll s with
 | ok v=>
  rw[hn]at th cu;dsimp only at th cu;obtain⟨v0,v1⟩:=Lib.atoiAll_bounds hn;have hit:=Yr G hP v v0 v1;simp only[dS]at hit;generalize Lib.itoa v=iv at hit cu;refine br fw th [0,4,5] [] ?_;refine ag fun K1 aF=>?_;by_cases hc:iv=s
  .rw[if_pos hc]at cu;subst hc;refine rg [4,18] [] aN fun K' ao=>?_;(repeat refine aK fun Kq af=>?_;simp[dS,bo,bu];(repeat refine⟨aa,?_⟩);refine af _ ?_);refine aK fun Kq af=>?_;simp[dS,bo,bu];refine cX.data (hit) bB (by first | exact D.bR _ | simp[aR,ajN,ajG,D.le,D.le.go,D.le_refl,D.bR,dS,bo,bu]) ?_;refine af _ ?_;simp only[aL,dL];(repeat refine aK fun Kq af=>?_;simp[dS,bo,bu];(repeat refine⟨aa,?_⟩);refine af _ ?_);refine bJ (ao _ (AW.st (by simp[dS,bo,bu];rfl) ?_));refine al (ar (aF _ ?_));refine ae fw [2,3] [] ?_;refine bT ?_;simp[D.le,D.le.go,aR,dS,cu,xA]
  .rw[if_neg hc]at cu;refine rg [4,18] [] aN fun K' ao=>?_;(repeat refine aK fun Kq af=>?_;simp[dS,bo,bu,hc];(repeat refine⟨aa,?_⟩);refine af _ ?_);refine aK fun Kq af=>?_;simp[dS,bo,bu,hc];refine cX.data (hit) bB (by first | exact D.bR _ | simp[aR,ajN,ajG,D.le,D.le.go,D.le_refl,D.bR,dS,bo,bu,hc]) ?_;refine af _ ?_;simp only[aL,dL];(repeat refine aK fun Kq af=>?_;simp[dS,bo,bu,hc];(repeat refine⟨aa,?_⟩);refine af _ ?_);refine bJ (ao _ (AW.st (by simp[dS,bo,bu,hc];rfl) ?_));refine b8 (by simp[hc]) (ae fw [2,3] [] ?_);refine bT ?_;simp[D.le,D.le.go,aR,dS,cu,xA]
 | range=>
  rw[hn]at th cu;dsimp only[uB]at th cu;refine br fw th [0,4,5] [] ?_;refine ag fun K1 aF=>ae fw [4,18] [] ?_;refine aJ (ae fw [2,3] [] ?_);refine bT ?_;simp[D.le,D.le.go,aR,dS,cu,xA]
 | _=>
  rw[hn]at th cu;dsimp only[uB]at th cu;refine br fw th [0,4,5] [] ?_;refine ag fun K1 aF=>ae fw [4,18] [] ?_;refine aJ (ae fw [2,3] [] ?_);refine bT ?_;simp[D.le,D.le.go,aR,dS,cu,xA]
def zT (l:List Tx) (n:Nat):py:=match gG l n with
 | .inr s=>s
 | .inl _=>p6
theorem Ff {l:List Tx} {n:Nat} {s:py} (h:gG l n = .inr s):zT l n=s:=by unfold zT;rw[h]
theorem aie {t:Tx}:∀ w∈iT t,w≠[]:=by
 intro w h;unfold iT at h;rw[<- HS]at h;have:=(List.mem_filter.1 h).2;simpa using this
theorem Ry {l:List Tx} {s:Tx} {k:Nat} (hk:k < l.length) (h0:l[k]≠s):kp l s≠k:=by
 intro e
 have h1:¬ kp l s < 0:=aa
 unfold kp at e h1;obtain⟨j,hj,he,hs⟩:=tu h1;rw[he]at e
 have:j=k:=aa
 subst this;exact h0 (by simpa using hs)
theorem Xr {t:Tx} (h:(61:UInt8)∈t):(cutAt 61 t).1.length+1+(cutAt 61 t).2.length=t.length/\(bs t).extract 0 (cutAt 61 t).1.length=bs (cutAt 61 t).1/\(bs t).extract ((cutAt 61 t).1.length+1) t.length=bs (cutAt 61 t).2:=by
 obtain⟨a,b,rfl,ha⟩:=akx h;rw[zF ha];refine⟨by simp;omega,?_,?_⟩
 .rw[Lib.extract_eq];simp[bs]
 .rw[Lib.extract_eq]
  have:(a ++ 61 :: b).drop (a.length+1)=b:=by
   rw[show a.length+1=(a ++ [(61:UInt8)]).length by simp,show a ++ (61:UInt8) :: b=(a ++ [61]) ++ b by simp,List.drop_left]
  simp only[bs];rw[this,sh (by simp;omega)]
theorem acr:(61:UInt8).toNat=61:=rfl
theorem alP:type_of% (Aq @alM (Aq @alN (Aq @alL (Aq @alx (Aq @aly (Aq @alz (Aq @alA @alB))))))):=(Aq @alM (Aq @alN (Aq @alL (Aq @alx (Aq @aly (Aq @alz (Aq @alA @alB)))))))
theorem agm (G:ay) (hF:vB G) (hM:k9 G) (hP:sL G) {es er:Value} (hE:uc G es er) (rv:BD G) (ry:BE G) (t:Tx):aD prog G 104 [dS t] (.bz [eF (jT t).2,dz (jT t).1]):=by
 have P4:=EC G 4;simp only[ab]at P4;have Jm:G 0=some (.ip [.v (.int .i64 0),.v (.int .i64 (-1))]):=hF;unfold BD at rv;unfold BE at ry;refine aD.aQ (aC _) func104 rfl rfl (rs:=[.cell 2 62,.cell 3 52]) results104 (by simp[ntmps104]) fun X=>?_;simp only[ntmps104,List.map];have fw:=al5;refine ae fw [0,2,3] [2,3] ?_;refine ag fun K1 aF=>?_;by_cases ht:20000 < t.length
 .have qK:(t.length:Int) > 20000:=aa
  have hp:jT t=(some (4,none),⟨[],[]⟩):=by unfold jT;rw[if_pos ht]
  have qf:=(Aq fw (Aq @bN @qK));refine au [0,2,3,23] [2,3] ?_;refine b8 (by simp[qK]) (br fw P4 [2,3] [2,3] ?_);exact aU (Aq fw (Aq @hp alP))
 have qK:¬ (t.length:Int) > 20000:=aa
 have qf:=(Aq fw (Aq @bN @qK));refine au [0,2,3,23] [2,3] ?_;refine b9 (by simp[qK]) (ar (aF _ ?_));refine ae fw [0,2,3,4] [2,3,4] ?_;refine ae fw [0,2,3,4,5,6] [2,3,4] ?_;refine ae fw [0,2,3,4,5,6,7] [2,3,4] ?_;refine ag fun K2 aw=>?_;have qH:=Us G hM t 10 aa;obtain⟨l,hl⟩:∃ l,l=eW 10 t:=⟨_,rfl⟩;have Kp:=ET 10 t;rw[<- hl]at qH Kp;simp only[dS]at qH;have qf:=(Aq fw @Sa);refine e7 qH [2,3,4,5,6,7,27,28,29] [2,3,4] ?_;refine AW.imp (aM.nU 5 803 3 1 rfl rfl) ?_;refine AW.st bB ?_;refine AW.imp (aM.nU 6 804 3 1 rfl rfl) ?_;refine AW.st bB ?_;refine AW.imp (aM.r8 4 0 801 197 3 rfl rfl rfl) ?_;refine AW.st bB ?_;refine AW.imp (aM.r8 4 1 802 203 3 rfl rfl rfl) ?_;refine AW.st bB ?_;obtain⟨NN,v8⟩:∃ f:Nat->List (List D),f=fun n=>(zT l n).names.map bw:=⟨_,rfl⟩;obtain⟨RR,uK⟩:∃ f:Nat->List (List D),f=fun n=>(zT l n).ax.map eo:=⟨_,rfl⟩;obtain⟨NA,z6⟩:∃ f:Nat->List (List D),f=fun n=>dO (zT l n).jR:=⟨_,rfl⟩;obtain⟨RA,Aa⟩:∃ f:Nat->List (List D),f=fun n=>dO (zT l n).jV:=⟨_,rfl⟩;obtain⟨PL,PF⟩:∃ f:Nat->Int,f=fun n=>(jU l n:Int):=⟨_,rfl⟩
 have Cj:∀ n s,gG l n = .inr s->NN n=s.names.map bw:=fun n s h=>by rw[v8];dsimp only;rw[Ff h]
 have Cq:∀ n s,gG l n = .inr s->RR n=s.ax.map eo:=fun n s h=>by rw[uK];dsimp only;rw[Ff h]
 have Ch:∀ n s,gG l n = .inr s->NA n=dO s.jR:=fun n s h=>by rw[z6];dsimp only;rw[Ff h]
 have Cn:∀ n s,gG l n = .inr s->RA n=dO s.jV:=fun n s h=>by rw[Aa];dsimp only;rw[Ff h]
 have Ju:∀ n,PL n=(jU l n:Int):=fun n=>by rw[PF]
 have z1:NN 0=[]:=Cj 0 p6 rfl;have z2:RR 0=[]:=Cq 0 p6 rfl;have z3:NA 0=[]:=Ch 0 p6 rfl;have z4:RA 0=[]:=Cn 0 p6 rfl;have z5:PL 0=0:=Ju 0;clear v8 uK z6 Aa PF;refine cG (S:=Nat) (fun n=>n<=l.length/\∃ s,gG l n = .inr s) (fun n=>⟨bp [(2,.ref 2 0 0),(3,.ref 3 0 0),(4,.ref 4 0 0),(5,.own 803 0 (NA n).length),(6,.own 804 0 (RA n).length),(7,int (PL n)),(27,.d (.sl (some true) (l.map fun s=>[.v (.string (bs s))]))),(28,int l.length),(29,int n)],aq [(2,.box 62 [.d tJ,.d tJ]),(3,.box 52 [.d (.v (.int .i64 0)),.d (.v (.int .i64 0))]),(4,.box 62 [.own 801 0 (NN n).length,.own 802 0 (RR n).length]),(801,.sl 197 3 (NN n)),(802,.sl 203 3 (RR n)),(803,.sl 3 1 (NA n)),(804,.sl 3 1 (RA n))]⟩) (fun n=>l.length - n) 0 ?_ ⟨aa,p6,rfl⟩ ?_
 .refine aM.dk aN (by simp[ab,dS,z1,z2,z3,z4,z5,tJ]) (by simp[ab,dS,z1,z2,z3,z4,z5,tJ])
 .rintro n ⟨u4,s,hs⟩;refine ae fw [2,3,4,5,6,7,27,28,29,30] [2,3,4,801,802,803,804] ?_;refine ag fun K3 aZ=>?_;by_cases aH:n < l.length
  .refine b8 (by simp[aH]) (ar (aZ _ ?_));refine ag fun K4 cr=>bg ?_
   have hpb:jU l n+l[n].length<=t.length:=by subst hl;exact Mx aH
   have eY:PL (n+1)=(jU l n:Int)+((l[n].length:Int)+1):=by rw[Ju,My aH];omega
   have bX:=DV (t:=t) aa (Nat.le_of_lt (hl ▸ aH)) (hl ▸ hs);have ga:∀ s',lJ s (jU l n) l[n] = .inr s'->gG l (n+1) = .inr s':=fun s' h=>S9 aH hs h;have ld:∀ c i,lJ s (jU l n) l[n] = .inl (c,i)->jT t=(some (c,some i),⟨[],[]⟩):=fun c i h=>Mp aa (hl ▸ S8 aH hs h);obtain⟨fD,fq,iF,_,_⟩:=bX
   have Y8:(NN n).length=s.names.length:=by rw[Cj n s hs];simp
   have Zk:(RR n).length=s.ax.length:=by rw[Cq n s hs];simp
   have Y9:(NA n).length=s.names.length:=by rw[Ch n s hs];simp[dO,fD]
   have xQ:(RA n).length=s.ax.length:=by rw[Cn n s hs];simp[dO,fq]
   have Ci:=fun s' h=>Cj (n+1) s' h;have Cp:=fun s' h=>Cq (n+1) s' h;have Cg:=fun s' h=>Ch (n+1) s' h;have Cm:=fun s' h=>Cn (n+1) s' h;have b1:=(Cj n s hs).symm;have b2:=(Cq n s hs).symm;have b3:=(Ch n s hs).symm;have b4:=(Cn n s hs).symm;rw[Ju n];have AL:=Vd G hM l[n] aa;have ZW:=fun c=>agG G l[n] c
   have pN:∀ x,x=l[n]->x.length<=20000:=fun x h=>by rw[h];omega
   have qf:=(Aq fw @aH);refine au [2,3,4,5,6,7,9,27,28,29] [2,3,4,801,802,803,804] ?_;generalize hlx:l[n]=ln at *;generalize wA:jU l n=pk at *;generalize NN n=N1 at *;generalize RR n=R1 at *;generalize NA n=A1 at *;generalize RA n=A2 at *;refine ae fw [2,3,4,5,6,7,9,10,27,28,29] [2,3,4,801,802,803,804] ?_;have qf:=(Aq fw @bN);refine au [2,3,4,5,6,7,9,10,27,28,29] [2,3,4,801,802,803,804] ?_;refine ag fun K5 cg=>?_;have Df:=fun w h=>HV (t:=ln) (w:=w) h;have lX:=HU ln;by_cases h0:iT ln=[]
   .have eL:lJ s pk ln = .inr s:=by unfold lJ;rw[if_pos h0]
    have hn:=ga _ eL;rw[h0]at AL;simp only[dS]at AL;refine br fw AL [2,3,4,5,6,7,9,10,27,28,29,42] [2,3,4,801,802,803,804] ?_;refine aJ (b5 (cr _ ?_));refine cD fw ?_;(try simp only[aV,aX]);refine bh.mk (n+1) ⟨aa,s,hn⟩ aa ?_;have e1:=Ci _ hn;have e2:=Cp _ hn;have e3:=Cg _ hn;have e4:=Cm _ hn;rw[b1]at e1;rw[b2]at e2;rw[b3]at e3;rw[b4]at e4;refine aM.dk aN (by simp[ab,dS,e1,e2,e3,e4,eY]) (by simp[ab,dS,e1,e2,e3,e4,eY])
   have gC:lJ s pk ln=match iw ln with
    | .form=>.inl (3,pk)
    | .bad c off=>.inl (c,pk+off)
    | .name n=>if s.ax=[] then .inr ⟨s.names ++ [n],s.jR ++ [pk],s.ax,s.jV⟩ else .inl (3,pk)
    | .p9 r=>.inr ⟨s.names,s.jR,s.ax ++ [r],s.jV ++ [pk]⟩:=by unfold lJ;rw[if_neg h0];cases iw ln<;>rfl
   have gz:iw ln=if (61:UInt8)∈ln then qV (cutAt 61 ln).1 (cutAt 61 ln).2 (iT (cutAt 61 ln).1) else lB (iT ln):=rfl;have Lk:0 < (iT ln).length:=aky.2 h0;have jg:=ZW 61;simp only[acr,dS,ab]at jg;generalize wH:iT ln=ws at *
   have aiK:(ws.map fun s=>[dS s]).length=ws.length:=ak
   have qL:¬ (ws.length:Int)=0:=aa
   simp only[dS]at AL;have qf:=(Aq fw (Aq @qL @h0));refine e7 AL [2,3,4,5,6,7,9,10,27,28,29,42] [2,3,4,801,802,803,804] ?_;refine b9 (by simp[qL,h0]) (ar (cg _ ?_));by_cases vY:(61:UInt8)∈ln
   .rw[if_pos vY]at gz jg;have hle:=ES 61 ln;have JQ:=Xr vY;have yI:=Vd G hM (cutAt 61 ln).1 aa;have iG:=agk G hF (cutAt 61 ln).2 aa;have aa4:=aie (t:=(cutAt 61 ln).1);generalize (cutAt 61 ln).1=hd at *;generalize (cutAt 61 ln).2=rest at *;obtain⟨cA,Gk,qM⟩:=JQ
    have F6:¬ (-1:Int) > 0:=aa
    simp only[dS]at yI iG;refine br fw jg [2,3,4,5,6,7,9,10,11,27,28,29] [2,3,4,801,802,803,804] ?_;refine ag fun K6 eB=>ae fw [2,3,4,5,6,7,9,10,11,27,28,29,46] [2,3,4,801,802,803,804] ?_;refine b8 ak ?_;have qf:=(Aq fw (Aq @bN @Gk));refine e7 yI [2,3,4,5,6,7,9,10,11,12,27,28,29] [2,3,4,801,802,803,804] ?_;refine ae fw [2,3,4,5,6,7,9,10,11,12,13,27,28,29] [2,3,4,13,801,802,803,804] ?_
    match wI:iT hd,aa4 with
    | [],_=>
     rw[wI]at gz;simp only[wI,alj];refine ag fun K7 eO=>ae fw [2,3,4,5,6,7,9,10,11,12,13,27,28,29,53] [2,3,4,13,801,802,803,804] ?_;refine bg (ae fw [2,3,4,5,6,7,9,10,11,12,13,27,28,29,53,54] [2,3,4,13,801,802,803,804] ?_);refine al (ae fw [2,3,4,5,6,7,9,10,11,12,13,27,28,29,60] [2,3,4,13,801,802,803,804] ?_);refine al (ar (eO _ ?_));have hp:=ld 3 pk (by rw[gC,gz];try rfl);refine ag fun K8 eX=>?_;have qf:=(Aq fw @cA);refine au [2,3,4,5,6,7,9,10,11,13,27,28,29,84] [2,3,4,13,801,802,803,804] ?_;refine b8 (by simp[cA]) (ae fw [2,3] [2,3] ?_);exact aU (Aq fw (Aq @hp alP))
    | [a],_=>
     rw[wI]at gz;have bQ:True:=trivial;simp only[wI,alj,aj6];refine ag fun K7 eO=>ae fw [2,3,4,5,6,7,9,10,11,12,13,27,28,29,53] [2,3,4,13,801,802,803,804] ?_;refine bg (ae fw [2,3,4,5,6,7,9,10,11,12,13,27,28,29,53,54] [2,3,4,13,801,802,803,804] ?_);refine aJ (gR fw eO [2,3,4,5,6,7,9,10,11,12,13,27,28,29] [2,3,4,13,801,802,803,804] ?_);refine ag fun K8 eX=>?_;have qf:=(Aq fw @bQ);refine au [2,3,4,5,6,7,9,10,11,13,27,28,29,84] [2,3,4,13,801,802,803,804] ?_;refine b9 (by simp[bQ]) (ar (eX _ ?_));have fq:iw ln=ng 1 a hd rest:=gz;unfold ng at fq
     cases fE:(iZ rest).2 with
     | some ci=>
      obtain⟨c,o⟩:=ci;have ly:=Mr fE
      have gI:¬ c=0:=aa
      rw[fE]at iG fq;dsimp only at fq;have hp:=ld c (pk+(hd.length+1+o.getD 0)) (by rw[gC,fq])
      cases o with
      | none=>
       simp only[dz,codeF,ch,ab]at iG
       have cO:((pk+(hd.length+1+(none:Option Nat).getD 0):Nat):Int)=(pk:Int)+(hd.length:Int)+1:=by simp;omega
       rw[show (some (pk+(hd.length+1+(none:Option Nat).getD 0)))=some (pk+(hd.length+1+(none:Option Nat).getD 0)) from rfl]at hp;have qf:=(Aq fw (Aq @bN @qM));refine e7 iG [2,3,4,5,6,7,10,11,13,14,15,27,28,29] [2,3,4,13,15,801,802,803,804] ?_;refine ag fun K9 j2=>?_;have qf:=(Aq fw @gI);refine au [2,3,4,5,6,7,10,11,13,14,15,27,28,29,98] [2,3,4,13,15,801,802,803,804] ?_;refine b8 (by simp[gI]) (px (aC _) ah [(2,15),(8,15),(12,2),(13,3)] [2,3] [2,3,13,15] aN ah fun K' ao=>?_);(repeat refine jC fun Kq af=>?_;simp[ab,dS,F6];(repeat refine⟨aa,?_⟩);refine af _ ?_);refine kN (ao _ ?_);refine AW.st (by simp[ab,dS,F6];rfl) ?_;refine bT ?_;simp[D.le,D.le.go,aR,ab,dS,hp,eF,gr,cE,dz,codeF,ch,cO];omega
      | some o=>
       have KF:=DO fE;simp only[dz,codeF,ch,ab]at iG
       have cO:((pk+(hd.length+1+(some o).getD 0):Nat):Int)=(pk:Int)+(hd.length:Int)+1+(o:Int):=by simp;omega
       have CT:¬ (o:Int) < 0:=aa
       have qf:=(Aq fw (Aq @bN @qM));refine e7 iG [2,3,4,5,6,7,10,11,13,14,15,27,28,29] [2,3,4,13,15,801,802,803,804] ?_;refine ag fun K9 j2=>?_;have qf:=(Aq fw @gI);refine au [2,3,4,5,6,7,10,11,13,14,15,27,28,29,98] [2,3,4,13,15,801,802,803,804] ?_;refine b8 (by simp[gI]) (px (aC _) ah [(2,15),(8,15),(12,2),(13,3)] [2,3] [2,3,13,15] aN ah fun K' ao=>?_);(repeat refine jC fun Kq af=>?_;simp[ab,dS,CT];(repeat refine⟨aa,?_⟩);refine af _ ?_);refine kN (ao _ ?_);refine AW.st (by simp[ab,dS,CT];rfl) ?_;refine bT ?_;simp[D.le,D.le.go,aR,ab,dS,hp,eF,gr,cE,dz,codeF,ch,cO];split<;>omega
     | none=>
      rw[fE]at iG fq;dsimp only at fq;obtain⟨e,KJ⟩:=DP fE;rw[KJ]at iG fq;have hn:=ga _ (by rw[gC,fq])
      have mj:(s.ax ++ [(⟨1,a,some e⟩:jd)]).map eo=R1 ++ [[.v (.int .i64 1),.v (.string (bs a)),dR e]]:=by rw[akj,b2];rfl
      have ff:dO (s.jV ++ [pk])=A2 ++ [[.v (.int .i64 pk)]]:=by rw[zJ,b4];rfl
      obtain⟨cs,JU⟩:=zK e;simp only[dz,codeF,ch,ab,l9]at iG;rw[JU]at iG mj;have qf:=(Aq fw (Aq @bN @qM));refine e7 iG [2,3,4,5,6,7,10,11,13,14,15,27,28,29] [2,3,4,13,15,801,802,803,804] ?_;refine ag fun K9 j2=>ae fw [2,3,4,5,6,7,10,11,13,14,15,27,28,29,98] [2,3,4,13,15,801,802,803,804] ?_;refine al (ar (j2 _ ?_));refine ae fw [2,3,4,5,6,7,10,13,27,28,29] [2,3,4,13,801,802,803,804] ?_;refine rg [2,3,4,5,6,7,27,28,29] [2,3,4,801,802,803,804] aN fun K' ao=>?_;(repeat refine aK fun Kq af=>?_;simp[ab,dS,sh];(repeat refine⟨aa,?_⟩);refine af _ ?_);refine bJ (ao _ (AW.st (by simp[ab,dS,sh];rfl) ?_));refine b5 (cr _ (cD fw ?_));(try simp only[aV,aX]);refine bh.mk (n+1) ⟨aa,_,hn⟩ aa ?_;have e1:=Ci _ hn;have e2:=Cp _ hn;have e3:=Cg _ hn;have e4:=Cm _ hn
      try dsimp only at e1 e2 e3 e4
      rw[b1]at e1;rw[mj]at e2;rw[b3]at e3;rw[ff]at e4;refine aM.dk aN (by simp[ab,dS,e1,e2,e3,e4,eY]) (by simp[ab,dS,e1,e2,e3,e4,eY])
    | [a,b],JD=>
     rw[wI]at gz;simp only[wI,alj,aj6];have ha:=JD a ak;have iq:aD prog G 175 [.sl none [[.v (.string (bs []))],[.v (.string (bs []))],[.v (.string (bs [115,101,116]))],[.v (.string (bs [114,101,115,101,116]))],[.v (.string (bs [114,117,110]))],[.v (.string (bs [99,111,117,110,116]))],[.v (.string (bs [122,101,114,111]))]],.v (.string (bs a))] (.v (.int .i64 (kp pc a))):=LH G none pc a ha bF;have aiG:kp pc a≠0:=Ry (l:=pc) (k:=0) bF (fun h=>ha h.symm);have aiH:kp pc a≠1:=Ry (l:=pc) (k:=1) bF (fun h=>ha h.symm);have pH:=Gx pc a;refine ag fun K7 eO=>ae fw [2,3,4,5,6,7,9,10,11,12,13,27,28,29,53] [2,3,4,13,801,802,803,804] ?_;refine bg (ae fw [2,3,4,5,6,7,9,10,11,12,13,27,28,29,53,54] [2,3,4,13,801,802,803,804] ?_);refine al (ae fw [2,3,4,5,6,7,9,10,11,12,13,27,28,29,60] [2,3,4,13,801,802,803,804] ?_);refine aJ (sJ (aC _) ah [(2,999),(3,999),(6,999),(7,999),(9,13),(11,13)] ah fun K' ao=>?_);(repeat refine jC fun Kq af=>?_;simp[ab,dS,ry];(repeat refine⟨aa,?_⟩);refine af _ ?_);refine jC fun Kq af=>?_;simp[ab,dS,ry];refine nX.data (iq) bB bB (by first | exact D.bR _ | simp[aR,ajN,ajG,D.le,D.le.go,D.le_refl,D.bR,ab,dS,ry]) ?_;refine af _ ?_;simp only[aL,dL];(repeat refine jC fun Kq af=>?_;simp[ab,dS,ry];(repeat refine⟨aa,?_⟩);refine af _ ?_);refine kN (ao _ ?_);refine eO _ (AW.norm [2,3,4,5,6,7,9,10,11,12,13,27,28,29] [2,3,4,13,801,802,803,804] aN (AW.st (by simp[ab,dS,ry];rfl) ?_));simp only[qV]at gz;generalize kp pc a=kk at *;by_cases fP:kk < 2
     .rw[if_pos fP]at gz
      have bQ:kk < 1:=aa
      have hp:=ld 3 pk (by rw[gC,gz];try rfl);refine ag fun K8 eX=>?_;have qf:=(Aq fw @bQ);refine au [2,3,4,5,6,7,9,10,11,13,27,28,29,84] [2,3,4,13,801,802,803,804] ?_;refine b8 (by simp[bQ]) (ae fw [2,3] [2,3] ?_);exact aU (Aq fw (Aq @hp alP))
     .rw[if_neg fP]at gz
      have bQ:¬ kk < 1:=aa
      refine ag fun K8 eX=>?_;have qf:=(Aq fw @bQ);refine au [2,3,4,5,6,7,9,10,11,13,27,28,29,84] [2,3,4,13,801,802,803,804] ?_;refine b9 (by simp[bQ]) (ar (eX _ ?_));have fq:iw ln=ng kk b hd rest:=gz;unfold ng at fq
      cases fE:(iZ rest).2 with
      | some ci=>
       obtain⟨c,o⟩:=ci;have ly:=Mr fE
       have gI:¬ c=0:=aa
       rw[fE]at iG fq;dsimp only at fq;have hp:=ld c (pk+(hd.length+1+o.getD 0)) (by rw[gC,fq])
       cases o with
       | none=>
        simp only[dz,codeF,ch,ab]at iG
        have cO:((pk+(hd.length+1+(none:Option Nat).getD 0):Nat):Int)=(pk:Int)+(hd.length:Int)+1:=by simp;omega
        rw[show (some (pk+(hd.length+1+(none:Option Nat).getD 0)))=some (pk+(hd.length+1+(none:Option Nat).getD 0)) from rfl]at hp;have qf:=(Aq fw (Aq @bN @qM));refine e7 iG [2,3,4,5,6,7,10,11,13,14,15,27,28,29] [2,3,4,13,15,801,802,803,804] ?_;refine ag fun K9 j2=>?_;have qf:=(Aq fw @gI);refine au [2,3,4,5,6,7,10,11,13,14,15,27,28,29,98] [2,3,4,13,15,801,802,803,804] ?_;refine b8 (by simp[gI]) (px (aC _) ah [(2,15),(8,15),(12,2),(13,3)] [2,3] [2,3,13,15] aN ah fun K' ao=>?_);(repeat refine jC fun Kq af=>?_;simp[ab,dS,F6];(repeat refine⟨aa,?_⟩);refine af _ ?_);refine kN (ao _ ?_);refine AW.st (by simp[ab,dS,F6];rfl) ?_;refine bT ?_;simp[D.le,D.le.go,aR,ab,dS,hp,eF,gr,cE,dz,codeF,ch,cO];omega
       | some o=>
        have KF:=DO fE;simp only[dz,codeF,ch,ab]at iG
        have cO:((pk+(hd.length+1+(some o).getD 0):Nat):Int)=(pk:Int)+(hd.length:Int)+1+(o:Int):=by simp;omega
        have CT:¬ (o:Int) < 0:=aa
        have qf:=(Aq fw (Aq @bN @qM));refine e7 iG [2,3,4,5,6,7,10,11,13,14,15,27,28,29] [2,3,4,13,15,801,802,803,804] ?_;refine ag fun K9 j2=>?_;have qf:=(Aq fw @gI);refine au [2,3,4,5,6,7,10,11,13,14,15,27,28,29,98] [2,3,4,13,15,801,802,803,804] ?_;refine b8 (by simp[gI]) (px (aC _) ah [(2,15),(8,15),(12,2),(13,3)] [2,3] [2,3,13,15] aN ah fun K' ao=>?_);(repeat refine jC fun Kq af=>?_;simp[ab,dS,CT];(repeat refine⟨aa,?_⟩);refine af _ ?_);refine kN (ao _ ?_);refine AW.st (by simp[ab,dS,CT];rfl) ?_;refine bT ?_;simp[D.le,D.le.go,aR,ab,dS,hp,eF,gr,cE,dz,codeF,ch,cO];split<;>omega
      | none=>
       rw[fE]at iG fq;dsimp only at fq;obtain⟨e,KJ⟩:=DP fE;rw[KJ]at iG fq;have hn:=ga _ (by rw[gC,fq])
       have mj:(s.ax ++ [(⟨kk,b,some e⟩:jd)]).map eo=R1 ++ [[.v (.int .i64 kk),.v (.string (bs b)),dR e]]:=by rw[akj,b2];rfl
       have ff:dO (s.jV ++ [pk])=A2 ++ [[.v (.int .i64 pk)]]:=by rw[zJ,b4];rfl
       obtain⟨cs,JU⟩:=zK e;simp only[dz,codeF,ch,ab,l9]at iG;rw[JU]at iG mj;have qf:=(Aq fw (Aq @bN @qM));refine e7 iG [2,3,4,5,6,7,10,11,13,14,15,27,28,29] [2,3,4,13,15,801,802,803,804] ?_;refine ag fun K9 j2=>ae fw [2,3,4,5,6,7,10,11,13,14,15,27,28,29,98] [2,3,4,13,15,801,802,803,804] ?_;refine al (ar (j2 _ ?_));refine ae fw [2,3,4,5,6,7,10,13,27,28,29] [2,3,4,13,801,802,803,804] ?_;refine rg [2,3,4,5,6,7,27,28,29] [2,3,4,801,802,803,804] aN fun K' ao=>?_;(repeat refine aK fun Kq af=>?_;simp[ab,dS,sh];(repeat refine⟨aa,?_⟩);refine af _ ?_);refine bJ (ao _ (AW.st (by simp[ab,dS,sh];rfl) ?_));refine b5 (cr _ (cD fw ?_));(try simp only[aV,aX]);refine bh.mk (n+1) ⟨aa,_,hn⟩ aa ?_;have e1:=Ci _ hn;have e2:=Cp _ hn;have e3:=Cg _ hn;have e4:=Cm _ hn
       try dsimp only at e1 e2 e3 e4
       rw[b1]at e1;rw[mj]at e2;rw[b3]at e3;rw[ff]at e4;refine aM.dk aN (by simp[ab,dS,e1,e2,e3,e4,eY]) (by simp[ab,dS,e1,e2,e3,e4,eY])
    | a :: b :: c :: r,_=>
     rw[wI]at gz;simp only[wI,aj6]
     have kZ:¬ ((r.length:Int)+1+1+1=1):=aa
     have o6:¬ ((r.length:Int)+1+1+1=2):=aa
     have QM:¬ ((r.length:Int)+1+1+1 < 1):=aa
     have Ga:(r.length:Int)+1+1+1 > 2:=aa
     refine ag fun K7 eO=>ae fw [2,3,4,5,6,7,9,10,11,12,13,27,28,29,53] [2,3,4,13,801,802,803,804] ?_;refine bg ?_;have qf:=(Aq fw @kZ);refine au [2,3,4,5,6,7,9,10,11,12,13,27,28,29,53,54] [2,3,4,13,801,802,803,804] ?_;refine b9 (by simp[kZ]) ?_;have qf:=(Aq fw @o6);refine au [2,3,4,5,6,7,9,10,11,12,13,27,28,29,60] [2,3,4,13,801,802,803,804] ?_;refine b9 (by simp[o6]) (ar (eO _ ?_));have hp:=ld 3 pk (by rw[gC,gz];try rfl);refine ag fun K8 eX=>?_;have qf:=(Aq fw (Aq @QM @Ga));refine au [2,3,4,5,6,7,9,10,11,13,27,28,29,84] [2,3,4,13,801,802,803,804] ?_;refine b8 (by simp[QM,Ga]) (ae fw [2,3] [2,3] ?_);exact aU (Aq fw (Aq @hp alP))
   .rw[if_neg vY]at gz jg;refine br fw jg [2,3,4,5,6,7,9,10,11,27,28,29] [2,3,4,801,802,803,804] ?_;refine ag fun K6 eB=>ae fw [2,3,4,5,6,7,9,10,11,27,28,29,46] [2,3,4,801,802,803,804] ?_;refine al (ar (eB _ ?_));refine br fw AL [2,3,4,5,6,7,10,16,27,28,29] [2,3,4,801,802,803,804] ?_
    obtain⟨a,r,rfl⟩:∃ a r,ws=a :: r:=by
     cases ws with
     | nil=>exact absurd rfl h0
     | cons a r=>exact⟨a,r,rfl⟩
    have ha:=(Df a ak).1;have iq:aD prog G 175 [.sl none [[.v (.string (bs []))],[.v (.string (bs [105,110,112,117,116]))],[.v (.string (bs [99,111,105,108]))],[.v (.string (bs [116,105,109,101,114]))],[.v (.string (bs [99,111,117,110,116,101,114]))]],.v (.string (bs a))] (.v (.int .i64 (kp tB a))):=LH G none tB a ha bF;have pH:=Gx tB a;simp only[lB]at gz;generalize kp tB a=kk at *;simp only[aj6];refine px (aC _) ah [(2,999),(3,999),(7,17)] [2,3,4,5,6,7,10,16,17,27,28,29] [2,3,4,17,801,802,803,804] aN ah fun K' ao=>?_;(repeat refine jC fun Kq af=>?_;simp[ab,dS,rv];(repeat refine⟨aa,?_⟩);refine af _ ?_);refine jC fun Kq af=>?_;simp[ab,dS,rv];refine nX.data (iq) bB bB (by first | exact D.bR _ | simp[aR,ajN,ajG,D.le,D.le.go,D.le_refl,D.bR,ab,dS,rv]) ?_;refine af _ ?_;simp only[aL,dL];(repeat refine jC fun Kq af=>?_;simp[ab,dS,rv];(repeat refine⟨aa,?_⟩);refine af _ ?_);refine kN (ao _ ?_);refine AW.st (by simp[ab,dS,rv];rfl) ?_
    have fq:((r.map fun s=>[D.v (.string (bs s))]).length:Int)=(r.length:Int):=ak
    by_cases k1:kk < 1
    .have mh:iw ln = .form:=by
      rw[gz]
      match r with
      | []=>rfl
      | [b]=>rw[ic,if_neg aa]
      | [b,c]=>rw[ic,if_neg aa]
      | b :: c :: d :: r=>rfl
     have hp:=ld 3 pk (by rw[gC,mh]);refine ag fun nS eJ=>?_;have qf:=(Aq fw @k1);refine au [2,3,4,5,6,7,10,16,17,27,28,29,153] [2,3,4,17,801,802,803,804] ?_;refine b8 (by simp[k1]) (ae fw [2,3] [2,3] ?_);exact aU (Aq fw (Aq @hp alP))
    by_cases k3:kk < 3
    .have ju:¬ kk >= 3:=aa
     match r,gz with
     | [b],gz=>
      have mh:iw ln = .name ⟨b,kk,0⟩:=by rw[gz,ic,if_pos aa]
      simp only[aj6,alj];refine ag fun nS eJ=>?_;have qf:=(Aq fw (Aq @k1 (Aq @k3 @ju)));refine au [2,3,4,5,6,7,10,16,17,27,28,29,153] [2,3,4,17,801,802,803,804] ?_;refine b9 (by simp[k1,k3,ju]) (ar (eJ _ ?_));refine ae fw [2,3,4,5,6,7,10,16,17,27,28,29] [2,3,4,17,801,802,803,804] ?_;refine ag fun ud mL=>?_;have qf:=(Aq fw (Aq @k1 (Aq @k3 @ju)));refine au [2,3,4,5,6,7,10,16,17,27,28,29,163] [2,3,4,17,801,802,803,804] ?_;refine b9 (by simp[ju]) (ar (mL _ ?_));refine ag fun nq gH=>?_;by_cases nG:s.ax=[]
      .have hn:=ga _ (by rw[gC,mh];exact if_pos nG);have pW:A2=[]:=ak4.1 (by rw[xQ,nG];rfl)
       have mj:(s.names ++ [(⟨b,kk,0⟩:gV)]).map bw=N1 ++ [[.v (.string (bs b)),.v (.int .i64 kk),.v (.int .i64 0)]]:=by rw[akj,b1];rfl
       have ff:dO (s.jR ++ [pk])=A1 ++ [[.v (.int .i64 pk)]]:=by rw[zJ,b3];rfl
       subst pW;refine ae fw [2,3,4,5,6,7,10,17,27,28,29,180] [2,3,4,17,801,802,803,804] ?_;refine al (ar (gH _ ?_));refine fH (aC _) fun K' ao=>?_;(repeat refine aK fun Kq af=>?_;simp[ab,dS,sh];(repeat refine⟨aa,?_⟩);refine af _ ?_);refine bJ (ao _ ?_);refine cr _ (AW.norm [2,3,4,5,6,7,27,28,29] [2,3,4,801,802,803,804] aN (AW.st (by simp[ab,dS,sh];rfl) ?_));refine cD fw ?_;(try simp only[aV,aX]);refine bh.mk (n+1) ⟨aa,_,hn⟩ aa ?_;have e1:=Ci _ hn;have e2:=Cp _ hn;have e3:=Cg _ hn;have e4:=Cm _ hn
       try dsimp only at e1 e2 e3 e4
       rw[mj]at e1;rw[b2]at e2;rw[ff]at e3;rw[b4]at e4;refine aM.dk aN (by simp[ab,dS,e1,e2,e3,e4,eY]) (by simp[ab,dS,e1,e2,e3,e4,eY])
      .have hp:=ld 3 pk (by rw[gC,mh];exact if_neg nG)
       have pW:0 < A2.length:=by rw[xQ];exact aky.2 nG
       have qf:=(Aq fw @pW);refine au [2,3,4,5,6,7,10,17,27,28,29,180] [2,3,4,17,801,802,803,804] ?_;refine b8 (by simp[pW]) (ae fw [2,3] [2,3] ?_);exact aU (Aq fw (Aq @hp alP))
     | [],gz=>
      have mh:iw ln = .form:=gz;simp only[alj];have hp:=ld 3 pk (by rw[gC,mh]);refine ag fun nS eJ=>?_;have qf:=(Aq fw (Aq @k1 @k3));refine au [2,3,4,5,6,7,10,16,17,27,28,29,153] [2,3,4,17,801,802,803,804] ?_;refine b8 (by simp[k1,k3]) (ae fw [2,3] [2,3] ?_);exact aU (Aq fw (Aq @hp alP))
     | b :: c :: r,gz=>
      have mh:iw ln = .form:=by
       rw[gz]
       match r with
       | []=>rw[ic,if_neg aa]
       | d :: r=>rfl
      have hq:¬ ((r.length:Int)+1+1+1=2):=aa
      simp only[aj6];have hp:=ld 3 pk (by rw[gC,mh]);refine ag fun nS eJ=>?_;have qf:=(Aq fw (Aq @k1 (Aq @k3 @hq)));refine au [2,3,4,5,6,7,10,16,17,27,28,29,153] [2,3,4,17,801,802,803,804] ?_;refine b8 (by simp[k1,k3,hq]) (ae fw [2,3] [2,3] ?_);exact aU (Aq fw (Aq @hp alP))
    have ju:kk >= 3:=aa
    match r,gz with
    | [b,c],gz=>
     have cA:c.length<=20000:=by have:=(Df c ak).2;omega
     have oZ:=age G hP hE c aa;simp only[dS]at oZ;simp only[ic,if_pos ju]at gz;simp only[aj6,alj];refine ag fun nS eJ=>?_;have qf:=(Aq fw (Aq @k1 (Aq @k3 @ju)));refine au [2,3,4,5,6,7,10,16,17,27,28,29,153] [2,3,4,17,801,802,803,804] ?_;refine b9 (by simp[k1,k3,ju]) (ar (eJ _ ?_));refine ae fw [2,3,4,5,6,7,10,16,17,27,28,29] [2,3,4,17,801,802,803,804] ?_;refine ag fun ud mL=>?_;have qf:=(Aq fw (Aq @k1 (Aq @k3 @ju)));refine au [2,3,4,5,6,7,10,16,17,27,28,29,163] [2,3,4,17,801,802,803,804] ?_;refine b8 (by simp[ju]) ?_
     cases Ax:wU c with
     | none=>
      rw[Ax]at oZ gz;simp only[xA]at oZ;have mh:iw ln = .form:=gz;have hp:=ld 3 pk (by rw[gC,mh]);refine br fw oZ [2,3,4,5,6,7,10,17,18,19,27,28,29] [2,3,4,17,801,802,803,804] ?_;refine ag fun xp kB=>ae fw [2,3,4,5,6,7,10,17,18,27,28,29,172] [2,3,4,17,801,802,803,804] ?_;refine aJ (ae fw [2,3] [2,3] ?_);exact aU (Aq fw (Aq @hp alP))
     | some v=>
      rw[Ax]at oZ gz;simp only[xA]at oZ;have mh:iw ln = .name ⟨b,kk,v⟩:=gz;refine br fw oZ [2,3,4,5,6,7,10,17,18,19,27,28,29] [2,3,4,17,801,802,803,804] ?_;refine ag fun xp kB=>ae fw [2,3,4,5,6,7,10,17,18,27,28,29,172] [2,3,4,17,801,802,803,804] ?_;refine al (ar (kB _ ?_));refine gR fw mL [2,3,4,5,6,7,10,17,27,28,29] [2,3,4,17,801,802,803,804] ?_;refine ag fun nq gH=>?_;by_cases nG:s.ax=[]
      .have hn:=ga _ (by rw[gC,mh];exact if_pos nG);have pW:A2=[]:=ak4.1 (by rw[xQ,nG];rfl)
       have mj:(s.names ++ [(⟨b,kk,v⟩:gV)]).map bw=N1 ++ [[.v (.string (bs b)),.v (.int .i64 kk),.v (.int .i64 v)]]:=by rw[akj,b1];rfl
       have ff:dO (s.jR ++ [pk])=A1 ++ [[.v (.int .i64 pk)]]:=by rw[zJ,b3];rfl
       subst pW;refine ae fw [2,3,4,5,6,7,10,17,27,28,29,180] [2,3,4,17,801,802,803,804] ?_;refine al (ar (gH _ ?_));refine fH (aC _) fun K' ao=>?_;(repeat refine aK fun Kq af=>?_;simp[ab,dS,sh];(repeat refine⟨aa,?_⟩);refine af _ ?_);refine bJ (ao _ ?_);refine cr _ (AW.norm [2,3,4,5,6,7,27,28,29] [2,3,4,801,802,803,804] aN (AW.st (by simp[ab,dS,sh];rfl) ?_));refine cD fw ?_;(try simp only[aV,aX]);refine bh.mk (n+1) ⟨aa,_,hn⟩ aa ?_;have e1:=Ci _ hn;have e2:=Cp _ hn;have e3:=Cg _ hn;have e4:=Cm _ hn
       try dsimp only at e1 e2 e3 e4
       rw[mj]at e1;rw[b2]at e2;rw[ff]at e3;rw[b4]at e4;refine aM.dk aN (by simp[ab,dS,e1,e2,e3,e4,eY]) (by simp[ab,dS,e1,e2,e3,e4,eY])
      .have hp:=ld 3 pk (by rw[gC,mh];exact if_neg nG)
       have pW:0 < A2.length:=by rw[xQ];exact aky.2 nG
       have qf:=(Aq fw @pW);refine au [2,3,4,5,6,7,10,17,27,28,29,180] [2,3,4,17,801,802,803,804] ?_;refine b8 (by simp[pW]) (ae fw [2,3] [2,3] ?_);exact aU (Aq fw (Aq @hp alP))
    | [],gz=>
     have mh:iw ln = .form:=gz;simp only[alj];have hp:=ld 3 pk (by rw[gC,mh]);refine ag fun nS eJ=>?_;have qf:=(Aq fw (Aq @k1 (Aq @k3 @ju)));refine au [2,3,4,5,6,7,10,16,17,27,28,29,153] [2,3,4,17,801,802,803,804] ?_;refine b8 (by simp[k1,k3,ju]) (ae fw [2,3] [2,3] ?_);exact aU (Aq fw (Aq @hp alP))
    | [b],gz=>
     have mh:iw ln = .form:=by rw[gz,ic,if_neg aa]
     simp only[aj6,alj];have hp:=ld 3 pk (by rw[gC,mh]);refine ag fun nS eJ=>?_;have qf:=(Aq fw (Aq @k1 (Aq @k3 @ju)));refine au [2,3,4,5,6,7,10,16,17,27,28,29,153] [2,3,4,17,801,802,803,804] ?_;refine b8 (by simp[k1,k3,ju]) (ae fw [2,3] [2,3] ?_);exact aU (Aq fw (Aq @hp alP))
    | b :: c :: d :: r,gz=>
     have mh:iw ln = .form:=gz
     have hq:¬ ((r.length:Int)+1+1+1+1=3):=aa
     simp only[aj6];have hp:=ld 3 pk (by rw[gC,mh]);refine ag fun nS eJ=>?_;have qf:=(Aq fw (Aq @k1 (Aq @k3 (Aq @ju @hq))));refine au [2,3,4,5,6,7,10,16,17,27,28,29,153] [2,3,4,17,801,802,803,804] ?_;refine b8 (by simp[k1,k3,ju,hq]) (ae fw [2,3] [2,3] ?_);exact aU (Aq fw (Aq @hp alP))
  .obtain rfl:n=l.length:=aa
   refine b9 ak ?_;have fE:=Mq (s:=s) aa (hl ▸ hs);have bX:=DV (t:=t) aa (ajJ _) (hl ▸ hs);have AG:=Td bX (by rw[<- hl];omega);have kf:=ab1 G hF hM ⟨s.names,s.ax⟩ AG;obtain⟨fD,fq,iF,_,_⟩:=bX;rw[<- hl]at iF;have b1:=Cj _ s hs;have b2:=Cq _ s hs;have b3:=Ch _ s hs;have b4:=Cn _ s hs;simp only[eF,gr,cE]at kf;rw[<- b1,<- b2]at kf
   have ais:(NA l.length).length=s.names.length:=by rw[b3];simp[dO,fD]
   have ait:(RA l.length).length=s.ax.length:=by rw[b4];simp[dO,fq]
   have mN:=fun i h=>Pb (s.jR ++ s.jV) i h;rw[zJ,<- b3,<- b4]at mN;have q1:(∀ el∈RA l.length,el.length=1)=True:=eq_true (by rw[b4];simp[dO]);have q2:(∀ el∈RA l.length,∀ c∈el,c.one=true)=True:=eq_true (by rw[b4];simp[dO,ab,D.one])
   have qF:eF ⟨s.names,s.ax⟩ = .agg [.sl none (NN l.length),.sl none (RR l.length)]:=by rw[b1,b2];rfl
   have ZP:=fun c o=>ID (p:=⟨s.names,s.ax⟩) (c:=c) (o:=o)
   have KK:∀ c i,c8 ⟨s.names,s.ax⟩=some (c,some i)->i < (s.jR ++ s.jV).length:=fun c i h=>by have:=Ow h;simp at this ⊢;omega
   refine b5 (aw _ ?_);generalize NN l.length=N1 at *;generalize RR l.length=R1 at *;generalize NA l.length=A1 at *;generalize RA l.length=A2 at *;refine AW.imp (aM.freeze 801 trivial) ?_;refine AW.st (by simp[ab,dS];rfl) ?_;refine AW.imp (aM.freeze 802 trivial) ?_;refine AW.st (by simp[ab,dS];rfl) ?_;refine AW.imp (aM.freeze 804 trivial) ?_;refine AW.st (by simp[ab,dS];rfl) ?_
   cases bn:c8 ⟨s.names,s.ax⟩ with
   | none=>
    rw[bn]at kf fE;dsimp only at fE;simp only[dz,codeF,ch,ab]at kf;refine br fw kf [2,3,4,5,6,20] [2,3,4,20,803] ?_;refine ag fun BF uI=>ae fw [2,3,4,5,6,20,199] [2,3,4,20,803] ?_;refine al (ar (uI _ ?_));refine px (aC _) ah [(0,4),(2,2),(3,3)] [2,3] [2,3] aN ah fun K' ao=>?_;(repeat refine jC fun Kq af=>?_;simp[ab,dS,Jm];(repeat refine⟨aa,?_⟩);refine af _ ?_);refine kN (ao _ ?_);refine AW.st (by simp[ab,dS,Jm];rfl) ?_;exact aU (Aq fw (Aq @fE (Aq @qF (Aq @alx (Aq @aly (Aq @alz (Aq @alA @alB)))))))
   | some ci=>
    obtain⟨c,o⟩:=ci;have ly:=ZP c o bn;rw[bn]at kf fE
    cases o with
    | none=>
     dsimp only at fE;simp only[dz,codeF,ch,ab]at kf;refine br fw kf [2,3,4,5,6,20] [2,3,4,20,803] ?_;refine ag fun BF uI=>?_;have qf:=(Aq fw @ly);refine au [2,3,4,5,6,20,199] [2,3,4,20,803] ?_;refine b8 (by simp[ly]) (ag fun H7 xM=>?_);refine ae fw [2,3,5,6,20,202] [2,3,4,20,803] ?_;refine al (ar (xM _ ?_));refine px (aC _) ah [(1,20),(2,2),(3,3)] [2,3] [2,3] aN ah fun K' ao=>?_;(repeat refine jC fun Kq af=>?_;simp[ab,dS];(repeat refine⟨aa,?_⟩);refine af _ ?_);refine kN (ao _ ?_);refine AW.st (by simp[ab,dS];rfl) ?_;exact aU (Aq fw (Aq @fE alP))
    | some i=>
     dsimp only at fE;have hi:=KK c i bn;obtain⟨dM,om⟩:=BY.1 (mN i hi);clear mN
     have Ql:i < A1.length+A2.length:=by simpa using dM
     have Ap:(i:Int) < (A1.length:Int)+(A2.length:Int):=aa
     simp only[dz,codeF,ch,ab]at kf om;generalize (s.jR ++ s.jV).getD i 0=pl at om fE;refine br fw kf [2,3,4,5,6,20] [2,3,4,20,803] ?_;refine ag fun BF uI=>?_;have qf:=(Aq fw @ly);refine au [2,3,4,5,6,20,199] [2,3,4,20,803] ?_;refine b8 (by simp[ly]) (ag fun H7 xM=>?_);refine ae fw [2,3,5,6,20,202] [2,3,4,20,803] ?_;refine b8 ak ?_;refine Eo (aC _) ah ([(2,(803,803))]) ([(3,[803]),(4,[803]),(7,[803])]) ([0,1,3,4,2,5,6,7,8]) ah fun K' ao=>?_;(repeat refine zh rfl fun K2 aw=>?_;simp[ab,dS,B7,q1,q2,dM,Ql,Ap,om,sh];(repeat refine⟨aa,?_⟩);refine aw _ ?_;clear aw K2);refine zi (ao _ ?_);refine xM _ (AW.norm [2,3,20] [2,3,4,20] aN (AW.st (by simp[ab,dS,B7,q1,q2,dM,Ql,Ap,om,sh];rfl) ?_));refine px (aC _) ah [(1,20),(2,2),(3,3)] [2,3] [2,3] aN ah fun K' ao=>?_;(repeat refine jC fun Kq af=>?_;simp[ab,dS];(repeat refine⟨aa,?_⟩);refine af _ ?_);refine kN (ao _ ?_);refine AW.st (by simp[ab,dS];rfl) ?_;exact aU (Aq fw (Aq @fE alP))
theorem Ue {k:Int} {nm hd rest:Tx} {c:Int} {o:Nat} (h:ng k nm hd rest = .bad c o):c≠0:=by
 unfold ng at h;split at h
 .rename_i c' o' he;simp only[r6.bad.injEq]at h;have:=Mr he;omega
 .cases h
theorem agv {hd rest:Tx} {l:List Tx} {c:Int} {o:Nat} (h:qV hd rest l = .bad c o):c≠0:=by
 unfold qV at h;split at h
 .exact Ue h
 .split at h
  .cases h
  .exact Ue h
 .cases h
theorem acP {l:List Tx} {c:Int} {o:Nat} (h:lB l = .bad c o):c≠0:=by
 unfold lB at h;split at h
 .unfold ic at h;split at h
  .split at h<;>cases h
  .split at h
   .split at h<;>cases h
   .cases h
  .cases h
 .cases h
theorem ach {s:Tx} {c:Int} {o:Nat} (h:iw s = .bad c o):c≠0:=by
 unfold iw at h;split at h
 .exact agv h
 .exact acP h
theorem S6 {l:List Tx}:∀ {k:Nat} {c:Int} {i:Nat},gG l k = .inl (c,i)->c≠0
 | 0,c,i,h=>by cases h
 | k+1,c,i,h=>by
  rw[gG]at h
  cases hk:gG l k with
  | inl e=>
   rw[hk]at h;obtain⟨c',i'⟩:=e;simp only[Sum.inl.injEq,ajH]at h;have:=S6 hk;omega
  | inr s0=>
   rw[hk]at h;dsimp only at h;unfold lJ at h;split at h
   .cases h
   .split at h
    .simp only[Sum.inl.injEq,ajH]at h;omega
    .rename_i hb;simp only[Sum.inl.injEq,ajH]at h;have:=ach hb;omega
    .split at h
     .cases h
     .simp only[Sum.inl.injEq,ajH]at h;omega
    .cases h
theorem adp {t:Tx} {c:Int} {o:Option Nat} (h:(jT t).1=some (c,o)):c≠0:=by
 unfold jT at h;split at h
 .simp only[IS,ajH]at h;omega
 .split at h
  .rename_i c' i' hp;simp only[IS,ajH]at h;have:=S6 hp;omega
  .split at h
   .cases h
   .rename_i c' hc;simp only[IS,ajH]at h;have:=ID hc;omega
   .rename_i c' i' hc;simp only[IS,ajH]at h;have:=ID hc;omega
end Go.Proofs.YtoohljflflnbeaaGreatDoor
namespace Go.Av
section
variable {P:Program} {T:Ty} {Mv X:Nat->Prop} {G:ay} {N:Fr} {w:World} {μ:Mu} {a:Act} {σ:St} {ops:Array Oper}
def patch (R:List Nat) (H0 H2:Heap):Heap:=fun q=>if R.contains q then H0 q else H2 q
def ub (R:List Nat) (H:Heap):Prop:=∀ q,R.contains q=true->H q=none\/∃ (t:TypeId) (cs:List D),H q=some (.box t (cs.map AV.d))
def xq (R:List Nat) (H0 H:Heap):Prop:=∀ q,R.contains q=false->H0 q=H q
def Be (R:List Nat):AV->Bool
 | .ref r _ _=>!R.contains r
 | _=>true
def xo (P:Program) (G:ay) (mvd R:List Nat) (g:FuncId) (xs:List AV) (H:Heap) (y:AV) (H2:Heap):Prop:=
 ub R H/\(∀ q,R.contains q=true->H2 q=H q)/\∀ H0,ub R H0->xq R H0 H->HC P G mvd g xs H0 y (patch R H0 H2)
theorem Mw {R:List Nat} {H H2:Heap} (h:∀ q,R.contains q=true->H2 q=H q):patch R H H2=H2:=by
 funext q;unfold patch;split
 .rename_i hq;exact (h q hq).symm
 .rfl
theorem xo.hc {mvd R:List Nat} {g:FuncId} {xs:List AV} {H H2:Heap} {y:AV} (h:xo P G mvd R g xs H y H2):HC P G mvd g xs H y H2:=by
 have:=h.2.2 H h.1 fun _ _=>rfl
 rwa [Mw h.2.1]at this
theorem xo.swap {mvd R:List Nat} {g:FuncId} {xs:List AV} {H H2 H':Heap} {y:AV} (h:xo P G mvd R g xs H y H2) (hc:ub R H') (ho:xq R H' H):xo P G mvd R g xs H' y (patch R H' H2):=by
 refine⟨hc,fun q hq=>by unfold patch;rw[if_pos hq],fun H0 h0 CY=>?_⟩
 have e:patch R H0 (patch R H' H2)=patch R H0 H2:=by
  funext q;unfold patch;split
  .rfl
  .rfl
 rw[e];exact h.2.2 H0 h0 fun q hq=>(CY q hq).trans (ho q hq)
theorem j0.swap {R:List Nat} {H H2 H':Heap} {p:Nat×AV} (h:j0 T ops H H2 p) (hp:Be R p.2=true) (ho:xq R H' H):j0 T ops H' (patch R H' H2) p:=by
 obtain⟨k,v⟩:=p;unfold j0 at h ⊢;dsimp only at h hp ⊢
 cases he:ops[k]? with
 | none=>rw[he]at h;exact h.elim
 | some o=>
  rw[he]at h;dsimp only at h ⊢
  split at h<;>try exact h.elim
  cases v with
  | ref r e j=>
   simp only[Be,akP]at hp;have e1:=ho r hp
   have e2:patch R H' H2 r=H2 r:=by unfold patch;rw[if_neg (by rw[hp];decide)]
   unfold oF at h ⊢;dsimp only at h ⊢;rw[e1,e2];exact h
  | d x=>cases x<;>rfl
  | _=>rfl
theorem WX {R:List Nat} {H:Heap} {d:Nat} {t:TypeId} {cs:List D} (h:ub R H):ub R (aY H d (.box t (cs.map AV.d))):=fun q hq=>by
 unfold aY;split
 .exact .inr ⟨t,cs,rfl⟩
 .exact h q hq
theorem WY {R:List Nat} {H:Heap} {d:Nat} {b:Row} (h:ub R (aY H d b)) (hd:H d=none):ub R H:=fun q hq=>by
 by_cases e:q=d
 .subst e;exact .inl hd
 .have:=h q hq;unfold aY at this
  rwa [if_neg e]at this
theorem Mn {R:List Nat} {H:Heap} {d:Nat} {b:Row} (hd:R.contains d=true):xq R (aY H d b) H:=fun q hq=>by
 unfold aY;rw[if_neg (fun e=>by subst e;rw[hd]at hq;cases hq)]
theorem xq.symm {R:List Nat} {H H':Heap} (h:xq R H H'):xq R H' H:=fun q hq=>(h q hq).symm
theorem S3 {R:List Nat} {H H2:Heap} {d:Nat} {b:Row} (hd:R.contains d=true):aY (patch R H H2) d b=patch R (aY H d b) H2:=by
 funext q;unfold aY patch;by_cases e:q=d
 .subst e;simp only[if_true,hd]
 .simp only[if_neg e]
theorem adt {R:List Nat} {H H2:Heap} {d:Nat} {b:Row} (hd:R.contains d=true) (h:∀ q,R.contains q=true->H2 q=H q):patch R (aY H d b) H2=aY H2 d b:=by
 rw[<- S3 hd,Mw h]
def yK (R:List Nat) (o:Oper):Bool:=match o.op,o.dst with
 | .alloc _,some d=>R.contains d
 | _,_=>false
theorem VM {R:List Nat} {o:Oper} (h:yK R o=true):∃ t d,o.op = .alloc t/\o.dst=some d/\R.contains d=true:=by
 unfold yK at h;split at h
 .rename_i t d h1 h2;exact⟨t,d,h1,h2,h⟩
 .cases h
theorem NY {R:List Nat} {o:Oper} (h:yK R o=true) {e:Env} {H H':Heap} {x:AV} (hx:Ex P T Mv G o e H x H'):∃ (d:Nat) (t:TypeId) (cs:List D),R.contains d=true/\H d=none/\H'=aY H d (.box t (cs.map AV.d))/\∀ e2 H2,H2 d=none->Ex P T Mv G o e2 H2 x (aY H2 d (.box t (cs.map AV.d))):=by
 obtain⟨t,d,h1,h2,h3⟩:=VM h;obtain⟨dst,op,type,pos,after,guard⟩:=o;dsimp only at h1 h2;subst h1 h2;unfold Ex at hx ⊢;simp only[dP,gE,if_true]at hx ⊢;obtain⟨c,hw,hc⟩:=hx;unfold wr at hw ⊢;dsimp only at hw ⊢
 cases hT:T t with
 | none=>rw[hT]at hw;cases hw
 | some ti=>
  rw[hT]at hw;dsimp only at hw;simp only[IS,ajH,St.mk.injEq]at hw;obtain⟨rfl,rfl,_,rfl⟩:=hw;exact⟨d,t,gg ti.zero,h3,hc,rfl,fun e2 H2 hn=>⟨_,rfl,hn⟩⟩
def Vi (P:Program) (T:Ty) (Mv:Nat->Prop) (G:ay) (mvd R:List Nat) (ops:Array Oper) (ex:List (Nat×AV)) (o:Oper) (σ aG:St):Prop:=∃ c g xs y H2,dP o.op=some c/\kr G σ.env c=some (g,xs)/\(∀ r∈mvd,Mv r)/\xo P G mvd R g xs σ.H y H2/\(∀ p∈ex,j0 T ops σ.H H2 p/\Be R p.2=true)/\kT mvd y/\aG=⟨aL σ.env o.dst y,H2⟩
def zp (P:Program) (T:Ty) (Mv:Nat->Prop) (G:ay) (N:Fr) (mvd R db hv:List Nat) (ex:List (Nat×AV)) (ops:Array Oper) (i:Nat) (o:Oper) (σ aG:St):Prop:=
 eI N o/\o.guard=none/\ql mvd σ.env/\((db.contains i=true/\∃ c y,oP T G σ.env o=some (c,y)/\c/\aG=⟨aL σ.env o.dst (.d y),σ.H⟩)\/
  (db.contains i=false/\hv.contains i=true/\Vi P T Mv G mvd R ops ex o σ aG)\/
  (db.contains i=false/\hv.contains i=false/\kindOf o.op≠9/\pd G ex i o σ.env/\∃ x H',Ex P T Mv G o σ.env σ.H x H'/\kT mvd x/\aG=⟨aL σ.env o.dst x,H'⟩))
theorem Wg {mvd R db hv:List Nat} {ex:List (Nat×AV)} {i:Nat} {o:Oper} {σ aG:St} (h:zp P T Mv G N mvd R db hv ex ops i o σ aG):qk P T Mv G N mvd db hv ex ops i o σ aG:=by
 obtain⟨h1,h2,h3,h⟩:=h;refine⟨h1,h2,h3,?_⟩
 rcases h with h | ⟨b,v,c,g,xs,y,H2,hc,ht,hm,hh,hl,ho,e⟩ | h
 .exact .inl h
 .exact .inr (.inl ⟨b,v,c,g,xs,y,H2,hc,ht,hm,hh.hc,fun p hp=>(hl p hp).1,ho,e⟩)
 .exact .inr (.inr h)
theorem Wh (hg:Good P T) (mvd R db hv:List Nat) (ex:List (Nat×AV)):Sound P X G N Mv (zp P T Mv G N mvd R db hv ex ops) ops:=fun i o ho σ aG h=>GU hg mvd db hv ex i o ho σ aG (Wg h)
def EL (R db hv:List Nat) (ex:List (Nat×AV)) (ops:Array Oper) (i j:Nat) (oi oj:Oper):Bool:=oi.apart ops oj && (db.contains i || db.contains j ||
 (if hv.contains i then !hv.contains j && (kindOf oj.op == 0 || (ex.lookup j).isSome || yK R oj) else if hv.contains j then kindOf oi.op == 0 || (ex.lookup i).isSome || yK R oi else vk (kindOf oi.op) (kindOf oj.op)))
theorem Wi (mvd R db hv:List Nat) (ex:List (Nat×AV)):vC (zp P T Mv G N mvd R db hv ex ops) (EL R db hv ex ops) ops:=fun i j oi oj gL fe hc σ aT gU h1 h2=>by
 simp only[EL,IT]at hc;obtain⟨eu,jr⟩:=hc;obtain⟨di,gi,oE,h1⟩:=h1;obtain⟨dj,gj,_,h2⟩:=h2;have eU:∀ v,gq oj.op (aL σ.env oi.dst v) σ.env:=fun v t ht=>(je eu (e:=σ.env) (v:=v)).1 t (kK ht);have fB:∀ v,gq oi.op σ.env (aL σ.env oj.dst v):=fun v t ht=>((je eu (e:=σ.env) (v:=v)).2.1 t (kK ht)).symm;have bf:=(je eu (e:=σ.env) (v:=da)).2.2;have tg:∀ {o:Oper} {c:Call} {e e':Env},dP o.op=some c->gq o.op e e'->kr G e c=kr G e' c:=fun {o c e e'} hc ha=>zk fun t ht=>ha t (by rw[(vg hc).1];exact ht)
 have qQ:∀ {k:Nat} {o:Oper} {e e':Env},gq o.op e e'->pd G ex k o e->pd G ex k o e':=fun {k o e e'} ha h=>by
  unfold pd at h ⊢;split
  .rename_i pv hl;simp only[hl]at h;split
   .rename_i t x jN;simp only[jN]at h;rw[<- e8 (x:=x) fun t' qI=>ha t' (by rw[jN,qI];simp[Op.operands])];exact h
   .rename_i jj;split at h
    .rename_i t x jN;exact absurd jN (jj t x)
    .exact h
  .trivial
 rcases h1 with⟨bi,c,y,e1,c1,rfl⟩ | ⟨bi,vi,c,g,xs,y,H2,jg,ti,fK,cA,kh,oy,rfl⟩ | ⟨bi,vi,k1,l1,x,H',e1,ox,rfl⟩
 .-- data first
  rcases h2 with⟨bj,c',z,e2,c2,rfl⟩ | ⟨bj,vj,c',g,xs,z,H2,pJ,tj,fK,cA,kh,oz,rfl⟩ | ⟨bj,vj,k2,l2,z,H2,e2,oz,rfl⟩
  .rw[nZ (eU _)]at e2;refine⟨⟨aL σ.env oj.dst (.d z),σ.H⟩,⟨dj,gj,oE,.inl ⟨bj,c',z,e2,c2,rfl⟩⟩,di,gi,oE.put (kT.d _ _) _,.inl ⟨bi,c,y,?_,c1,?_⟩⟩
   .rw[<- nZ (fB _)];exact e1
   .rw[ig bf]
  .rw[tg pJ (eU _)]at tj;refine⟨⟨aL σ.env oj.dst z,H2⟩,⟨dj,gj,oE,.inr (.inl ⟨bj,vj,c',g,xs,z,H2,pJ,tj,fK,cA,kh,oz,rfl⟩)⟩,di,gi,oE.put oz _,.inl ⟨bi,c,y,?_,c1,?_⟩⟩
   .rw[<- nZ (fB _)];exact e1
   .rw[ig bf]
  .refine⟨⟨aL σ.env oj.dst z,H2⟩,⟨dj,gj,oE,.inr (.inr ⟨bj,vj,k2,qQ (eU _) l2,z,H2,e2.congr k2 (eU _),oz,rfl⟩)⟩,di,gi,oE.put oz _,.inl ⟨bi,c,y,?_,c1,?_⟩⟩
   .rw[<- nZ (fB _)];exact e1
   .rw[ig bf]
 .-- a call first
  rcases h2 with⟨bj,c',z,e2,c2,rfl⟩ | ⟨bj,vj,_⟩ | ⟨bj,vj,k2,l2,z,H3,e2,oz,rfl⟩
  .rw[nZ (eU _)]at e2;refine⟨⟨aL σ.env oj.dst (.d z),σ.H⟩,⟨dj,gj,oE,.inl ⟨bj,c',z,e2,c2,rfl⟩⟩,di,gi,oE.put (kT.d _ _) _,.inr (.inl ⟨bi,vi,c,g,xs,y,H2,jg,?_,fK,cA,kh,oy,?_⟩)⟩
   .rw[<- tg jg (fB _)];exact ti
   .rw[ig bf]
  .rw[bi,bj,vi]at jr;simp[vj]at jr
   simp_all
  .rw[bi,bj]at jr;have vO:=e2.congr k2 (eU _);have AX:=qQ (eU _) l2
   have hp:(kindOf oj.op=0\/(ex.lookup j).isSome=true)\/yK R oj=true:=by
    simp only[ak9,vi,vj,if_true,akG,Bool.true_and]at jr;simpa[or_assoc]using jr
   rcases hp with hp | hp
   .have hq:H3=H2/\Ex P T Mv G oj σ.env σ.H z σ.H:=by
     rcases hp with hp | hp
     .exact⟨vO.keeps aa,vO.free hp σ.H⟩
     .obtain⟨pv,mX⟩:=akw.1 hp;have hs:=(kh _ (GO mX)).1;refine AY fe mX AX ?_ vO;unfold j0 at hs ⊢;simp only[fe]at hs ⊢;split<;>simp_all
    obtain⟨rfl,e3⟩:=hq;refine⟨⟨aL σ.env oj.dst z,σ.H⟩,⟨dj,gj,oE,.inr (.inr ⟨bj,vj,k2,AX,z,σ.H,e3,oz,rfl⟩)⟩,di,gi,oE.put oz _,.inr (.inl ⟨bi,vi,c,g,xs,y,H3,jg,?_,fK,cA,kh,oy,?_⟩)⟩
    .rw[<- tg jg (fB _)];exact ti
    .rw[ig bf]
   .obtain⟨d,t,cs,hd,hn,rfl,pX⟩:=NY hp vO
    have yg:σ.H d=none:=by rw[<- cA.2.1 d hd];exact hn
    refine⟨⟨aL σ.env oj.dst z,aY σ.H d (.box t (cs.map AV.d))⟩,⟨dj,gj,oE,.inr (.inr ⟨bj,vj,k2,AX,z,_,pX _ _ yg,oz,rfl⟩)⟩,di,gi,oE.put oz _,.inr (.inl ⟨bi,vi,c,g,xs,y,patch R (aY σ.H d (.box t (cs.map AV.d))) H2,jg,?_,fK,cA.swap (WX cA.1) (Mn hd),fun p hp=>⟨(kh p hp).1.swap (kh p hp).2 (Mn hd),(kh p hp).2⟩,oy,?_⟩)⟩
    .rw[<- tg jg (fB _)];exact ti
    .rw[ig bf,adt hd cA.2.1]
 .rcases h2 with⟨bj,c',z,e2,c2,rfl⟩ | ⟨bj,vj,c',g,xs,z,H2,pJ,tj,fK,cA,kh,oz,rfl⟩ | ⟨bj,vj,k2,l2,z,H2,e2,oz,rfl⟩
  .rw[nZ (eU _)]at e2;refine⟨⟨aL σ.env oj.dst (.d z),σ.H⟩,⟨dj,gj,oE,.inl ⟨bj,c',z,e2,c2,rfl⟩⟩,di,gi,oE.put (kT.d _ _) _,.inr (.inr ⟨bi,vi,k1,qQ (fB _) l1,x,H',e1.congr k1 (fB _),ox,?_⟩)⟩;rw[ig bf]
  .rw[tg pJ (eU _)]at tj;rw[bi,bj]at jr
   have hp:(kindOf oi.op=0\/(ex.lookup i).isSome=true)\/yK R oi=true:=by
    simp only[ak9,vi,vj,if_true,ajM,if_false]at jr;simpa[or_assoc]using jr
   have zM:=e1.congr k1 (fB z);have wM:=qQ (fB z) l1
   rcases hp with (hp | hp) | hp
   .obtain rfl:=e1.keeps aa;refine⟨⟨aL σ.env oj.dst z,H2⟩,⟨dj,gj,oE,.inr (.inl ⟨bj,vj,c',g,xs,z,H2,pJ,tj,fK,cA,kh,oz,rfl⟩)⟩,di,gi,oE.put oz _,.inr (.inr ⟨bi,vi,k1,wM,x,H2,zM.free hp H2,ox,?_⟩)⟩;rw[ig bf]
   .obtain⟨pv,mX⟩:=akw.1 hp;have hs:=(kh _ (GO mX)).1;have hH:H'=σ.H:=(AY (H2:=σ.H) gL mX l1 (by unfold j0;simp only[gL];unfold j0 at hs;simp only[gL]at hs;split<;>simp_all) e1).1;subst hH;obtain⟨_,e3⟩:=AY gL mX wM hs zM;refine⟨⟨aL σ.env oj.dst z,H2⟩,⟨dj,gj,oE,.inr (.inl ⟨bj,vj,c',g,xs,z,H2,pJ,tj,fK,cA,kh,oz,rfl⟩)⟩,di,gi,oE.put oz _,.inr (.inr ⟨bi,vi,k1,wM,x,H2,e3,ox,?_⟩)⟩;rw[ig bf]
   .obtain⟨d,t,cs,hd,hn,rfl,pX⟩:=NY hp zM;have hO:=Mn (H:=σ.H) (b:=.box t (cs.map AV.d)) hd;have ZO:=cA.swap (WY cA.1 hn) hO.symm
    have ou:patch R σ.H H2 d=none:=by unfold patch;rw[if_pos hd];exact hn
    refine⟨⟨aL σ.env oj.dst z,patch R σ.H H2⟩,⟨dj,gj,oE,.inr (.inl ⟨bj,vj,c',g,xs,z,patch R σ.H H2,pJ,tj,fK,ZO,fun p hp=>⟨(kh p hp).1.swap (kh p hp).2 hO.symm,(kh p hp).2⟩,oz,rfl⟩)⟩,di,gi,oE.put oz _,.inr (.inr ⟨bi,vi,k1,wM,x,_,pX _ _ ou,ox,?_⟩)⟩;rw[ig bf,S3 hd,Mw cA.2.1]
  .rw[bi,bj]at jr
   have cK:kU ops oi oj=true:=by simp only[kU,IT];simp only[ak9,vi,vj,ajM,if_false]at jr;exact⟨eu,jr⟩
   obtain⟨H3,f1,f2⟩:=zB (N:=N) cK ⟨di,.inl ⟨k7 gi,e1⟩⟩ ⟨dj,.inl ⟨k7 gj,e2⟩⟩ k1 k2
   have un:∀ {o:Oper} {e:Env} {H H':Heap} {x:AV},o.guard=none->Sx P T Mv G N ops o e H x H'->Ex P T Mv G o e H x H':=fun de h=>by
    rcases h.2 with⟨_,h⟩ | ⟨hw,_⟩
    .exact h
    .rw[k7 de]at hw;cases hw
   refine⟨⟨aL σ.env oj.dst z,H3⟩,⟨dj,gj,oE,.inr (.inr ⟨bj,vj,k2,qQ (eU _) l2,z,H3,un gj f1,oz,rfl⟩)⟩,di,gi,oE.put oz _,.inr (.inr ⟨bi,vi,k1,qQ (fB _) l1,x,H2,un gi f2,ox,?_⟩)⟩;rw[ig bf]
def Ct (P:Program) (T:Ty) (Mv:Nat->Prop) (G:ay) (mvd R:List Nat) (ops:Array Oper) (ex:List (Nat×AV)) (g:FuncId) (xs:List AV) (σ:St) (dst:Option Tmp) (K:St->Prop):Prop:=∃ y H2,(∀ r∈mvd,Mv r)/\xo P G mvd R g xs σ.H y H2/\(∀ p∈ex,j0 T ops σ.H H2 p/\Be R p.2=true)/\kT mvd y/\K ⟨aL σ.env dst y,H2⟩
theorem ahB (o f:Nat->Nat->Nat->AV) (t:TypeId) (cs:List D):Row.tr o f (.box t (cs.map AV.d)) = .box t (cs.map AV.d):=by
 simp[Row.tr,AV.tr,ajG]
theorem aav {l:List (Nat×Row)} {q:Nat} (h:(aq l q).isSome=true):∃ p∈l,p.1=q:=by
 induction l with
 | nil=>simp[aq]at h
 | cons p l ih=>
  simp only[aq,List.lookup]at h
  cases pU:(q == p.1) with
  | true=>exact⟨p,ak,by simpa using (beq_iff_eq.1 pU).symm⟩
  | false=>
   rw[pU]at h;obtain⟨p',h1,h2⟩:=ih h;exact⟨p',by simp[h1],h2⟩
theorem Ct.mc {mvd R:List Nat} {ex:List (Nat×AV)} {dst:Option Tmp} {K:St->Prop} {fx:List Nat} {g:FuncId} {nP xs:List AV} {b6 gd:List (Nat×Row)} {y:AV} (hc:MC P G fx g xs (aq b6) y (aq gd)) (hx:nP.map (AV.tr (fA (b6.map (·.1))) (fy (b6.map (·.1))))=xs)
  (hR:∀ r∈R,(b6.map (·.1)).contains r=false/\(gd.map (·.1)).contains r=false/\(σ.H r=none\/∃ (t:TypeId) (cs:List D),σ.H r=some (.box t (cs.map AV.d))))
  (hH:∀ p∈b6,(σ.H p.1).map (Row.tr (fA (b6.map (·.1))) (fy (b6.map (·.1))))=aq b6 p.1) (hd:∀ p∈gd,(b6.map (·.1)).contains p.1=true\/σ.H p.1=none) (hm:∀ r∈b6.map (·.1),fx.contains r=false->r∈mvd) (fK:∀ r∈mvd,Mv r) (ho:∀ r∈mvd,y.kill r=y)
  (hl:∀ p∈ex,j0 T ops σ.H (nC (aq gd) (eM (fT (b6.map (·.1))) (ni (b6.map (·.1)) fx) (nh (b6.map (·.1)) fx) σ.H)) p/\Be R p.2=true)
  (h:K ⟨aL σ.env dst y,nC (aq gd) (eM (fT (b6.map (·.1))) (ni (b6.map (·.1)) fx) (nh (b6.map (·.1)) fx) σ.H)⟩):Ct P T Mv G mvd R ops ex g nP σ dst K:=by
 have aO:∀ q,R.contains q=true->q∈R:=fun q hq=>akq.1 hq;have cA:ub R σ.H:=fun q hq=>(hR q (aO q hq)).2.2
 have eL:∀ (H0:Heap),ub R H0->∀ q,R.contains q=true->nC (aq gd) (eM (fT (b6.map (·.1))) (ni (b6.map (·.1)) fx) (nh (b6.map (·.1)) fx) H0) q=H0 q:=fun H0 ly q hq=>by
  obtain⟨a1,a2,_⟩:=hR q (aO q hq)
  have e1:aq gd q=none:=by
   cases he:aq gd q with
   | none=>rfl
   | some r=>
    obtain⟨p,hp,rfl⟩:=aav (l:=gd) (q:=q) (by rw[he];rfl);have:(gd.map (·.1)).contains p.1=true:=akq.2 (akh.2 ⟨p,hp,rfl⟩);rw[this]at a2;cases a2
  unfold nC;rw[e1];dsimp only;unfold eM fT;rw[a1];simp only[akG,if_true]
  rcases ly q hq with h0 | ⟨t,cs,h0⟩
  .rw[h0];rfl
  .rw[h0,akb,ahB]
 refine⟨y,_,fK,⟨cA,eL σ.H cA,fun H0 ly CY=>?_⟩,hl,ho,h⟩
 have yX:∀ p∈b6,R.contains p.1=false:=fun p hp=>by
  cases he:R.contains p.1 with
  | false=>rfl
  | true=>
   have h1:=(hR p.1 (aO _ he)).1;have:(b6.map (·.1)).contains p.1=true:=akq.2 (akh.2 ⟨p,hp,rfl⟩);rw[this]at h1;cases h1
 have G5:∀ p∈gd,R.contains p.1=false:=fun p hp=>by
  cases he:R.contains p.1 with
  | false=>rfl
  | true=>
   have h1:=(hR p.1 (aO _ he)).2.1;have:(gd.map (·.1)).contains p.1=true:=akq.2 (akh.2 ⟨p,hp,rfl⟩);rw[this]at h1;cases h1
 have key:=HC.mc (mvd:=mvd) (H:=H0) hc hx (fun p hp=>by rw[CY p.1 (yX p hp)];exact hH p hp) (fun p hp=>by rw[CY p.1 (G5 p hp)];exact hd p hp) hm
 have e:patch R H0 (nC (aq gd) (eM (fT (b6.map (·.1))) (ni (b6.map (·.1)) fx) (nh (b6.map (·.1)) fx) σ.H))=nC (aq gd) (eM (fT (b6.map (·.1))) (ni (b6.map (·.1)) fx) (nh (b6.map (·.1)) fx) H0):=by
  funext q;unfold patch;split
  .rename_i hq;exact (eL H0 ly q hq).symm
  .rename_i hq
   have o5:R.contains q=false:=by simpa using hq
   unfold nC eM;rw[CY q o5]
 rw[e];exact key
def Hx (P:Program) (T:Ty) (Mv:Nat->Prop) (G:ay) (N:Fr) (mvd R db hv:List Nat) (ex:List (Nat×AV)) (ops:Array Oper) (i:Nat) (o:Oper) (σ:St) (K:St->Prop):Prop:=eI N o/\o.guard=none/\
 if db.contains i=true then (match oP T G σ.env o with
  | some (c,y)=>c/\K ⟨aL σ.env o.dst (.d y),σ.H⟩
  | none=>False)
 else if hv.contains i=true then (match dP o.op with
  | some c=>match kr G σ.env c with
   | some (g,xs)=>Ct P T Mv G mvd R ops ex g xs σ o.dst K
   | none=>False
  | none=>False)
 else kindOf o.op≠9/\pd G ex i o σ.env/\match dP o.op with
  | some c=>sb P G c σ.env o.dst σ.H [] [] K
  | none=>DR T G Mv mvd o σ K
def vq (P:Program) (T:Ty) (Mv:Nat->Prop) (G:ay) (N:Fr) (mvd R db hv:List Nat) (ex:List (Nat×AV)) (ops:Array Oper) (K:St->Prop):List (Nat×Oper)->St->Prop
 | [],σ=>K σ
 | (i,o) :: rest,σ=>Hx P T Mv G N mvd R db hv ex ops i o σ (vq P T Mv G N mvd R db hv ex ops K rest)
theorem ag6 {mvd R db hv:List Nat} {ex:List (Nat×AV)} {K:St->Prop}:∀ (l:List Nat) (σ:St),(∀ i∈l,i < ops.size)->ql mvd σ.env->vq P T Mv G N mvd R db hv ex ops K (bU ops l) σ->∃ cq,K cq/\Go.Av.iJ (zp P T Mv G N mvd R db hv ex ops) ops l σ cq:=by
 intro l
 induction l with
 | nil=>intro σ _ _ h;exact⟨σ,h,rfl⟩
 | cons i l ih=>
  intro σ hl jM h;have hi:=hl i ak
  have ho:ops[i]? = some ops[i]:=by simp[hi]
  simp only[bU,ho]at h;generalize ops[i]=o at ho h;simp only[vq,Hx]at h;obtain⟨hd,de,h⟩:=h
  have fin:∀ aT,zp P T Mv G N mvd R db hv ex ops i o σ aT->ql mvd aT.env->vq P T Mv G N mvd R db hv ex ops K (bU ops l) aT->∃ cq,K cq/\Go.Av.iJ (zp P T Mv G N mvd R db hv ex ops) ops (i :: l) σ cq:=fun aT hs hE h1=>by
   obtain⟨cq,hk,hr⟩:=ih aT (fun j hj=>hl j (by simp[hj])) hE h1;exact⟨cq,hk,o,ho,aT,hs,hr⟩
  split at h
  .rename_i hb;split at h
   .rename_i c y hw;obtain⟨hc,h⟩:=h;exact fin _ ⟨hd,de,jM,.inl ⟨hb,c,y,hw,hc,rfl⟩⟩ (jM.put (kT.d _ _) _) h
   .exact h.elim
  .rename_i hb
   have hb:db.contains i=false:=by simpa using hb
   split at h
   .rename_i jO;split at h
    .rename_i c hc;split at h
     .rename_i g xs ht;obtain⟨y,H2,h0,h1,h2,h3,h⟩:=h;exact fin _ ⟨hd,de,jM,.inr (.inl ⟨hb,jO,c,g,xs,y,H2,hc,ht,h0,h1,h2,h3,rfl⟩)⟩ (jM.put h3 _) h
     .exact h.elim
    .exact h.elim
   .rename_i jO
    have jO:hv.contains i=false:=by simpa using jO
    obtain⟨hk,oY,h⟩:=h;split at h
    .rename_i c hc;obtain⟨y,g,ds,ht,hp,hU,h⟩:=h;refine fin _ ⟨hd,de,jM,.inr (.inr ⟨hb,jO,hk,oY,.d y,σ.H,?_,kT.d _ _,rfl⟩)⟩ (jM.put (kT.d _ _) _) h;unfold Ex;simp only[hc];exact⟨y,⟨g,_,ht,.inl ⟨ds,rfl,hp⟩⟩,rfl,trivial⟩
    .rename_i hc;unfold DR at h;split at h
     .rename_i hw;split at h
      .rename_i c x aT h1;obtain⟨cK,hU,h⟩:=h;have he:=BA hk h1;obtain⟨e,H⟩:=σ;obtain⟨e1,H1⟩:=aT;dsimp only at he;subst he;refine fin _ ⟨hd,de,jM,.inr (.inr ⟨hb,jO,hk,oY,x,H1,?_,hU,rfl⟩)⟩ (jM.put hU _) h;unfold Ex;simp only[hc];rw[if_pos hw];exact⟨c,h1,cK⟩
      .exact h.elim
     .rename_i hw;split at h
      .rename_i c x h1;obtain⟨cK,hU,h⟩:=h;refine fin _ ⟨hd,de,jM,.inr (.inr ⟨hb,jO,hk,oY,x,σ.H,?_,hU,rfl⟩)⟩ (jM.put hU _) h;unfold Ex;simp only[hc];rw[if_neg hw];exact⟨c,h1,cK,trivial⟩
      .exact h.elim
theorem Vr (hg:Good P T) (hm:P.follows .mixedOrders=true) (mvd R db hv:List Nat) (ex:List (Nat×AV)) (ord:List Nat) {id:Nat} (bX:oH (EL R db hv ex ops) ord ops=true) (jM:ql mvd σ.env) {Q:Exit->St->Prop} (h:vq P T Mv G N mvd R db hv ex ops (fun aG=>Q .normal aG) (bU ops ord) σ):AW P Mv X G N (.region id ops true) Q σ:=
 vA hm (Wh hg mvd R db hv ex) (Wi mvd R db hv ex) ord bX fun aH=>ag6 ord σ aH jM h
theorem Vo (hg:Good P T) (hm:P.follows .mixedOrders=true) (mvd R db hv:List Nat) (ex:List (Nat×AV)) (ord:List Nat) (l ns:List Nat) (hM:∀ r,ns.contains r=false->Mv r) {id:Nat} (bX:oH (EL R db hv ex ops) ord ops=true) (jM:ql mvd σ.env) {y:Code} {Q:Exit->St->Prop}
  (h:∀ K:St->Prop,(∀ τ:St,AW P Mv X G N y Q (τ.norm l ns)->K τ)->vq P T Mv G N mvd R db hv ex ops K (bU ops ord) σ):AW P Mv X G N (.seq (.region id ops true) y) Q σ:=
 sK (Vr hg hm mvd R db hv ex ord bX jM (h _ fun _ h=>h.norm l ns hM))
theorem Ef {mvd R db hv:List Nat} {ex:List (Nat×AV)} {K:St->Prop} {i:Nat} {l:List Nat} {o:Oper} (ho:ops[i]? = some o) (h:∀ K':St->Prop,(∀ τ,vq P T Mv G N mvd R db hv ex ops K (bU ops l) τ->K' τ)->Hx P T Mv G N mvd R db hv ex ops i o σ K'):vq P T Mv G N mvd R db hv ex ops K (bU ops (i :: l)) σ:=by
 have:bU ops (i :: l)=(i,o) :: bU ops l:=by simp[bU,ho]
 rw[this];exact h _ fun _ h=>h
theorem ag5 {mvd R db hv:List Nat} {ex:List (Nat×AV)} {K:St->Prop} (h:K σ):vq P T Mv G N mvd R db hv ex ops K (bU ops []) σ:=h
end
attribute [simp] Hx
attribute [simp] Be
end Go.Av
namespace Go.Proofs.YtoohljflflnbeaaGreatDoor
open Go.Av
theorem SN (l:List Int):(∀ el∈l.map (fun n=>[D.v (.int .i64 n)]),el.length=1)=True:=eq_true ak
theorem one_one (l:List Int):(∀ el∈l.map (fun n=>[D.v (.int .i64 n)]),∀ c∈el,c.one=true)=True:=eq_true (by simp[D.one])
theorem adb (l:List Bool):(∀ el∈l.map (fun n=>[D.v (.bool n)]),el.length=1)=True:=eq_true fun el h=>by obtain⟨b,_,rfl⟩:=akh.1 h;rfl
theorem ade (l:List Bool):(∀ el∈l.map (fun n=>[D.v (.bool n)]),∀ c∈el,c.one=true)=True:=eq_true fun el h c hc=>by
 obtain⟨b,_,rfl⟩:=akh.1 h;obtain rfl:=aj3.1 hc;rfl
theorem WW (G:ay) (l:List Int) (h:l.length < 2^40):MC prog G [] 117 [.d (fI l)] (aq []) (.own 702 0 l.length) (aq [(702,.sl 3 1 (l.map fun n=>[.v (.int .i64 n)]))]):=by
 have kH:(l.map fun n=>[D.v (.int .i64 n)]).length=l.length:=ak
 have q1:=SN l;have q2:=one_one l;simp only[fI];rw[<- kH];rw[<- kH]at h;generalize (l.map fun n=>[D.v (.int .i64 n)])=L at *;refine MC.aQ (aC _) func117 rfl rfl (rs:=[.tmp 2]) results117 (by simp[ntmps117]) rfl fun X=>?_;simp only[ntmps117];refine AW.Mb 0 rfl ?_ fun hl=>?_
 .refine aB [0] [] ?_;refine ag fun K1 aF=>aB [0,4] [] ?_;refine r4 false rfl (fun hc=>by cases hc) (fun hc=>?_);refine ar (aF _ ?_);have qf:=(Aq @q1 @q2);refine au [2] [5] ?_;refine AW.imp (aM.dI (r:=5) (r':=702) bF ak) ?_;refine AW.st (by simp[ik,ij,Go.Av.dI,qU];rfl) ?_;exact gn
 .subst hl;refine aB [0] [] ?_;refine ag fun K1 aF=>aB [0,4] [] ?_;refine r4 true rfl (fun hc=>?_) (fun hc=>by cases hc);refine aB [2] [] ?_;refine AW.imp (aM.nU 2 702 3 1 rfl rfl) ?_;refine AW.st bB ?_;exact gn
theorem WV (G:ay) (l:List Bool) (h:l.length < 2^40):MC prog G [] 163 [.d (mG l)] (aq []) (.own 701 0 l.length) (aq [(701,.sl 4 1 (l.map fun n=>[.v (.bool n)]))]):=by
 have kH:(l.map fun n=>[D.v (.bool n)]).length=l.length:=ak
 have q1:=adb l;have q2:=ade l;simp only[mG];rw[<- kH];rw[<- kH]at h;generalize (l.map fun n=>[D.v (.bool n)])=L at *;refine MC.aQ (aC _) func163 rfl rfl (rs:=[.tmp 2]) results163 (by simp[ntmps163]) rfl fun X=>?_;simp only[ntmps163];refine AW.Mb 0 rfl ?_ fun hl=>?_
 .refine aB [0] [] ?_;refine ag fun K1 aF=>aB [0,4] [] ?_;refine r4 false rfl (fun hc=>by cases hc) (fun hc=>?_);refine ar (aF _ ?_);have qf:=(Aq @q1 @q2);refine au [2] [5] ?_;refine AW.imp (aM.dI (r:=5) (r':=701) bF ak) ?_;refine AW.st (by simp[ik,ij,Go.Av.dI,qU];rfl) ?_;exact gn
 .subst hl;refine aB [0] [] ?_;refine ag fun K1 aF=>aB [0,4] [] ?_;refine r4 true rfl (fun hc=>?_) (fun hc=>by cases hc);refine aB [2] [] ?_;refine AW.imp (aM.nU 2 701 4 1 rfl rfl) ?_;refine AW.st bB ?_;exact gn
theorem DC {s:Tx} (h:jv s=true):s≠[]:=(acR h).1
theorem Io {S1 S2:Tx->Prop}:∀ (n:Nat) (e:Ex),SizeOf.sizeOf e<=n->iL e->(∀ s∈dv true e,S1 s)->(∀ s∈dv false e,S2 s)->jc S1 S2 e
 | 0,e,hn,_,_,_=>by cases e<;>simp at hn
 | n+1,e,hn,hw,h1,h2=>by
  have many:∀ l:List Ex,(∀ x∈l,SizeOf.sizeOf x<=n)->(∀ s∈gb true l,S1 s)->(∀ s∈gb false l,S2 s)->(∀ x∈l,iL x)->tZ S1 S2 l:=by
   intro l
   induction l with
   | nil=>intro _ _ _ _;rw[tZ];trivial
   | cons x l ih=>
    intro hs h1 h2 h3;simp only[gb,ajR]at h1 h2;rw[tZ];exact⟨Io n x (hs x ak) (h3 x ak) (fun s h=>h1 s (.inl h)) (fun s h=>h2 s (.inl h)),ih (fun y hy=>hs y (by simp[hy])) (fun s h=>h1 s (.inr h)) (fun s h=>h2 s (.inr h)) (fun y hy=>h3 y (by simp[hy]))⟩
  cases e with
  | iD b=>rw[jc];trivial
  | bit s=>
   rw[jc];rw[iL]at hw;exact h1 s (by simp[dv,dK,ie,DC hw])
  | jA s=>
   rw[jc];rw[iL]at hw;exact⟨h1 s (by simp[dv,dK,ie,DC hw]),h2 s (by simp[dv,dK,ie,DC hw])⟩
  | jm s=>
   rw[jc];rw[iL]at hw;exact⟨h1 s (by simp[dv,dK,ie,DC hw]),h2 s (by simp[dv,dK,ie,DC hw])⟩
  | not x=>
   rw[jc];rw[iL]at hw;exact Io n x (by simp at hn;omega) hw (fun s h=>h1 s (by rw[dv];exact h)) (fun s h=>h2 s (by rw[dv];exact h))
  | and l=>
   rw[jc];rw[iL]at hw;exact many l (fun x hx=>by have:=aka hx;simp only[Ex.and.sizeOf_spec]at hn;omega) (fun s h=>h1 s (by rw[dv];exact h)) (fun s h=>h2 s (by rw[dv];exact h)) ((xv l).1 hw.2)
  | or l=>
   rw[jc];rw[iL]at hw;exact many l (fun x hx=>by have:=aka hx;simp only[Ex.or.sizeOf_spec]at hn;omega) (fun s h=>h1 s (by rw[dv];exact h)) (fun s h=>h2 s (by rw[dv];exact h)) ((xv l).1 hw.2)
theorem We {S1 S2:Tx->Prop} {e:Ex} (hw:iL e) (h1:∀ s∈dv true e,S1 s) (h2:∀ s∈dv false e,S2 s):jc S1 S2 e:=Io _ e (ajJ _) hw h1 h2
theorem agw (p:aS) (s t0:cL) {n:Nat} (h:n < p.ax.length):(p.ax.take (n+1)).foldl (mz p s) t0=mz p s ((p.ax.take n).foldl (mz p s) t0) p.ax[n]:=by
 rw[ajO h,List.foldl_append];rfl
theorem Ug {p:aS} (hc:c8 p=none) (hk:∀ r∈p.ax,qj r) {r:jd} (hr:r∈p.ax):∃ e,r.cond=some e/\jc (fun nm=>¬ cw p nm < 0) (fun nm=>¬ cw p nm < 0) e/\bE e<=2^28:=by
 obtain⟨e,he,hw,_,hb⟩:=hk r hr;obtain⟨_,_,e',kg,aO⟩:=xy hc r hr;rw[he]at kg;obtain rfl:=AI kg;refine⟨e,he,We hw (fun s hs=>aO s (DD.2 hs)) (fun s hs=>aO s (Sv (DD.2 hs))),aa⟩
theorem Xw (G:ay) (p:aS) (bn:c8 p=none) (hk:∀ r∈p.ax,qj r) (s:cL) (hs:fV p s) (cH:List Bool) (aO:cH.length=(bA p).length):aD prog G 85 [gu p,vJ s,mG cH] (vJ (rm p s cH)):=by
 have hg:=iB bn;have iF:=hg.names;have u9:=hg.ax;have eZ:=hs.l1;have fi:=hs.l2;have gZ:=R5 G p aa 1;have Ai:=WV G s.is aa;have jg:=WW G s.ct aa;have cu:=fun x=>yQ G p aa x;have CE:=yP p.names 1 p.names.length;obtain⟨t0,qJ,Cd⟩:∃ t0,t0=(⟨nK (bA p) cH s.is (bA p).length,s.ct⟩:cL)/\fV p t0:=⟨_,rfl,(y3 cH hs _ (ajJ _)).1⟩;obtain⟨T,hT⟩:∃ T:Nat->cL,∀ n,T n=(p.ax.take n).foldl (mz p s) t0:=⟨_,fun _=>rfl⟩;have Zo:T 0=t0:=hT 0
 have Zr:∀ n (h:n < p.ax.length),T (n+1)=mz p s (T n) p.ax[n]:=fun n h=>by rw[hT,hT,agw p s t0 h]
 have FG:T p.ax.length=rm p s cH:=by rw[hT,akH,qJ];rfl
 have Ab:∀ n,fV p (T n):=fun n=>by rw[hT];exact (Ht bn s _ (fun r hr=>ajS hr) Cd).1
 have im:∀ n (h:n < p.ax.length),∃ e,p.ax[n].cond=some e/\aD prog G 67 [dE e,.fn (.func 164) [.ip (rh (T n)),.ip (gX p)],.fn (.func 165) [.ip (rh s),.ip (gX p)]] (.v (.bool (eN (gW p (T n).is) (gW p s.is) e))):=fun n h=>by
  obtain⟨e,he,ha,hb⟩:=Ug bn hk (By h);exact⟨e,he,X9 G _ _ _ _ _ _ _ _ (Wc G p aa (T n) (Ab n).l1) (Wd G p aa s eZ) e ha hb⟩
 clear hT;rw[<- FG];have o4:∀ k,k<=(bA p).length->(nK (bA p) cH s.is k).length=p.names.length:=fun k hk=>(y3 cH hs k hk).1.l1
 have QK:∀ k (h:k < (bA p).length) (h2:k < cH.length),∃ i,i < p.names.length/\(bA p)[k]=(i:Int)/\nK (bA p) cH s.is (k+1)=(nK (bA p) cH s.is k).set i cH[k]:=fun k h h2=>by
  obtain⟨i,hi,he,_⟩:=AP h;refine⟨i,hi,he,?_⟩;rw[MD h he];congr 1;exact dV h2
 have F8:nK (bA p) cH s.is 0=s.is:=rfl;have fE:t0=⟨nK (bA p) cH s.is (bA p).length,s.ct⟩:=qJ;clear qJ;generalize Zc:nK (bA p) cH s.is=PI at o4 QK F8 fE;clear Zc;have oX:jQ p.names 1 p.names.length=bA p:=rfl;rw[oX]at gZ CE;generalize bA p=KI at *;simp only[gu,gX,cE,fg,mG,fI,rh]at gZ Ai jg cu im;simp only[gu,gX,cE,fg,vJ,rh,mG,fI]
 have oT:(p.names.map bw).length=p.names.length:=ak
 have kc:∀ i (h:i < p.names.length),(p.names.map bw)[i]? = some [.v (.string (bs p.names[i].name)),.v (.int .i64 p.names[i].kind),.v (.int .i64 p.names[i].count)]:=fun i h=>by simp[h,bw,dS]
 have eK:(p.ax.map cU).length=p.ax.length:=ak
 have uL:∀ i (h:i < p.ax.length),(p.ax.map cU)[i]? = some (cU p.ax[i]):=fun i h=>by simp[h]
 generalize p.names.map bw=NN at *;generalize p.ax.map cU=RR at *;refine aD.aQ (aC _) func85 rfl rfl (rs:=[.cell 6 88]) results85 (by simp[ntmps85]) fun X=>?_;simp only[ntmps85,List.map];have fw:=@alv;refine ae fw [2,3,4,6] [3,4,6] ?_;refine dT fw 3 ?_;refine dT fw 4 ?_;refine Vo (aC _) ah ([]) ([7]) ([]) ([2,5]) ([(1,.d (.ip [.sl none (s.is.map fun b=>[.v (.bool b)]),.sl none (s.ct.map fun n=>[.v (.int .i64 n)])])),(4,.d (.ip [.sl none (s.ct.map fun n=>[.v (.int .i64 n)])]))]) (List.range 9) [2,3,4,6,7] [6,7,701,702] aN ah (by simp[ql]) fun K' ao=>?_;(repeat refine Ef rfl fun K2 aw=>?_;simp[ab];(repeat refine⟨aa,?_⟩);refine aw _ ?_;clear aw K2);refine Ef rfl fun K2 aw=>?_;simp[ab];refine Ct.mc (Ai) (by simp[ab]) (by simp[ab]) (by simp[ab]) (by simp[ab]) (by simp[ab]) (by simp[ab]) (by simp[ab]) (by simp[j0,ab]) ?_;simp[ab];refine aw _ ?_;clear aw K2;(repeat refine Ef rfl fun K2 aw=>?_;simp[ab];(repeat refine⟨aa,?_⟩);refine aw _ ?_;clear aw K2);refine Ef rfl fun K2 aw=>?_;simp[ab];refine Ct.mc (jg) (by simp[ab]) (by simp[ab]) (by simp[ab]) (by simp[ab]) (by simp[ab]) (by simp[ab]) (by simp[ab]) (by simp[j0,ab]) ?_;simp[ab];refine aw _ ?_;clear aw K2;(repeat refine Ef rfl fun K2 aw=>?_;simp[ab];(repeat refine⟨aa,?_⟩);refine aw _ ?_;clear aw K2);refine ag5 (ao _ ?_);refine AW.st (by simp[ab];rfl) ?_;refine ag fun K1 aF=>br fw gZ [2,3,4,6,7,24,25,26] [6,7,701,702] ?_;refine cG (S:=Nat) (fun k=>k<=KI.length) (fun k=>⟨bp [(2,.d (.sl none (cH.map fun b=>[.v (.bool b)]))),(3,.d (.ip [.sl none NN,.sl none RR])),(4,.d (.ip [.sl none (s.is.map fun b=>[.v (.bool b)]),.sl none (s.ct.map fun n=>[.v (.int .i64 n)])])),(6,.ref 6 0 0),(7,.ref 7 0 0),(24,.d (.sl none (KI.map fun x=>[.v (.int .i64 x)]))),(25,int KI.length),(26,int k)],aq [(6,.box 88 [.d (.sl (some false) []),.d (.sl (some false) [])]),(7,.box 88 [.own 701 0 (PI k).length,.own 702 0 s.ct.length]),(701,.sl 4 1 ((PI k).map fun b=>[.v (.bool b)])),(702,.sl 3 1 (s.ct.map fun n=>[.v (.int .i64 n)]))]⟩) (fun k=>KI.length - k) 0 ?_ aa ?_
 .rw[F8];refine bt fw
 .intro k mR;have pF:=o4 k mR;have FC:=QK k;generalize n9:PI k=P at pF FC ⊢;refine ae fw [2,3,4,6,7,24,25,26,27] [6,7,701,702] ?_;refine ag fun K2 aw=>fG (b:=k < KI.length) (by simp[D.le,D.le.go,aR,ab]) (fun hc=>?_) (fun hc=>?_)
  .have aH:=hc
   have fP:k < cH.length:=aa
   obtain⟨i,hi,Jp,Zh⟩:=FC aH fP
   have gJ:i < P.length:=aa
   refine ar (aw _ (ag fun K3 aZ=>bg ?_));have qf:=(Aq fw (Aq @aH @Jp));refine au [2,3,4,6,7,8,9,24,25,26] [6,7,701,702] ?_;refine sJ (aC _) ah [(1,7),(6,999),(7,701),(8,701)] ah fun K' ao=>?_;(repeat refine jC fun Kq af=>?_;simp[ab,gJ,fP];(repeat refine⟨aa,?_⟩);refine af _ ?_);refine kN (ao _ ?_);refine aZ _ (AW.norm [2,3,4,6,7,24,25,26] [6,7,701,702] aN (AW.st (by simp[ab,gJ,fP];rfl) ?_));refine cD fw ?_;(try simp only[aV,aX]);refine bh.mk (k+1) aa aa ?_;rw[Zh];refine aM.dk aN (by simp[ab,ajV]) (by simp[ab,ajV])
  .have kX:k=KI.length:=aa
   refine b5 (aF _ ?_)
   have aaY:t0=⟨P,s.ct⟩:=by rw[fE,<- kX,n9]
   refine ae fw [3,4,6,7,10] [6,7,701,702] ?_;refine ae fw [3,6,7,10,11] [6,7,701,702] ?_;refine ag fun K4 cr=>ae fw [3,6,7,10,11,43,44,45] [6,7,701,702] ?_;refine cG (S:=Nat) (fun n=>n<=p.ax.length) (fun n=>⟨bp [(3,.d (.ip [.sl none NN,.sl none RR])),(6,.ref 6 0 0),(7,.ref 7 0 0),(10,.fn (.func 164) [.ref 7 0 0,.d (.ip [.sl none NN,.sl none RR])]),(11,.d (.fn (.func 165) [.ip [.sl none (s.is.map fun b=>[.v (.bool b)]),.sl none (s.ct.map fun n=>[.v (.int .i64 n)])],.ip [.sl none NN,.sl none RR]])),(43,.d (.sl none RR)),(44,int RR.length),(45,int n)],aq [(6,.box 88 [.d (.sl (some false) []),.d (.sl (some false) [])]),(7,.box 88 [.own 701 0 (T n).is.length,.own 702 0 (T n).ct.length]),(701,.sl 4 1 ((T n).is.map fun b=>[.v (.bool b)])),(702,.sl 3 1 ((T n).ct.map fun n=>[.v (.int .i64 n)]))]⟩) (fun n=>p.ax.length - n) 0 ?_ aa ?_
   .rw[Zo,aaY];refine bt fw
   .intro n hn;have Ad:=Zr n;have s6:=Ab n;have Ag:=im n;generalize Zq:T n=tn at Ad s6 Ag ⊢;obtain⟨I,C⟩:=tn;have pE:=s6.l1;have YQ:=s6.l2;have AG:=abg bn s6;dsimp only at pE YQ AG Ag ⊢;refine ae fw [3,6,7,10,11,43,44,45,46] [6,7,701,702] ?_;refine ag fun K5 cg=>?_;by_cases aH:n < p.ax.length
    .have eD:n < RR.length:=aa
     have ot:(n:Int) < (RR.length:Int):=aa
     refine b8 (by simp[eD]) (ar (cg _ ?_));refine ag fun K6 eB=>bg ?_;obtain⟨e,he,aW⟩:=Ag aH;obtain⟨i,hi,o0,_,lQ⟩:=Hs bn (By aH);obtain⟨wo,_⟩:=xy bn _ (By aH);have bH:=Ad aH;have jK:=uL n aH;have mT:=cu p.ax[n].name;rw[o0]at mT;unfold mz at bH;simp only[o0,ajI,lQ,he,sU]at bH;unfold cU at jK;rw[he]at jK;generalize p.ax[n]=r at jK mT wo bH;obtain⟨rk,rn,rc⟩:=r;dsimp only at jK mT wo bH;generalize eN (gW p I) (gW p s.is) e=yes at aW bH;obtain⟨E0,ev,Qb⟩:=kW e;rw[show dC (some e)=dE e from rfl,Qb]at jK;rw[Qb]at aW;simp only[dS]at mT jK;have xP:=kc i hi
     have gx:i < I.length:=aa
     have gJ:i < C.length:=aa
     have mO:i < NN.length:=aa
     have lP:NN[i]=[.v (.string (bs p.names[i].name)),.v (.int .i64 p.names[i].kind),.v (.int .i64 p.names[i].count)]:=by
      rw[AT mO]at xP;exact AI xP
     have FE:RR[n]=[.v (.int .i64 rk),.v (.string (bs rn)),.cf E0 ev]:=by
      rw[AT eD]at jK;exact AI jK
     have dw:=ags G ⟨I,C⟩ i p.names[i].count yes gx gJ (fun x hx=>by have:=AG x hx;omega);generalize p.names[i].count=m at lP bH dw;generalize p.names[i].name=nmi at lP;generalize p.names[i].kind=kdi at lP;have qf:=(Aq fw (Aq @eD (Aq @ot @FE)));refine au [3,6,7,10,11,13,43,44,45] [6,7,701,702,13] ?_;refine dT fw 13 ?_;refine br fw mT [3,6,7,10,11,13,14,43,44,45] [6,7,701,702] ?_;refine rg [3,6,7,10,11,13,14,15,43,44,45] [6,7,701,702] aN fun K' ao=>?_;(repeat refine aK fun Kq af=>?_;simp[ab];(repeat refine⟨aa,?_⟩);refine af _ ?_);refine aK fun Kq af=>?_;simp[ab];refine cX.sB (aW) bB (by first | exact D.bR _ | simp[aR,ajN,ajG,D.le,D.le.go,D.le_refl,D.bR,ab]) (by simp[D.scalar]) ?_;refine af _ ?_;simp only[aL,dL];(repeat refine aK fun Kq af=>?_;simp[ab];(repeat refine⟨aa,?_⟩);refine af _ ?_);refine bJ (ao _ (AW.st (by simp[ab];rfl) ?_));refine ae fw [3,6,7,10,11,14,15,43,44,45,59] [6,7,701,702] ?_;refine bg ?_
     have CJ:rk=1\/rk=2\/rk=3\/rk=4\/rk=5\/rk=6:=aa
     rcases CJ with rfl | rfl | rfl | rfl | rfl | rfl
     .have bH:=bH;simp at bH;refine ae fw [3,6,7,10,11,14,15,43,44,45,59,60] [6,7,701,702] ?_;refine aJ ?_;have qf:=(Aq fw @gx);refine e6 eB [3,6,7,10,11,43,44,45] [6,7,701,702] ?_;refine cD fw ?_;(try simp only[aV,aX]);refine bh.mk (n+1) aa aa ?_;rw[bH];refine aM.dk aN (by simp[ab,ajV]) (by simp[ab,ajV])
     .have bH:=bH;rw[dV gx]at bH;refine ae fw [3,6,7,10,11,14,15,43,44,45,59,60] [6,7,701,702] ?_;refine al (ae fw [3,6,7,10,11,14,15,43,44,45,59,67] [6,7,701,702] ?_);refine aJ ?_
      cases oS:I[i] with
      | true=>
       rw[oS]at bH;simp at bH;refine sJ (aC _) ah [(1,7),(4,7),(6,701),(7,701),(11,701),(12,701)] ah fun K' ao=>?_;(repeat refine jC fun Kq af=>?_;simp[ab,gx,oS];(repeat refine⟨aa,?_⟩);refine af _ ?_);refine kN (ao _ ?_);refine eB _ (AW.norm [3,6,7,10,11,43,44,45] [6,7,701,702] aN (AW.st (by simp[ab,gx,oS];rfl) ?_));refine cD fw ?_;(try simp only[aV,aX]);refine bh.mk (n+1) aa aa ?_;rw[bH];refine aM.dk aN (by simp[ab,ajV]) (by simp[ab,ajV])
      | false=>
       rw[oS]at bH;simp at bH;refine sJ (aC _) ah [(1,7),(4,7),(6,701),(7,701),(11,701),(12,701)] ah fun K' ao=>?_;(repeat refine jC fun Kq af=>?_;simp[ab,gx,oS];(repeat refine⟨aa,?_⟩);refine af _ ?_);refine kN (ao _ ?_);refine eB _ (AW.norm [3,6,7,10,11,43,44,45] [6,7,701,702] aN (AW.st (by simp[ab,gx,oS];rfl) ?_));refine cD fw ?_;(try simp only[aV,aX]);refine bh.mk (n+1) aa aa ?_;rw[bH];refine aM.dk aN (by simp[ab,ajV]) (by simp[ab,ajV])
     .have bH:=bH;rw[dV gx]at bH;refine ae fw [3,6,7,10,11,14,15,43,44,45,59,60] [6,7,701,702] ?_;refine al (ae fw [3,6,7,10,11,14,15,43,44,45,59,67] [6,7,701,702] ?_);refine al (ae fw [3,6,7,10,11,14,15,43,44,45,59,81] [6,7,701,702] ?_);refine aJ ?_
      cases oS:I[i] with
      | true=>
       rw[oS]at bH;simp at bH;refine sJ (aC _) ah [(1,7),(4,7),(6,701),(7,701),(12,701),(13,701)] ah fun K' ao=>?_;(repeat refine jC fun Kq af=>?_;simp[ab,gx,oS];(repeat refine⟨aa,?_⟩);refine af _ ?_);refine kN (ao _ ?_);refine eB _ (AW.norm [3,6,7,10,11,43,44,45] [6,7,701,702] aN (AW.st (by simp[ab,gx,oS];rfl) ?_));refine cD fw ?_;(try simp only[aV,aX]);refine bh.mk (n+1) aa aa ?_;rw[bH];refine aM.dk aN (by simp[ab,ajV]) (by simp[ab,ajV])
      | false=>
       rw[oS]at bH;simp at bH;refine sJ (aC _) ah [(1,7),(4,7),(6,701),(7,701),(12,701),(13,701)] ah fun K' ao=>?_;(repeat refine jC fun Kq af=>?_;simp[ab,gx,oS];(repeat refine⟨aa,?_⟩);refine af _ ?_);refine kN (ao _ ?_);refine eB _ (AW.norm [3,6,7,10,11,43,44,45] [6,7,701,702] aN (AW.st (by simp[ab,gx,oS];rfl) ?_));refine cD fw ?_;(try simp only[aV,aX]);refine bh.mk (n+1) aa aa ?_;rw[bH];refine aM.dk aN (by simp[ab,ajV]) (by simp[ab,ajV])
     .have bH:=bH;simp at bH;refine ae fw [3,6,7,10,11,14,15,43,44,45,59,60] [6,7,701,702] ?_;refine al (ae fw [3,6,7,10,11,14,15,43,44,45,59,67] [6,7,701,702] ?_);refine al (ae fw [3,6,7,10,11,14,15,43,44,45,59,81] [6,7,701,702] ?_);refine al (ae fw [3,6,7,10,11,14,15,43,44,45,59,96] [6,7,701,702] ?_);refine aJ ?_;obtain⟨I2,C2,Jn,zX,YO⟩:∃ I2 C2,iJ ⟨I,C⟩ i m yes=⟨I2,C2⟩/\I2.length=I.length/\C2.length=C.length:=⟨_,_,rfl,ak,ak⟩;rw[Jn]at dw bH;simp only[D9,ab]at dw
      have qE:i < I2.length:=aa
      have pM:i < C2.length:=aa
      have qf:=(Aq fw (Aq @mO @lP));refine jW dw [3,6,7,10,11,14,15,43,44,45] [6,7,701,702] ?_;refine ae fw [3,6,7,10,11,14,43,44,45,108] [6,7,701,702] ?_
      cases yes with
      | true=>
       simp only[if_true]at bH;refine al (ar ?_);refine eB _ (AW.norm [3,6,7,10,11,43,44,45] [6,7,701,702] aN (AW.st (by simp[ab];rfl) ?_));refine cD fw ?_;(try simp only[aV,aX]);refine bh.mk (n+1) aa aa ?_;rw[bH];refine aM.dk aN (by simp[ab,ajV]) (by simp[ab,ajV])
      | false=>
       simp only[ajM,if_false,tX]at bH;refine aJ ?_;have qf:=(Aq fw (Aq @qE @pM));refine e6 eB [3,6,7,10,11,43,44,45] [6,7,701,702] ?_;refine cD fw ?_;(try simp only[aV,aX]);refine bh.mk (n+1) aa aa ?_;rw[bH];refine aM.dk aN (by simp[ab,ajV]) (by simp[ab,ajV])
     .have bH:=bH;simp at bH;refine ae fw [3,6,7,10,11,14,15,43,44,45,59,60] [6,7,701,702] ?_;refine al (ae fw [3,6,7,10,11,14,15,43,44,45,59,67] [6,7,701,702] ?_);refine al (ae fw [3,6,7,10,11,14,15,43,44,45,59,81] [6,7,701,702] ?_);refine al (ae fw [3,6,7,10,11,14,15,43,44,45,59,96] [6,7,701,702] ?_);refine al (ae fw [3,6,7,10,11,14,15,43,44,45,59,117] [6,7,701,702] ?_);refine aJ ?_;obtain⟨I2,C2,Jn,zX,YO⟩:∃ I2 C2,iJ ⟨I,C⟩ i m yes=⟨I2,C2⟩/\I2.length=I.length/\C2.length=C.length:=⟨_,_,rfl,ak,ak⟩;rw[Jn]at dw bH;simp only[D9,ab]at dw;refine fH (aC _) fun K' ao=>?_;(repeat refine aK fun Kq af=>?_;simp[ab,mO,lP];(repeat refine⟨aa,?_⟩);refine af _ ?_);refine aK fun Kq af=>?_;simp[ab,mO,lP];refine cX.mc (dw) ?_ ?_ ?_ ?_ ?_<;>simp[ab,mO,lP];refine af _ ?_;(repeat refine aK fun Kq af=>?_;simp[ab,mO,lP];(repeat refine⟨aa,?_⟩);refine af _ ?_);refine bJ (ao _ ?_);refine eB _ (AW.norm [3,6,7,10,11,43,44,45] [6,7,701,702] aN (AW.st (by simp[ab,mO,lP];rfl) ?_));refine cD fw ?_;(try simp only[aV,aX]);refine bh.mk (n+1) aa aa ?_;rw[bH];refine aM.dk aN (by simp[ab,ajV]) (by simp[ab,ajV])
     .have bH:=bH;simp at bH;refine ae fw [3,6,7,10,11,14,15,43,44,45,59,60] [6,7,701,702] ?_;refine al (ae fw [3,6,7,10,11,14,15,43,44,45,59,67] [6,7,701,702] ?_);refine al (ae fw [3,6,7,10,11,14,15,43,44,45,59,81] [6,7,701,702] ?_);refine al (ae fw [3,6,7,10,11,14,15,43,44,45,59,96] [6,7,701,702] ?_);refine al (ae fw [3,6,7,10,11,14,15,43,44,45,59,117] [6,7,701,702] ?_);refine al (ae fw [3,6,7,10,11,14,15,43,44,45,128] [6,7,701,702] ?_);refine aJ (ae fw [3,6,7,10,11,14,43,44,45,130] [6,7,701,702] ?_)
      cases yes with
      | true=>
       simp only[if_true,tX]at bH;refine aJ ?_;have qf:=(Aq fw (Aq @gx @gJ));refine e6 eB [3,6,7,10,11,43,44,45] [6,7,701,702] ?_;refine cD fw ?_;(try simp only[aV,aX]);refine bh.mk (n+1) aa aa ?_;rw[bH];refine aM.dk aN (by simp[ab,ajV]) (by simp[ab,ajV])
      | false=>
       simp only[ajM,if_false]at bH;refine al (ar ?_);refine eB _ (AW.norm [3,6,7,10,11,43,44,45] [6,7,701,702] aN (AW.st (by simp[ab];rfl) ?_));refine cD fw ?_;(try simp only[aV,aX]);refine bh.mk (n+1) aa aa ?_;rw[bH];refine aM.dk aN (by simp[ab,ajV]) (by simp[ab,ajV])
    .have ot:¬ (n:Int) < (RR.length:Int):=aa
     have bf:n=p.ax.length:=aa
     refine b9 (by simp;omega) ?_;refine b5 (cr _ ?_)
     have Ac:T p.ax.length=⟨I,C⟩:=by rw[<- bf];exact Zq
     refine ae fw [6] [6,7,701,702] ?_;exact aU (Aq fw @Ac)
theorem agL {p:aS} (bn:c8 p=none) (hk:∀ r∈p.ax,qj r):Et p:=by
 have hg:=iB bn;have iF:=hg.names;have u9:=hg.ax;refine⟨aa,aa,fun n hn=>?_,fun r hr e he=>?_⟩
 .have:=acO (hg.name n hn).1;omega
 .obtain⟨e',kg,_,_,hb⟩:=hk r hr;rw[he]at kg;obtain rfl:=AI kg;have h1:=Lib.compact_length_le (nM (dv true e));have h2:=tO (dv true e);have h3:=yV true e;refine⟨aa,?_⟩;unfold fj;omega
def Dl (x:Int) (k:Nat):Bool:=pA .and .i64 (x.fdiv (2 ^ (min k IntKind.i64.bits))) 1 == 1
def iu (x:Int):Nat->List Bool
 | 0=>[]
 | k+1=>iu x k ++ [Dl x k]
theorem Dm (x:Int):∀ k,(iu x k).length=k
 | 0=>rfl
 | k+1=>by rw[iu,ajQ,Dm x k];rfl
def y4 (t:Tx):Option aS:=if 1500 < t.length then none else match jT t with
 | (none,p)=>some p
 | (some _,_)=>none
theorem Tn {t:Tx} {p:aS} (h:y4 t=some p):jT t=(none,p):=by
 unfold y4 at h;split at h
 .cases h
 .split at h
  .rename_i q hq;obtain rfl:=AI h;exact hq
  .cases h
def zG:Option aS->D
 | none=>.bz [gu ⟨[],[]⟩,eF ⟨[],[]⟩,.v (.bool false)]
 | some p=>.bz [gu p,eF p,.v (.bool true)]
theorem IP:gu ⟨[],[]⟩ = .agg [.sl none [],.sl none []]:=rfl
theorem IQ:eF ⟨[],[]⟩ = .agg [.sl none [],.sl none []]:=rfl
structure ky where
 nm:Nat
 most:Int
 far:Bool
def ka (p:aS) (n:gV):Bool:=p.ax.any (oU n.name)
def partOf (n:gV) (ed:Bool) (i:Nat):List ky:=if n.kind=2\/(n.kind=1/\ed=true) then [⟨i,2,false⟩] else if n.kind≠1 then [⟨i,n.count+1,true⟩] else []
def gQ (p:aS):Nat->List ky
 | 0=>[]
 | i+1=>gQ p i ++ partOf (p.names.getD i ⟨[],0,0⟩) (ka p (p.names.getD i ⟨[],0,0⟩)) i
def bO (p:aS):List ky:=gQ p p.names.length
theorem Ha {p:aS} {i:Nat} (h:i < p.names.length):gQ p (i+1)=gQ p i ++ partOf p.names[i] (ka p p.names[i]) i:=by
 rw[gQ,dV h]
def bZ:List ky->Int
 | []=>1
 | x :: l=>x.most * bZ l
def sS (x:ky) (s:cL):Int:=if x.far then s.ct.getD x.nm 0 else if s.is.getD x.nm false then 1 else 0
def gF:List ky->cL->Int
 | [],_=>0
 | x :: l,s=>sS x s+x.most * gF l s
def tL (x:ky) (k:Int) (s:cL):cL:=if x.far then ⟨s.is.set x.nm (decide (k=x.most - 1)),s.ct.set x.nm k⟩ else ⟨s.is.set x.nm (decide (k=1)),s.ct⟩
def qX:List ky->Int->cL->cL
 | [],_,s=>s
 | x :: l,n,s=>qX l (n / x.most) (tL x (n % x.most) s)
structure zu (p:aS) (x:ky):Prop where
 lt:x.nm < p.names.length
 fa:x.far=true->3<=p.names[x.nm].kind/\x.most=p.names[x.nm].count+1
 ne:x.far=false->x.most=2/\p.names[x.nm].kind < 3
 m2:2<=x.most
 m8:x.most<=8
theorem ads {n:gV} {ed:Bool} {i:Nat} {x:ky} (h:x∈partOf n ed i):x.nm=i/\((x.far=false/\x.most=2/\(n.kind=2\/(n.kind=1/\ed=true)))\/(x.far=true/\x.most=n.count+1/\n.kind≠1/\n.kind≠2)):=by
 unfold partOf at h;split at h
 .rename_i h1;rw[aj3]at h;subst h;exact⟨rfl,.inl ⟨rfl,rfl,h1⟩⟩
 .rename_i h1;split at h
  .rename_i h2;rw[aj3]at h;subst h;exact⟨rfl,.inr ⟨rfl,rfl,h2,fun e=>h1 (.inl e)⟩⟩
  .cases h
theorem SZ {p:aS} {x:ky}:∀ {n:Nat},n<=p.names.length->(x∈gQ p n↔∃ i,∃ hi:i < p.names.length,i < n/\x∈partOf p.names[i] (ka p p.names[i]) i)
 | 0,_=>by simp[gQ]
 | n+1,hn=>by
  rw[Ha aa,ajR,SZ aa];constructor
  .rintro (⟨i,hi,h1,h2⟩ | h)
   .exact⟨i,hi,aa,h2⟩
   .exact⟨n,aa,aa,h⟩
  .rintro⟨i,hi,h1,h2⟩;by_cases e:i=n
   .subst e;exact .inr h2
   .exact .inl ⟨i,hi,aa,h2⟩
theorem nJ {p:aS} (hg:kS p) {x:ky} (h:x∈bO p):zu p x:=by
 obtain⟨i,hi,_,h2⟩:=(SZ (ajJ _)).1 h;obtain⟨rfl,h3⟩:=ads h2;have h4:=hg.name _ (By hi);have h5:=hg.count _ (By hi)
 rcases h3 with⟨e1,e2,e3⟩ | ⟨e1,e2,e3,e4⟩
 .exact⟨hi,(fun h=>by rw[e1]at h;cases h),fun _=>⟨e2,aa⟩,aa,aa⟩
 .exact⟨hi,fun _=>⟨aa,e2⟩,(fun h=>by rw[e1]at h;cases h),aa,aa⟩
theorem G9 (p:aS):∀ n,(gQ p n).length<=n
 | 0=>ajJ _
 | n+1=>by
  have:=G9 p n;rw[gQ,ajQ];unfold partOf;split<;>(try split)<;>simp<;>omega
theorem oJ {l:List ky} (h:∀ x∈l,2<=x.most):0 < bZ l:=by
 induction l with
 | nil=>decide
 | cons x l ih=>
  have h1:=ih fun y hy=>h y (by simp[hy]);have h2:=h x ak;exact Int.mul_pos aa h1
theorem DW:∀ (a b:List ky),bZ (a ++ b)=bZ a * bZ b
 | [],b=>by simp[bZ]
 | x :: a,b=>by rw[akF,bZ,bZ,DW a b,Int.mul_assoc]
theorem adW {l:List ky} {k:Nat} (h:k < l.length):bZ (l.take (k+1))=bZ (l.take k) * l[k].most:=by
 rw[ajO h,DW];simp[bZ]
theorem adV {l:List ky} (h:∀ x∈l,2<=x.most):∀ k,bZ (l.take k)<=bZ l:=by
 intro k
 have e:bZ l=bZ (l.take k) * bZ (l.drop k):=by rw[<- DW,ale]
 have h1:0 < bZ (l.take k):=oJ fun x hx=>h x (ajS hx);have h2:0 < bZ (l.drop k):=oJ fun x hx=>h x (aks hx);rw[e];have:=akC (show (1:Int)<=bZ (l.drop k) by omega) (ak6 h1);omega
theorem IV {p:aS} {s:cL} (hs:fV p s) {x:ky} (hx:zu p x):0<=sS x s/\sS x s < x.most:=by
 unfold sS
 cases hf:x.far with
 | true=>
  have h1:=hs.lo x.nm;have h2:=hs.hi x.nm hx.lt;have h3:=(hx.fa hf).2;simp only[if_true];omega
 | false=>
  have:=(hx.ne hf).1;simp only[ajM,if_false];split<;>omega
theorem G1 {l:List ky} {s:cL} (h:∀ x∈l,0<=sS x s/\sS x s < x.most):0<=gF l s/\gF l s < bZ l:=by
 induction l with
 | nil=>exact⟨als 0,(by decide:(0:Int) < 1)⟩
 | cons x l ih=>
  have h1:=ih fun y hy=>h y (by simp[hy]);have h2:=h x ak;rw[gF,bZ];have h3:0<=x.most * gF l s:=alr aa h1.1;have h4:x.most * (gF l s+1)<=x.most * bZ l:=akC aa aa;rw[Int.mul_add,Int.mul_one]at h4;omega
def pt (p:aS) (n:Int):cL:=qX (bO p) n (mC p)
theorem ad0 {p:aS} {x:ky} (hx:zu p x) {s:cL} (hs:fV p s) {d:Int} (h0:0<=d) (h1:d < x.most):fV p (tL x d s):=by
 have aH:=hx.lt;unfold tL
 cases hf:x.far with
 | false=>
  simp only[ajM,if_false];exact D2 hs aH (hx.ne hf).2 _
 | true=>
  have hmo:=(hx.fa hf).2;simp only[if_true];refine⟨by simp[hs.l1],by simp[hs.l2],fun k=>?_,fun k hk=>?_,fun k hk h3=>?_⟩
  .show 0<=(s.ct.set x.nm d).getD k 0;by_cases e:x.nm=k
   .subst e;rw[kb (by rw[hs.l2];exact aH)];exact h0
   .rw[gw e];exact hs.lo k
  .show (s.ct.set x.nm d).getD k 0<=_;by_cases e:x.nm=k
   .subst e;rw[kb (by rw[hs.l2];exact aH)];omega
   .rw[gw e];exact hs.hi k hk
  .show (s.is.set x.nm _).getD k false=decide ((s.ct.set x.nm d).getD k 0=_);by_cases e:x.nm=k
   .subst e;rw[kb (by rw[hs.l1];exact aH),kb (by rw[hs.l2];exact aH)];congr 1;exact propext ⟨fun h=>aa,fun h=>aa⟩
   .rw[gw e,gw e];exact hs.at' k hk h3
theorem Uy {p:aS}:∀ {l:List ky} {n:Int} {s:cL},(∀ x∈l,zu p x)->fV p s->fV p (qX l n s)
 | [],_,_,_,hs=>hs
 | x :: l,n,s,hl,hs=>by
  have hx:=hl x ak;have:=hx.m2;rw[qX];exact Uy (fun y hy=>hl y (by simp[hy])) (ad0 hx hs (Int.emod_nonneg _ aa) (Int.emod_lt_of_pos _ aa))
theorem Br {p:aS} (hc:c8 p=none) (n:Int):fV p (pt p n):=Uy (fun _ hx=>nJ (iB hc) hx) (agV (iB hc))
theorem ac1 {p:aS} (hc:c8 p=none) {s:cL} (hs:fV p s):0<=gF (bO p) s/\gF (bO p) s < bZ (bO p):=
 G1 fun _ hx=>IV hs (nJ (iB hc) hx)
theorem I9 {α:Type} {d:α}:∀ {a b:List α},a.length=b.length->(∀ i,i < a.length->a.getD i d=b.getD i d)->a=b:=fun {a b} hl h=>by
 refine alo hl fun i h1 h2=>?_;have:=h i h1
 rwa [dV h1,dV h2]at this
def p8 (p:aS) (m:Nat) (s:Nat):List Int:=(List.range (2 ^ m)).map fun i:Nat=>gF (bO p) (rm p (pt p s) (iu (i:Int) m))
def bl (p:aS):List (List Int):=(List.range (bZ (bO p)).toNat).map (p8 p (bA p).length)
theorem sC (p:aS):(bl p).length=(bZ (bO p)).toNat:=by simp[bl]
theorem y6 (p:aS) (m s:Nat):(p8 p m s).length=2 ^ m:=by simp[p8]
theorem DH {p:aS} {s:Nat} (h:s < (bl p).length):(bl p)[s]=p8 p (bA p).length s:=by simp[bl]
theorem agi {p:aS} {m s i:Nat} (h:i < (p8 p m s).length):(p8 p m s)[i]=gF (bO p) (rm p (pt p s) (iu i m)):=by simp[p8]
theorem agj {p:aS} (hc:c8 p=none) {m s:Nat} {x:Int} (h:x∈p8 p m s):0<=x/\x < bZ (bO p):=by
 obtain⟨i,_,rfl⟩:=akh.1 h;exact ac1 hc (IW hc (Br hc _) _).1
structure nr (NX:List (List Int)):Prop where
 pos:0 < NX.length
 mem:∀ l∈NX,∀ t∈l,0<=t/\t < NX.length
structure np (NX:List (List Int)) (F:List Int):Prop where
 len:F.length=NX.length
 zero:F.getD 0 0=0
 one:∀ t,t < NX.length->F.getD t 0=0->t=0
 lo:∀ s,s < NX.length->-1<=F.getD s 0
 step:∀ s (h:s < NX.length),0<=F.getD s 0->∀ t∈NX[s],0<=F.getD t.toNat 0/\F.getD t.toNat 0<=F.getD s 0+1
 back:∀ t,t < NX.length->0 < F.getD t 0->∃ s,∃ h:s < NX.length,F.getD s 0=F.getD t 0 - 1/\(t:Int)∈NX[s]
theorem E6 {NX:List (List Int)} {F F':List Int} (h:np NX F) (h':np NX F'):∀ (n:Nat) (t:Nat),t < NX.length->F.getD t 0=n->0<=F'.getD t 0/\F'.getD t 0<=n
 | 0,t,ht,e=>by
  obtain rfl:=h.one t ht aa;rw[h'.zero];omega
 | n+1,t,ht,e=>by
  obtain⟨s,hs,h1,h2⟩:=h.back t ht aa;obtain⟨g1,g2⟩:=E6 h h' n s hs aa;have:=h'.step s hs g1 _ h2;simp only[ajI]at this;omega
theorem Ja {NX:List (List Int)} {F F':List Int} (h:np NX F) (h':np NX F'):F=F':=by
 refine I9 (d:=0) (h.len.trans h'.len.symm) fun t ht=>?_;rw[h.len]at ht;have a:=h.lo t ht;have b:=h'.lo t ht;by_cases g:0<=F.getD t 0
 .obtain⟨n,hn⟩:=ajL g;have h1:=E6 h h' n t ht hn;obtain⟨m,hm⟩:=ajL h1.1;have h2:=E6 h' h m t ht hm;omega
 .by_cases g':0<=F'.getD t 0
  .obtain⟨m,hm⟩:=ajL g';have h2:=E6 h' h m t ht hm;omega
  .omega
def lD (O:List Int) (u:Nat) (t:Int):Prop:=0<=O.getD t.toNat 0/\O.getD t.toNat 0<=O.getD u 0+1
structure qi (NX:List (List Int)) (O T:List Int):Prop where
 len:O.length=NX.length
 zero:O.getD 0 0=0
 one:∀ t,t < NX.length->O.getD t 0=0->t=0
 lo:∀ s,s < NX.length->-1<=O.getD s 0
 hi:∀ s,s < NX.length->O.getD s 0+((O.countP fun x=>decide (x < 0):Nat):Int) < NX.length
 back:∀ t,t < NX.length->0 < O.getD t 0->∃ s,∃ h:s < NX.length,O.getD s 0=O.getD t 0 - 1/\(t:Int)∈NX[s]
 mem:∀ t∈T,0<=t/\t < NX.length/\0<=O.getD t.toNat 0
 Uv:T.Pairwise (fun a b=>O.getD a.toNat 0<=O.getD b.toNat 0)
 top:∀ t0,T.head? = some t0->∀ u,u < NX.length->O.getD u 0<=O.getD t0.toNat 0+1
 done:∀ u (h:u < NX.length),0<=O.getD u 0->(u:Int) ∉ T->∀ t∈NX[u],lD O u t
 Jb:(O.countP fun x=>decide (x < 0))+T.length<=NX.length
def lC (O:List Int):Nat:=O.countP fun x=>decide (x < 0)
theorem GV {O:List Int} {t:Nat} {x:Int} (ht:t < O.length) (h:O.getD t 0 < 0) (hx:0<=x):lC (O.set t x)+1=lC O:=by
 unfold lC;rw[List.countP_set (h:=ht)];rw[dV ht]at h
 have h1:(O.countP fun x=>decide (x < 0))≠0:=fun e=>by
  have:=List.countP_eq_zero.1 e O[t] (By ht);simp at this;omega
 have h2:¬ x < 0:=aa
 simp[h,h2];omega
theorem BO {NX:List (List Int)} {O:List Int} (h:qi NX O []):np NX O:=
 ⟨h.len,h.zero,h.one,h.lo,fun s hs h0 t ht=>h.done s hs h0 ak t ht,h.back⟩
theorem Ix {NX:List (List Int)} {O T:List Int} {s:Nat} (h:qi NX O ((s:Int) :: T)) (hs:s < NX.length) (bX:∀ t∈NX[s],lD O s t):qi NX O T:=by
 obtain⟨s1,s2⟩:=aku.1 h.Uv;refine⟨h.len,h.zero,h.one,h.lo,h.hi,h.back,fun t ht=>h.mem t (by simp[ht]),s2,fun t0 h0 u hu=>?_,fun u hu h0 hn t ht=>?_,by have:=h.Jb;simp only[ajP]at this;omega⟩
 .have h1:=h.top _ rfl u hu;have h2:=s1 t0 (List.mem_of_mem_head? h0);omega
 .by_cases e:u=s
  .subst e;exact bX t ht
  .exact h.done u hu h0 (by simp[hn];omega) t ht
theorem DN {O:List Int} {u:Nat} {v:Int} {t:Nat} {x:Int} (h:lD O u v) (hu:0<=O.getD u 0) (ht:O.getD t 0 < 0):lD (O.set t x) u v:=by
 unfold lD at *
 have h1:t≠v.toNat:=fun e=>by rw[e]at ht;omega
 have h2:t≠u:=fun e=>by rw[e]at ht;omega
 rw[gw h1,gw h2];exact h
theorem Og {NX:List (List Int)} {O T:List Int} {s t:Nat} (h:qi NX O ((s:Int) :: T)) (hs:s < NX.length) (ht:t < NX.length) (aO:(t:Int)∈NX[s]) (gA:O.getD t 0 < 0):qi NX (O.set t (O.getD s 0+1)) ((s:Int) :: (T ++ [(t:Int)])):=by
 have hlen:=h.len
 have qI:t < O.length:=aa
 have eH:=(h.mem (s:Int) ak).2.2;simp only[ajI]at eH
 have fQ:t≠s:=fun e=>by subst e;omega
 have same:∀ u,t≠u->(O.set t (O.getD s 0+1)).getD u 0=O.getD u 0:=fun u hu=>gw hu;have at':(O.set t (O.getD s 0+1)).getD t 0=O.getD s 0+1:=kb qI
 have GQ:∀ v∈((s:Int) :: T),t≠v.toNat:=fun v hv e=>by have:=(h.mem v hv).2.2;rw[<- e]at this;omega
 have lQ:=GV (x:=O.getD s 0+1) qI gA aa;unfold lC at lQ;have J7:=h.Jb;simp only[ajP]at J7;have aiD:=h.hi s hs;refine⟨by simp[hlen],?_,fun u hu e=>?_,fun u hu=>?_,fun u hu=>?_,fun u hu h0=>?_,fun v hv=>?_,?_,fun t0 h0 u hu=>?_,fun u hu h0 hn v hv=>?_,?_⟩
 .have:t≠0:=fun e=>by subst e;rw[h.zero]at gA;omega
  rw[same 0 this];exact h.zero
 .by_cases e2:t=u
  .subst e2;rw[at']at e;omega
  .rw[same u e2]at e;exact h.one u hu e
 .by_cases e2:t=u
  .subst e2;rw[at'];omega
  .rw[same u e2];exact h.lo u hu
 .by_cases e2:t=u
  .subst e2;rw[at'];omega
  .rw[same u e2];have:=h.hi u hu;omega
 .by_cases e2:t=u
  .subst e2;exact⟨s,hs,by rw[at',same s fQ];omega,aO⟩
  .rw[same u e2]at h0 ⊢;obtain⟨v,hv,h1,h2⟩:=h.back u hu h0;exact⟨v,hv,by rw[same v fun e=>by subst e;omega];exact h1,h2⟩
 .have rJ:v∈(s:Int) :: T\/v=(t:Int):=by simpa[or_assoc]using hv
  rcases rJ with rJ | rfl
  .have:=h.mem v rJ;exact⟨this.1,this.2.1,by rw[same _ (GQ v rJ)];exact this.2.2⟩
  .exact⟨aa,aa,by rw[ajI,at'];omega⟩
 .rw[<- akF,akJ];refine⟨h.Uv.imp_of_mem fun {a b} ha hb JD=>by rw[same _ (GQ a ha),same _ (GQ b hb)];exact JD,ak,fun a ha b hb=>?_⟩;obtain rfl:=aj3.1 hb;rw[same _ (GQ a ha),ajI,at'];obtain⟨a1,a2,_⟩:=h.mem a ha
  rcases ajX.1 ha with rfl | ny
  .simp only[ajI];omega
  .have:=h.top _ rfl a.toNat aa;simp only[ajI]at this;omega
 .simp only[List.head?_cons,IS]at h0;subst h0;rw[ajI,same s fQ];by_cases e2:t=u
  .subst e2;rw[at'];omega
  .rw[same u e2];have:=h.top _ rfl u hu;simpa using this
 .have rF:t≠u:=fun e=>by subst e;exact hn ak
  rw[same u rF]at h0;exact DN (h.done u hu h0 (fun hm=>hn (by simp only[ajX]at hm ⊢;rcases hm with hm | hm;exact .inl hm;exact .inr (by simp[hm]))) v hv) h0 gA
 .rw[ajP,ajQ];simp only[ajP,akA];omega
theorem Iy {NX:List (List Int)} (h:nr NX):qi NX ((List.replicate NX.length (-1)).set 0 0) [0]:=by
 have hp:=h.pos;have z:((List.replicate NX.length (-1:Int)).set 0 0).getD 0 0=0:=kb (by simpa using hp)
 have o:∀ t,t < NX.length->t≠0->((List.replicate NX.length (-1:Int)).set 0 0).getD t 0 = -1:=fun t ht h0=>by
  rw[gw (fun e=>h0 e.symm),dV (by simpa using ht)];simp
 refine⟨ak,z,fun t ht e=>?_,fun s hs=>?_,fun s hs=>?_,fun t ht e=>?_,fun t ht=>?_,ak,fun t0 h0 u hu=>?_,fun u hu h0 hn=>?_,?_⟩
 .exact akf fun h0=>by rw[o t ht h0]at e;omega
 .by_cases e:s=0
  .subst e;rw[z];omega
  .rw[o s hs e];omega
 .have hc:((List.replicate NX.length (-1:Int)).set 0 0).countP (fun x=>decide (x < 0))+1=NX.length:=by
   rw[List.countP_set (h:=by simpa using hp)];simp[List.countP_replicate];omega
  by_cases e:s=0
  .subst e;rw[z];omega
  .rw[o s hs e];omega
 .by_cases e0:t=0
  .subst e0;rw[z]at e;omega
  .rw[o t ht e0]at e;omega
 .obtain rfl:=aj3.1 ht;exact⟨aa,aa,by rw[show ((0:Int).toNat)=0 from rfl,z];omega⟩
 .simp only[List.head?_cons,IS]at h0;subst h0;rw[show ((0:Int).toNat)=0 from rfl,z];by_cases e:u=0
  .subst e;rw[z];omega
  .rw[o u hu e];omega
 .by_cases e:u=0
  .subst e;exact absurd ak hn
  .rw[o u hu e]at h0;omega
 .rw[List.countP_set (h:=by simpa using hp)];simp[List.countP_replicate];omega
theorem ED {NX:List (List Int)} (ht:nr NX) {s:Nat} (hs:s < NX.length):∀ (L d:List Int) (O T:List Int),NX[s]=d ++ L->qi NX O ((s:Int) :: T)->(∀ t∈d,lD O s t)->∃ O' T',qi NX O' ((s:Int) :: T')/\(∀ t∈NX[s],lD O' s t)/\2 * lC O'+T'.length<=2 * lC O+T.length
 | [],d,O,T,e,h,hd=>⟨O,T,h,fun t fR=>hd t (by rw[e]at fR;simpa using fR),ajJ _⟩
 | t :: L,d,O,T,e,h,hd=>by
  have aO:t∈NX[s]:=by rw[e];simp
  obtain⟨h0,h1⟩:=ht.mem _ (By hs) t aO;obtain⟨u,rfl⟩:=ajL h0
  have hu:u < NX.length:=aa
  have eH:=(h.mem (s:Int) ak).2.2;simp only[ajI]at eH;by_cases gA:O.getD u 0 < 0
  .have hb:=Og h hs hu aO gA
   have KW:u≠s:=fun e=>by subst e;omega
   have hc:=GV (x:=O.getD s 0+1) (by rw[h.len];exact hu) gA aa
   obtain⟨O',T',g1,g2,g3⟩:=ED ht hs L (d ++ [(u:Int)]) _ _ (by rw[e];simp) hb (fun t fR=>by
    rcases ajR.1 fR with fR | fR
    .exact DN (hd t fR) eH gA
    .obtain rfl:=aj3.1 fR;unfold lD;rw[ajI,kb (by rw[h.len];exact hu),gw KW]
     omega)
   refine⟨O',T',g1,g2,?_⟩;rw[ajQ]at g3;simp only[ajP,akA]at g3;omega
  .refine ED ht hs L (d ++ [(u:Int)]) O T (by rw[e];simp) h fun t fR=>?_
   rcases ajR.1 fR with fR | fR
   .exact hd t fR
   .obtain rfl:=aj3.1 fR;have:=h.top _ rfl u hu;unfold lD;simp only[ajI]at this ⊢;omega
theorem O4 {NX:List (List Int)} (ht:nr NX):∃ F,np NX F:=by
 have h:∀ (n:Nat) (O T:List Int),qi NX O T->2 * lC O+T.length<=n->∃ F,np NX F:=by
  intro n
  induction n with
  | zero=>
   intro O T h hn;obtain rfl:T=[]:=aj2 aa;exact⟨O,BO h⟩
  | succ n ih=>
   intro O T h hn
   cases T with
   | nil=>exact⟨O,BO h⟩
   | cons t T=>
    obtain⟨h0,h1,_⟩:=h.mem t ak;obtain⟨s,rfl⟩:=ajL h0;obtain⟨O',T',g1,g2,g3⟩:=ED ht (s:=s) aa NX[s] [] O T rfl h ak;simp only[ajP]at hn;exact ih O' T' (Ix g1 aa g2) aa
 exact h _ _ _ (Iy ht) (ajJ _)
noncomputable def fZ (NX:List (List Int)):List Int:=open Classical in if h:∃ F,np NX F then h.choose else []
theorem sW {NX:List (List Int)} (ht:nr NX):np NX (fZ NX):=by
 unfold fZ;rw[dif_pos (O4 ht)];exact (O4 ht).choose_spec
theorem Bu {p:aS} (bn:c8 p=none):nr (bl p):=by
 have hp:0 < bZ (bO p):=oJ fun x hx=>(nJ (iB bn) hx).m2;refine⟨by rw[sC];omega,fun l hl t fR=>?_⟩;obtain⟨s,_,rfl⟩:=akh.1 hl;have:=agj bn fR;rw[sC];omega
structure oN (NX:List (List Int)) (O:List Int) (d k:Nat):Prop where
 len:O.length=NX.length
 zero:O.getD 0 0=0
 one:∀ t,t < NX.length->O.getD t 0=0->t=0
 lo:∀ s,s < NX.length->-1<=O.getD s 0
 hi:∀ s,s < NX.length->O.getD s 0<=(d:Int)+1
 back:∀ t,t < NX.length->0 < O.getD t 0->∃ s,∃ h:s < NX.length,O.getD s 0=O.getD t 0 - 1/\(t:Int)∈NX[s]
 done:∀ u (h:u < NX.length),0<=O.getD u 0->(O.getD u 0 < d\/(O.getD u 0=d/\u < k))->∀ t∈NX[u],lD O u t
theorem acd {NX:List (List Int)} (h:nr NX):oN NX ((List.replicate NX.length (-1)).set 0 0) 0 0/\∀ s,s < NX.length->((List.replicate NX.length (-1:Int)).set 0 0).getD s 0<=0:=by
 have hp:=h.pos;have z:((List.replicate NX.length (-1:Int)).set 0 0).getD 0 0=0:=kb (by simpa using hp)
 have o:∀ t,t < NX.length->t≠0->((List.replicate NX.length (-1:Int)).set 0 0).getD t 0 = -1:=fun t ht h0=>by
  rw[gw (akI h0),dV (by simpa using ht)];simp
 have le:∀ s,s < NX.length->((List.replicate NX.length (-1:Int)).set 0 0).getD s 0<=0:=fun s hs=>by
  by_cases e:s=0
  .subst e;rw[z];exact als _
  .rw[o s hs e];omega
 refine⟨⟨ak,z,fun t ht e=>?_,fun s hs=>?_,fun s hs=>by have:=le s hs;omega,fun t ht h0=>?_,fun u hu h0 hd t ht=>?_⟩,le⟩
 .by_cases e2:t=0
  .exact e2
  .rw[o t ht e2]at e;omega
 .by_cases e:s=0
  .subst e;rw[z];omega
  .rw[o s hs e];exact als _
 .have:=le t ht;omega
 .rcases hd with hd | ⟨_,hd⟩<;>omega
theorem aca {NX:List (List Int)} {O:List Int} {d k s t:Nat} (h:oN NX O d k) (hs:s < NX.length) (QR:O.getD s 0=(d:Int)) (ht:t < NX.length) (aO:(t:Int)∈NX[s]) (gA:O.getD t 0 < 0):oN NX (O.set t ((d:Int)+1)) d k:=by
 have hlen:=h.len
 have qI:t < O.length:=aa
 have fQ:t≠s:=fun e=>by subst e;omega
 have same:∀ u,t≠u->(O.set t ((d:Int)+1)).getD u 0=O.getD u 0:=fun u hu=>gw hu;have at':(O.set t ((d:Int)+1)).getD t 0=(d:Int)+1:=kb qI;refine⟨by simp[hlen],?_,fun u hu e=>?_,fun u hu=>?_,fun u hu=>?_,fun u hu h0=>?_,fun u hu h0 hd v hv=>?_⟩
 .have:t≠0:=fun e=>by subst e;rw[h.zero]at gA;omega
  rw[same 0 this];exact h.zero
 .by_cases e2:t=u
  .subst e2;rw[at']at e;omega
  .rw[same u e2]at e;exact h.one u hu e
 .by_cases e2:t=u
  .subst e2;rw[at'];omega
  .rw[same u e2];exact h.lo u hu
 .by_cases e2:t=u
  .subst e2;rw[at'];exact als _
  .rw[same u e2];exact h.hi u hu
 .by_cases e2:t=u
  .subst e2;exact⟨s,hs,by rw[at',same s fQ];omega,aO⟩
  .rw[same u e2]at h0 ⊢;obtain⟨v,hv,h1,h2⟩:=h.back u hu h0;exact⟨v,hv,by rw[same v fun e=>by subst e;omega];exact h1,h2⟩
 .have rF:t≠u:=fun e=>by
   subst e;rw[at']at hd
   rcases hd with hd | ⟨hd,_⟩<;>omega
  rw[same u rF]at h0 hd;exact DN (h.done u hu h0 hd v hv) h0 gA
theorem acb {NX:List (List Int)} {O:List Int} {d k:Nat} (h:oN NX O d k) (hk:O.getD k 0≠(d:Int)):oN NX O d (k+1):=
 ⟨h.len,h.zero,h.one,h.lo,h.hi,h.back,fun u hu h0 hd=>h.done u hu h0 (by
  rcases hd with hd | ⟨hd,hl⟩
  .exact .inl hd
  .refine .inr ⟨hd,?_⟩
   have:u≠k:=fun e=>by subst e;exact hk hd
   omega)⟩
theorem ab9 {NX:List (List Int)} {O:List Int} {d k:Nat} (h:oN NX O d k) (hk:k < NX.length) (bX:∀ t∈NX[k],lD O k t):oN NX O d (k+1):=
 ⟨h.len,h.zero,h.one,h.lo,h.hi,h.back,fun u hu h0 hd=>by
  by_cases e:u=k
  .subst e;exact bX
  .refine h.done u hu h0 ?_
   rcases hd with hd | ⟨hd,hl⟩
   .exact .inl hd
   .exact .inr ⟨hd,aa⟩⟩
theorem ab8 {NX:List (List Int)} {O:List Int} {d:Nat} (h:oN NX O d NX.length):oN NX O (d+1) 0:=
 ⟨h.len,h.zero,h.one,h.lo,fun s hs=>by have:=h.hi s hs;omega,h.back,fun u hu h0 hd=>h.done u hu h0 (by
  rcases hd with hd | ⟨_,hl⟩
  .by_cases e:O.getD u 0=(d:Int)
   .exact .inr ⟨e,hu⟩
   .exact .inl aa
  .omega)⟩
theorem ab7 {NX:List (List Int)} {O:List Int} {d:Nat} (h:oN NX O d NX.length) (hd:∀ s,s < NX.length->O.getD s 0<=(d:Int)):np NX O:=
 ⟨h.len,h.zero,h.one,h.lo,fun s hs h0 t ht=>h.done s hs h0 (by
  have:=hd s hs;by_cases e:O.getD s 0=(d:Int)
  .exact .inr ⟨e,hs⟩
  .exact .inl aa) t ht,h.back⟩
def Ep (NX:List (List Int)) (O:List Int) (d n0:Nat) (b:Bool):Prop:=(b=true->lC O < n0)/\(b=false->∀ s,s < NX.length->O.getD s 0<=(d:Int))/\lC O<=n0
theorem acF {NX:List (List Int)} {O:List Int} {d n0 t:Nat} {b:Bool} (h:Ep NX O d n0 b) (ht:t < O.length) (gA:O.getD t 0 < 0):Ep NX (O.set t ((d:Int)+1)) d n0 true:=by
 have:=GV (x:=(d:Int)+1) ht gA aa;have h3:=h.2.2;exact⟨fun _=>aa,fun e=>(by cases e),aa⟩
theorem Yj {N k:Nat} (h:k < N):(List.replicate k (-1:Int) ++ List.replicate (N - k) 0).set k (-1)=List.replicate (k+1) (-1) ++ List.replicate (N - (k+1)) 0:=by
 have e:N - k=(N - (k+1))+1:=aa
 rw[List.set_append_right _ _ ak,e,List.replicate_succ,List.length_replicate,Nat.sub_self,List.set_cons_zero,List.replicate_succ',akt];rfl
end Go.Proofs.YtoohljflflnbeaaGreatDoor
namespace Go.Av
section
variable {P:Program} {T:Ty} {Mv X:Nat->Prop} {G:ay} {N:Fr} {ops:Array Oper} {σ:St}
def H8 (P:Program) (T:Ty) (Mv:Nat->Prop) (G:ay) (N:Fr) (ap db hv:List Nat) (ex:List (Nat×AV)) (ops:Array Oper) (i:Nat) (o:Oper) (σ aG:St):Prop:=
 (ap.contains i=true/\eI N o/\o.guard=none/\dP o.op=none/\gE o.op=true/\∃ c x aT,wr T G Mv σ o=some (c,x,aT)/\c/\aG=⟨aL aT.env o.dst x,aT.H⟩)\/
 (ap.contains i=false/\qk P T Mv G N [] db hv ex ops i o σ aG)
def EN (ap db hv:List Nat) (ex:List (Nat×AV)) (ops:Array Oper) (i j:Nat) (oi oj:Oper):Bool:=!ap.contains i && !ap.contains j && BS db hv ex ops i j oi oj
theorem ac2 (hg:Good P T) (ap db hv:List Nat) (ex:List (Nat×AV)):Sound P X G N Mv (H8 P T Mv G N ap db hv ex ops) ops:=fun i o ho σ aG h w μ a hi Q K hk=>by
 rcases h with⟨_,hd,de,hc,hw,c,x,aT,h1,h2,rfl⟩ | ⟨_,h⟩
 .refine ze hg ⟨hd,.inl ⟨k7 de,?_⟩⟩ hi ho hk;unfold n5;simp only[hc];rw[if_pos hw];exact⟨c,x,aT,h1,h2,rfl⟩
 .exact GU hg [] db hv ex i o ho _ _ h w μ a hi hk
theorem ac3 (ap db hv:List Nat) (ex:List (Nat×AV)):vC (H8 P T Mv G N ap db hv ex ops) (EN ap db hv ex ops) ops:=fun i j oi oj gL fe hc σ aT gU h1 h2=>by
 simp only[EN,IT,akP]at hc;obtain⟨⟨ai,aj⟩,hc⟩:=hc
 rcases h1 with⟨bi,_⟩ | ⟨_,h1⟩
 .rw[ai]at bi;cases bi
 rcases h2 with⟨bj,_⟩ | ⟨_,h2⟩
 .rw[aj]at bj;cases bj
 obtain⟨jl,f1,f2⟩:=L0 [] db hv ex i j oi oj gL fe hc σ aT gU h1 h2;exact⟨jl,.inr ⟨aj,f1⟩,.inr ⟨ai,f2⟩⟩
def Ec (P:Program) (T:Ty) (Mv:Nat->Prop) (G:ay) (N:Fr) (ap db hv:List Nat) (ex:List (Nat×AV)) (ops:Array Oper) (i:Nat) (o:Oper) (σ:St) (K:St->Prop):Prop:=
 if ap.contains i=true then eI N o/\o.guard=none/\dP o.op=none/\gE o.op=true/\match wr T G Mv σ o with
  | some (c,x,aT)=>c/\K ⟨aL aT.env o.dst x,aT.H⟩
  | none=>False
 else Bs P T Mv G N [] db hv ex ops i o σ K
def vr (P:Program) (T:Ty) (Mv:Nat->Prop) (G:ay) (N:Fr) (ap db hv:List Nat) (ex:List (Nat×AV)) (ops:Array Oper) (K:St->Prop):List (Nat×Oper)->St->Prop
 | [],σ=>K σ
 | (i,o) :: rest,σ=>Ec P T Mv G N ap db hv ex ops i o σ (vr P T Mv G N ap db hv ex ops K rest)
theorem ag7 {ap db hv:List Nat} {ex:List (Nat×AV)} {K:St->Prop}:∀ (l:List Nat) (σ:St),(∀ i∈l,i < ops.size)->vr P T Mv G N ap db hv ex ops K (bU ops l) σ->∃ cq,K cq/\iJ (H8 P T Mv G N ap db hv ex ops) ops l σ cq:=by
 intro l
 induction l with
 | nil=>intro σ _ h;exact⟨σ,h,rfl⟩
 | cons i l ih=>
  intro σ hl h;have hi:=hl i ak
  have ho:ops[i]? = some ops[i]:=by simp[hi]
  have aO:bU ops (i :: l)=(i,ops[i]) :: bU ops l:=by simp[bU,hi]
  rw[aO]at h;have h:Ec P T Mv G N ap db hv ex ops i ops[i] σ (vr P T Mv G N ap db hv ex ops K (bU ops l)):=h;unfold Ec at h;split at h
  .rename_i ha;obtain⟨hd,de,hc,hw,h⟩:=h;split at h
   .rename_i c x aT h1;obtain⟨cK,h⟩:=h;obtain⟨cq,hk,hr⟩:=ih _ (fun j hj=>hl j (by simp[hj])) h;exact⟨cq,hk,_,ho,_,.inl ⟨ha,hd,de,hc,hw,c,x,aT,h1,cK,rfl⟩,hr⟩
   .exact h.elim
  .rename_i ha
   have CG:bU ops [i]=[(i,ops[i])]:=by simp[bU,hi]
   have hm:zj P T Mv G N [] db hv ex ops (vr P T Mv G N ap db hv ex ops K (bU ops l)) (bU ops [i]) σ:=by rw[CG];exact h
   obtain⟨aT,bQ,o',pT,El,hs,pV⟩:=Nc [i] σ (by simpa using hi) (fun r hr=>by cases hr) hm;have pV:El=aT:=pV;subst pV;obtain⟨cq,hk,hr⟩:=ih _ (fun j hj=>hl j (by simp[hj])) bQ;exact⟨cq,hk,o',pT,_,.inr ⟨by simpa using ha,hs⟩,hr⟩
theorem Vu (hg:Good P T) (hm:P.follows .mixedOrders=true) (ap db hv:List Nat) (ex:List (Nat×AV)) (ord:List Nat) {id:Nat} (bX:oH (EN ap db hv ex ops) ord ops=true) {Q:Exit->St->Prop} (h:vr P T Mv G N ap db hv ex ops (fun aG=>Q .normal aG) (bU ops ord) σ):AW P Mv X G N (.region id ops true) Q σ:=
 vA hm (ac2 hg ap db hv ex) (ac3 ap db hv ex) ord bX fun aH=>ag7 ord σ aH h
theorem NP (hg:Good P T) (hm:P.follows .mixedOrders=true) (ap db hv:List Nat) (ex:List (Nat×AV)) (ord:List Nat) {id:Nat} (bX:oH (EN ap db hv ex ops) ord ops=true) {Q:Exit->St->Prop}
  (h:∀ K:St->Prop,(∀ τ:St,Q .normal τ->K τ)->vr P T Mv G N ap db hv ex ops K (bU ops ord) σ):AW P Mv X G N (.region id ops true) Q σ:=Vu hg hm ap db hv ex ord bX (h _ fun _ h=>h)
theorem nj {ap db hv:List Nat} {ex:List (Nat×AV)} {K:St->Prop} {i:Nat} {l:List Nat} {o:Oper} (ho:ops[i]? = some o) (h:∀ K':St->Prop,(∀ τ,vr P T Mv G N ap db hv ex ops K (bU ops l) τ->K' τ)->Ec P T Mv G N ap db hv ex ops i o σ K'):vr P T Mv G N ap db hv ex ops K (bU ops (i :: l)) σ:=by
 have:bU ops (i :: l)=(i,o) :: bU ops l:=by simp[bU,ho]
 rw[this];exact h _ fun _ h=>h
theorem UH {ap db hv:List Nat} {ex:List (Nat×AV)} {K:St->Prop} (h:K σ):vr P T Mv G N ap db hv ex ops K (bU ops []) σ:=h
end
attribute [simp] Ec
end Go.Av
namespace Go.Proofs.YtoohljflflnbeaaGreatDoor
open Go.Av
def dh (p:aS) (n:gV):Int:=if 3<=n.kind then n.count+1 else if n.kind=2 then 2 else if n.kind=1/\ka p n=true then 2 else 0
def fM (p:aS):List Int:=p.names.map (dh p)
theorem Mt {p:aS} (hg:kS p) {i:Nat} (hi:i < p.names.length):partOf p.names[i] (ka p p.names[i]) i=if dh p p.names[i]=0 then [] else [⟨i,dh p p.names[i],decide (3<=p.names[i].kind)⟩]:=by
 have h4:=hg.name _ (By hi);have h5:=hg.count _ (By hi);generalize p.names[i]=n at h4 h5 ⊢;unfold partOf dh;by_cases k3:3<=n.kind
 .have n2:¬ (n.kind=2\/n.kind=1/\ka p n=true):=aa
  have n1:n.kind≠1:=aa
  have n0:¬ n.count+1=0:=aa
  rw[if_neg n2,if_pos n1,if_pos k3,if_neg n0];simp[k3]
 .by_cases k2:n.kind=2
  .rw[if_pos (.inl k2),if_neg k3,if_pos k2];simp[k3]
  .have k1:n.kind=1:=aa
   rw[if_neg k3,if_neg k2];by_cases he:ka p n=true
   .have e3:n.kind=1/\ka p n=true:=⟨k1,he⟩;have e2:n.kind=2\/n.kind=1/\ka p n=true:=.inr e3;rw[if_pos e2,if_pos e3];simp[k3]
   .have e1:¬ (n.kind=2\/n.kind=1/\ka p n=true):=fun h=>h.elim k2 fun h=>he h.2;have e2:¬ (n.kind=1/\ka p n=true):=fun h=>he h.2;rw[if_neg e1,if_neg (fun h=>h k1),if_neg e2,if_pos rfl]
theorem S0 (p:aS) (n:Nat):∀ d,∃ R,gQ p (n+d)=gQ p n ++ R
 | 0=>⟨[],ak⟩
 | d+1=>by
  obtain⟨R,h⟩:=S0 p n d;rw[<- akv,gQ,h];exact⟨_,akt _ _ _⟩
def jB (p:aS) (i:Nat):List ky:=(bO p).drop (gQ p i).length
theorem agE (p:aS):jB p 0=bO p:=rfl
theorem Um (p:aS):jB p p.names.length=[]:=akr (ajJ _)
theorem Up {p:aS} {i:Nat} (hi:i < p.names.length):jB p i=partOf p.names[i] (ka p p.names[i]) i ++ jB p (i+1):=by
 obtain⟨R,h⟩:=S0 p (i+1) (p.names.length - (i+1));rw[show i+1+(p.names.length - (i+1))=p.names.length by omega]at h;have e:bO p=gQ p (i+1) ++ R:=h
 have e1:jB p (i+1)=R:=by
  unfold jB;rw[e,List.drop_left]
 have e2:gQ p (i+1)=gQ p i ++ partOf p.names[i] (ka p p.names[i]) i:=Ha hi;rw[e1];unfold jB;rw[e,e2,akt,List.drop_left]
theorem Un {p:aS} {i:Nat} {x:ky} (h:x∈jB p i):x∈bO p:=aks h
theorem Uo {p:aS} (hg:kS p) (s:cL) {i:Nat} (hi:i < p.names.length):gF (jB p i) s=if dh p p.names[i]=0 then gF (jB p (i+1)) s else (if 3<=p.names[i].kind then s.ct.getD i 0 else if s.is.getD i false then 1 else 0)+dh p p.names[i] * gF (jB p (i+1)) s:=by
 rw[Up hi,Mt hg hi];by_cases h:dh p p.names[i]=0
 .rw[if_pos h,if_pos h,akM]
 .rw[if_neg h,if_neg h,akE,gF];congr 1;unfold sS;by_cases k3:3<=p.names[i].kind
  .simp[k3]
  .simp[k3]
theorem adU {p:aS} (hg:kS p) {i:Nat} (hi:i < p.names.length):bZ (gQ p (i+1))=if dh p p.names[i]=0 then bZ (gQ p i) else bZ (gQ p i) * dh p p.names[i]:=by
 rw[Ha hi,DW,Mt hg hi];by_cases h:dh p p.names[i]=0
 .rw[if_pos h,if_pos h];simp[bZ]
 .rw[if_neg h,if_neg h];simp[bZ]
theorem agU {p:aS} (hg:kS p) (n:Int) (s:cL) {i:Nat} (hi:i < p.names.length):qX (jB p i) n s=if dh p p.names[i]=0 then qX (jB p (i+1)) n s else qX (jB p (i+1)) (n / dh p p.names[i]) (tL ⟨i,dh p p.names[i],decide (3<=p.names[i].kind)⟩ (n % dh p p.names[i]) s):=by
 rw[Up hi,Mt hg hi];by_cases h:dh p p.names[i]=0
 .rw[if_pos h,if_pos h,akM]
 .rw[if_neg h,if_neg h,akE,qX]
