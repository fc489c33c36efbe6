/- Parts. -/
import Derived.Test.YtoohljflflnbeaaGreatDoorSt31
import Derived.Test.YtoohljflflnbeaaGreatDoorSt39
import Derived.Ground.Names8Prog
import Derived.Shelf.Spec.SlicesGrow
set_option linter.unusedSimpArgs false
set_option linter.unusedVariables false
set_option maxHeartbeats 32000000
set_option maxRecDepth 100000
open Go.Proofs.Tryz
namespace Go.Proofs
open Go.Shelf
def Tryz.Qw:Go.Shelf.Ren:=⟨fun | 4=>240 | n=>n,fun | 22=>41 | 25=>3 | 3=>3 | 4=>4 | 9=>9 | 20=>20 | 0=>0 | n=>n,fun | n=>n⟩
theorem Tryz.Qv:Go.Proofs.Lays8.n4 prog Tryz.Qw:={
 mixed:=ag
 f4:=⟨Tryz.f240.name,bh,func240.trans aW⟩
 t0:=underlying0
 a0:=isAgg0
 z0:=sizeOf0
 v0:=zeroValue0
 t3:=underlying3
 a3:=isAgg3
 z3:=sizeOf3
 v3:=zeroValue3
 t4:=underlying4
 a4:=isAgg4
 z4:=sizeOf4
 v4:=zeroValue4
 t9:=underlying9
 a9:=isAgg9
 z9:=sizeOf9
 v9:=zeroValue9
 t20:=underlying20
 a20:=isAgg20
 z20:=sizeOf20
 v20:=zeroValue20
 t22:=underlying41
 a22:=isAgg41
 z22:=sizeOf41
 v22:=zeroValue41 }
end Go.Proofs
namespace Go.Proofs.YtoohljflflnbeaaGreatDoor
open Go.Av Go.Shelf Go.RowKit
theorem WR (n G:Nat) (h:n<=G):(([]:List Value).toArray ++ Builtin.zeroCells (Value.int .i64 0).cells (0+n - 0) ++ Builtin.zeroCells (Value.int .i64 0).cells (G - (0+n))).size=G:=by
 simp[size_zeroCells,Value.cells];omega
theorem Qx (G:aF) (n:Nat) (hn:n<=2^40):MC prog G [] 240 [.d (.sl (some false) []),.d (ab n)] (au []) (.own 900 0 0) (au [(900,.sl 3 1 [])]):=by
 refine⟨fU.of func240 rfl rfl,fun X w μ vs hs cY bc hv=>?_⟩
 obtain⟨a,b,rfl⟩:∃ a b,vs = #[a,b]:=by
  match vs,bc with
  | ⟨[a,b]⟩,_=>exact⟨a,b,rfl⟩
 obtain rfl:a = .slice none 0 0:=by
  rcases (hv 0 a _ rfl rfl).data.oT with⟨rfl,_⟩ | ⟨_,_,_,hk,_⟩
  .rfl
  .exact absurd rfl hk
 obtain rfl:b = .int .i64 n:=(hv 1 b _ rfl rfl).scalar;have hL:=Tryz.Qv;have bn:In w X G μ ⟨0,[],none⟩ { tmps:=#[],defers:=[] } ⟨fun _=>none,au []⟩:=⟨hs,⟨rfl,rfl,fun i x h=>by cases h⟩,cY⟩
 have hH:∀ row,bk (au []) 900 row=au [(900,row)]:=fun row=>by
  funext q;by_cases h:q=900
  .subst h;rfl
  .have hq:(q == 900)=false:=by simpa using h
   simp only[bk,if_neg h,au,List.lookup,hq]
 by_cases h0:n=0
 .subst h0;refine (Any8.slices_Grow_room hL none 0 0 0 w aa aa aa aa).mono fun e w' ⟨he,hw⟩=>?_;subst hw;obtain⟨h1,ev⟩:=bn.alloc (Mv:=gS []) (w':=w') (m:=⟨none,1,0⟩) (d:=900) rfl (cT.refl _) al (row:=.sl 3 1 []) fun _=>.nil rfl rfl;have h2:=h1.bo;dsimp only at h2;rw[hH]at h2;exact⟨_,_,_,_,he,⟨rfl,rfl⟩,.own (m:=⟨none,1,0⟩) (by simp[eo]) (.inl ⟨rfl,rfl,rfl,rfl⟩),h2,ev⟩
 .obtain⟨i0,hi,oL,wH,FF⟩:=info_parts (P:=prog) (e:=3) (z:=.int .i64 0) (size:=1) (bytes:=8) ag;refine (Any8.slices_Grow_grow hL i0 (.int .i64 0) hi oL aa none 0 0 n [] w aa aa (by rw[FF];omega) aa al (fun _=>rfl) (fun a e=>by cases e)).mono fun e w' ⟨he,hw⟩=>?_
  have Bi:n<=grownCap w (0+n) 0 3:=by have:=grownCap_ge w (0+n) 0 3;omega
  have hle:grownCap w (0+n) 0 3<=maxLen:=grownCap_le_maxLen w (0+n) 0 3 (by unfold maxLen;omega);have he:e = .returned (.slice (some ⟨w.heap.size,0,none⟩) 0 (grownCap w (0+n) 0 3)):=he;have hw:w'=w.drew.alloc (.cells (([]:List Value).toArray ++ Builtin.zeroCells (Value.int .i64 0).cells (0+n - 0) ++ Builtin.zeroCells (Value.int .i64 0).cells (grownCap w (0+n) 0 3 - (0+n))) 3):=hw;have bc:=WR n (grownCap w (0+n) 0 3) Bi;generalize grownCap w (0+n) 0 3=C at he hw Bi hle bc;generalize (([]:List Value).toArray ++ Builtin.zeroCells (Value.int .i64 0).cells (0+n - 0) ++ Builtin.zeroCells (Value.int .i64 0).cells (C - (0+n)))=Z at hw bc;subst hw;have g1:=cT.drew w;have g2:=cT.alloc w.drew (.cells Z 3);have hg:cT w (w.drew.alloc (.cells Z 3)):=⟨acb g1.size g2.size,g2.os.trans g1.os,g2.tape.trans g1.tape,g2.output.trans g1.output,fun b hb=>(g2.same b (abu hb g1.size)).trans (g1.same b hb)⟩;have nC:(w.drew.alloc (.cells Z 3)).heap[w.heap.size]? = some (.cells Z 3 (0,0)):=heap_alloc_new w.drew _
  obtain⟨h1,ev⟩:=bn.alloc (Mv:=gS []) (w':=w.drew.alloc (.cells Z 3)) (m:=⟨some w.heap.size,1,C⟩) (d:=900) rfl hg (by rintro b h;injection h with h;omega) (row:=.sl 3 1 []) fun _=>
   .sl (b:=w.heap.size) rfl rfl nC (by simpa using bc) al hle al aa al
  have h2:=h1.bo;dsimp only at h2;rw[hH]at h2;exact⟨_,_,_,_,he,⟨rfl,rfl⟩,.own (m:=⟨some w.heap.size,1,C⟩) (by simp[eo]) (.inr ⟨_,rfl,al,al⟩),h2,ev⟩
def dh (l:List Nat):List (List D):=l.map fun (n:Nat)=>[ab (n:Int)]
theorem vI (a b:List Nat):dh (a ++ b)=dh a ++ dh b:=by unfold dh;rw[abt]
def jP {α:Type} (a b c:α):Nat->α
 | 0=>a
 | 1=>b
 | _=>c
theorem Pk (G:aF) (a b:List Nat) (ha:a.length<=2^30) (hb:b.length<=2^30):aH prog G 181 [.sl none [[.sl none (dh a)],[.sl none (dh b)]]] (.sl none (dh (a ++ b))):=by
 rw[vI];have QI:(∀ el∈dh a,el.length=1)=True:=eq_true (by simp[dh]);have Ja:(∀ el∈dh b,el.length=1)=True:=eq_true (by simp[dh]);have QJ:(∀ el∈dh a,∀ c∈el,c.one=true)=True:=eq_true (by simp[dh,ab,D.one]);have Jb:(∀ el∈dh b,∀ c∈el,c.one=true)=True:=eq_true (by simp[dh,ab,D.one])
 have ZT:(dh a).length<=2^30:=by simpa[dh]using ha
 have ZU:(dh b).length<=2^30:=by simpa[dh]using hb
 generalize dh a=A at *;generalize dh b=B at *;have gP:=Qx G (A.length+B.length) aa;simp only[ab]at gP;refine aH.aU (aw _) func181 rfl rfl (rs:=[.tmp 2]) results181 (by simp[ntmps181]) fun X=>?_;simp only[ntmps181,List.map];have fw:=@acC;refine af fw [0] [] ?_;refine af fw [0,3] [] ?_;refine ah fun K1 aI=>af fw [0,3,9,10,11] [] ?_;refine eD (S:=Nat) (fun n=>n<=2) (fun n=>⟨bl [(0,.d (.sl none [[.sl none A],[.sl none B]])),(3,int (jP 0 (A.length:Int) ((A.length:Int)+B.length) n)),(9,.d (.sl none [[.sl none A],[.sl none B]])),(10,int 2),(11,int n)],au []⟩) (fun n=>2 - n) 0 ?_ aa ?_
 .refine aY.fo aT (by simp[ab,jP]) (by simp[ab,jP])
 .intro n hn
  rcases (by omega:n=0\/n=1\/n=2)with rfl | rfl | rfl
  .simp only[jP];refine af fw [0,3,9,10,11,12] [] ?_;refine ah fun K2 ak=>aD ?_;refine ax (ak _ (ah fun K3 bF=>bd (af fw [0,3,5,9,10,11] [] ?_)));refine af fw [0,3,9,10,11] [] ?_;refine af fw [0,3,9,10,11,20] [] ?_;refine aj (ax (bF _ ?_));refine fe fw ?_;(try simp only[bY,b9]);refine cC.mk 1 aa aa ?_;refine aY.fo aT (by simp[ab,jP]) (by simp[ab,jP])
  .simp only[jP];refine af fw [0,3,9,10,11,12] [] ?_;refine ah fun K2 ak=>aD ?_;refine ax (ak _ (ah fun K3 bF=>bd (af fw [0,3,5,9,10,11] [] ?_)));refine af fw [0,3,9,10,11] [] ?_;refine af fw [0,3,9,10,11,20] [] ?_;refine aj (ax (bF _ ?_));refine fe fw ?_;(try simp only[bY,b9]);refine cC.mk 2 aa aa ?_;refine aY.fo aT (by simp[ab,jP]) (by simp[ab,jP])
  .simp only[jP];refine af fw [0,3,9,10,11,12] [] ?_;refine ah fun K2 ak=>aj ?_;refine cX (aI _ (bA fw gP [0,6] [900] ?_));refine ah fun K4 cF=>?_;refine af fw [6,25,26,27] [900] ?_;refine eD (S:=Nat) (fun n=>n<=2) (fun n=>⟨bl [(6,.own 900 0 (jP 0 A.length (A.length+B.length) n)),(25,.d (.sl none [[.sl none A],[.sl none B]])),(26,int 2),(27,int n)],au [(900,.sl 3 1 (jP [] A (A ++ B) n))]⟩) (fun n=>2 - n) 0 ?_ aa ?_
   .refine aY.fo aT (by simp[ab,jP]) (by simp[ab,jP])
   .intro n hn
    rcases (by omega:n=0\/n=1\/n=2)with rfl | rfl | rfl
    .simp only[jP];refine af fw [6,25,26,27,28] [900] ?_;refine ah fun K5 cI=>aD ?_;refine ax (cI _ (ah fun K6 fN=>bd (af fw [6,8,25,26,27] [900] ?_)));have qf:=(Aq fw (Aq @QI @QJ));refine nN fN [6,25,26,27] [900] ?_;refine fe fw ?_;(try simp only[bY,b9]);refine cC.mk 1 aa aa ?_;refine aY.fo aT (by simp[ab,jP]) (by simp[ab,jP])
    .simp only[jP];refine af fw [6,25,26,27,28] [900] ?_;refine ah fun K5 cI=>aD ?_;refine ax (cI _ (ah fun K6 fN=>bd (af fw [6,8,25,26,27] [900] ?_)));refine ea (aw _) fun K' ai=>?_;(repeat refine aq fun Kq ae=>?_;simp[ab,Ja,Jb,sh];(repeat refine⟨aa,?_⟩);refine ae _ ?_);refine aZ (ai _ ?_);refine fN _ (AW.norm [6,25,26,27] [900] aT (AW.st (by simp[ab,Ja,Jb,sh];rfl) ?_));refine fe fw ?_;(try simp only[bY,b9]);refine cC.mk 2 aa aa ?_;refine aY.fo aT (by simp[ab,jP]) (by simp[ab,jP])
    .simp only[jP];refine af fw [6,25,26,27,28] [900] ?_;refine ah fun K5 cI=>aj ?_;refine cX (cF _ (AW.imp (aY.freeze 900 trivial) ?_));refine AW.st (by simp[ab];rfl) ?_;refine af fw [2] [] ?_;exact bg fw
end Go.Proofs.YtoohljflflnbeaaGreatDoor
namespace Go.Proofs.YtoohljflflnbeaaGreatDoor
open Go.Av
theorem NO {P:Program} {Mv X:Nat->Prop} {G:aF} {n s:Nat} {x y:Code} {Q:Exit->St->Prop} {σ:St} (h:∀ K:St->Prop,(∀ aP,ff P Mv X G n s y Q aP->K aP)->∀ X' ds,AW P Mv X' G ⟨n,ds,none⟩ x (bY K Q) σ):ff P Mv X G n s (.seq x y) Q σ:=
 zV (zU (h _ fun _ h=>h))
theorem NP {P:Program} {Mv X:Nat->Prop} {G:aF} {n s:Nat} {x y:Code} {Q:Exit->St->Prop} {σ:St} (h:∀ K:St->Prop,(∀ aP,ff P Mv X G n s y Q aP->K aP)->ff P Mv X G n s x (bY K Q) σ):ff P Mv X G n s (.seq x y) Q σ:=
 zV (h _ fun _ h=>h)
theorem Wn {P:Program} {Mv X:Nat->Prop} {G:aF} {N:Fr} {x y:Code} {Q:Exit->St->Prop} {σ:St} (h:∀ K:St->Prop,(∀ aP,AW P Mv X G N y Q aP->K aP)->AW P Mv X G N x (bY K (fun _ _=>False)) σ):AW P Mv X G N x (bY (AW P Mv X G N y Q) (fun _ _=>False)) σ:=
 h _ fun _ h=>h
section
variable {P:Program} {X:Nat->Prop} {G:aF} {n s:Nat} {σ τ gI:St} {p:Prop}
theorem ff.norm (l ns:List Nat) {c:Code} {Q:Exit->St->Prop} (h:ff P (fun _=>True) X G n s c Q (σ.norm l ns)):ff P (fun _=>True) X G n s c Q σ:=ff.imp (fun X' ds=>aY.norm l ns fun _ _=>trivial) h
theorem ff.st {c:Code} {Q:Exit->St->Prop} (h:σ=τ) (h':ff P (fun _=>True) X G n s c Q τ):ff P (fun _=>True) X G n s c Q σ:=h ▸ h'
theorem Cx (q:p) (l ns:List Nat) {id:Nat} {ops:Array Oper} {y:Code} {Q:Exit->St->Prop} (k:ff P (fun _=>True) X G n s y Q gI)
  (h:p->∀ (X':Nat->Prop) (ds:List Deferred) (K':St->Prop),K' τ->je P (cN P) (fun _=>True) X' G ⟨n,ds,none⟩ ops K' ops.toList σ:=by
   intro q X' ds K' ai;repeat (refine aq fun Kq ae=>?_;simp[q];(repeat refine⟨aa,?_⟩);refine ae _ ?_)
   exact aZ ai)
  (hn:p->τ.norm l ns=gI:=by intro q;simp[q];rfl):ff P (fun _=>True) X G n s (.seq (.region id ops false) y) Q σ:=
 zV (zU fun X' ds=>ea (aw _) fun K hK=>h q X' ds K (hK _ (ff.norm l ns (hn q ▸ k))))
theorem WH (q:p) {fx:List Nat} {g:FuncId} {xs:List AV} {dH ju:List (Nat×Row)} {yv:AV} (hc:MC P G fx g xs (au dH) yv (au ju)) (l ns:List Nat) {id:Nat} {ops:Array Oper} {y:Code} {Q:Exit->St->Prop} (k:ff P (fun _=>True) X G n s y Q gI)
  (h:p->MC P G fx g xs (au dH) yv (au ju)->∀ (X':Nat->Prop) (ds:List Deferred) (K':St->Prop),K' τ->je P (cN P) (fun _=>True) X' G ⟨n,ds,none⟩ ops K' ops.toList σ:=by
   intro q hc X' ds K' ai;(repeat refine aq fun Kq ae=>?_;simp[q];(repeat refine⟨aa,?_⟩);refine ae _ ?_);refine aq fun Kq ae=>?_;simp[q];refine ch.mc hc (by simp[q]) (by simp[q]) (by simp[q]) (by simp[q]) ?_;simp[q];refine ae _ ?_;repeat (refine aq fun Kq ae=>?_;simp[q];(repeat refine⟨aa,?_⟩);refine ae _ ?_)
   exact aZ ai)
  (hn:p->τ.norm l ns=gI:=by intro q;simp[q];rfl):ff P (fun _=>True) X G n s (.seq (.region id ops false) y) Q σ:=
 zV (zU fun X' ds=>ea (aw _) fun K hK=>h q hc X' ds K (hK _ (ff.norm l ns (hn q ▸ k))))
end
def qH:D:=.sl (some false) []
def tv (NN RR NA RA:List (List D)) (pl:Int):Heap:=au [(2,.box 28 [.d qH,.d qH]),(3,.box 30 [.d (.v .nilIface)]),(4,.box 28 [.own 801 0 NN.length,.own 802 0 RR.length]),(5,.box 41 [.own 803 0 NA.length]),(6,.box 41 [.own 804 0 RA.length]),(7,.box 3 [int pl]),(801,.sl 78 3 NN),(802,.sl 153 3 RR),(803,.sl 3 1 NA),(804,.sl 3 1 RA)]
theorem Px (c:Option Ex):(dC c).one=true:=by
 cases c with
 | none=>rfl
 | some e=>obtain⟨a,b,h⟩:=gk e;rw[dC,h];rfl
theorem I4 (l:List Nat) (i:Nat) (h:i < l.length):(dh l)[i]? = some [ab ((l.getD i 0:Nat):Int)]:=by
 rw[aa5];unfold dh;simp[h]
theorem Iu {p:dJ} {c:Int} {i:Nat} (h:gJ p=some (c,some i)):i < p.names.length+p.ao.length:=by
 unfold gJ at h;split at h
 .cases h
 .split at h
  .rename_i e k hf;have:=xO hf;simp only[BY,aa4]at h;omega
  .split at h
   .rename_i e k hf;have:=xO hf;simp only[BY,aa4]at h;omega
   .cases h
theorem MR {k:Int} {nm hd rest:Tx} {c:Int} {off:Nat} (h:lu k nm hd rest = .bad c off):off<=hd.length+1+rest.length:=by
 unfold lu at h;split at h
 .rename_i c' o hp;simp only[po.bad.injEq]at h
  cases o with
  | none=>simp at h;omega
  | some o=>
   have:=zq hp;simp at h;omega
 .cases h
theorem Up {s:Tx} {c:Int} {off:Nat} (h:fY s = .bad c off):off<=2 * s.length+1:=by
 have hle:=Az 61 s
 have nb:∀ l,jX l≠.bad c off:=fun l=>by
  match l with
  | []=>simp[jX]
  | [a]=>simp[jX,fP]
  | [a,b]=>simp only[jX,fP];split<;>simp
  | [a,b,c]=>simp only[jX,fP];split<;>(try split)<;>simp
  | a :: b :: c :: d :: l=>simp[jX,fP]
 unfold fY at h;split at h
 .have h2:off<=(cutAt 61 s).1.length+1+(cutAt 61 s).2.length:=by
   match hw:gx (cutAt 61 s).1,h with
   | [a],h=>exact MR h
   | [a,b],h=>
    simp only[oR]at h;split at h
    .cases h
    .exact MR h
  omega
 .exact absurd h (nb _)
theorem qF:(⟨#[]⟩:ByteArray)=bs []:=rfl
theorem qG:(⟨#[32]⟩:ByteArray)=bs [32]:=rfl
theorem ac4:type_of% (Aq @ir.eq_1 (Aq @j4.eq_1 (Aq @acO (Aq @kH.eq_1 (Aq @acL (Aq @acM @acN)))))):=(Aq @ir.eq_1 (Aq @j4.eq_1 (Aq @acO (Aq @kH.eq_1 (Aq @acL (Aq @acM @acN))))))
theorem Ut (G:aF) (hM:nh G) (hP:qU G) (hG:tR G) {es er:Value} (hE:sr G es er) (t:Tx):aH prog G 105 [dS t] (.bI [ir (ie t).2,bC (ie t).1]):=by
 refine aH.Vc (aw _) func105 rfl rfl (rs:=[.cell 2 28,.cell 3 30]) results105 (by simp[ntmps105]) fun X s0=>?_;simp only[ntmps105,List.map];have fw:=acW;refine Cx fw [0,2,3] [2,3] ?_;refine NO fun K1 aI X' ds=>?_;by_cases ht:20000 < t.length
 .have pO:(t.length:Int) > 20000:=aa
  have hp:ie t=(some (4,none),⟨[],[]⟩):=by unfold ie;rw[if_pos ht]
  have qf:=(Aq fw (Aq @bD @pO));refine aC [0,2,3,19] [2,3] ?_;refine eJ (by simp[pO]) (af fw [2,3] [2,3] ?_);exact bg (Aq fw (Aq @hp ac4))
 have pO:¬ (t.length:Int) > 20000:=aa
 have J4:=W0 G t;have qf:=(Aq fw (Aq @bD @pO));refine aC [0,2,3,19] [2,3] ?_;refine gW (by simp[pO]) (ax (aI _ ?_));refine Cx fw [0,2,3,4] [2,3,4] ?_;refine Cx fw [0,2,3,4,5,6] [2,3,4,5,6] ?_;refine Cx fw [0,2,3,4,5,6,7] [2,3,4,5,6,7] ?_;refine NP fun K5 cI=>?_;refine ff.imp (fun X' ds=>aY.n7 4 0 801 78 3 rfl rfl rfl) ?_;refine ff.st bq ?_;refine ff.imp (fun X' ds=>aY.n7 4 1 802 153 3 rfl rfl rfl) ?_;refine ff.st bq ?_;refine ff.imp (fun X' ds=>aY.n7 5 0 803 3 1 rfl rfl rfl) ?_;refine ff.st bq ?_;refine ff.imp (fun X' ds=>aY.n7 6 0 804 3 1 rfl rfl rfl) ?_;refine ff.st bq ?_;simp only[u7,zB,dS,ab]at J4;refine WH (Aq @Lj fw) J4 [2,3,4,5,6,7,23] [2,3,4,5,6,7,511,512,513,801,802,803,804] ?_;refine NL ?_;obtain⟨l,hl⟩:∃ l,l=eE 10 t:=⟨_,rfl⟩;have EV:=AA 10 t;rw[<- hl]at EV
 obtain⟨inv,RY⟩:∃ f:Nat->Heap,f=fun k=>match fE l k with
  | .inl _=>eQ
  | .inr s=>tv (s.names.map bH) (s.ao.map cW) (dh s.ia) (dh s.ij) (ig l k):=⟨_,rfl⟩
 have hinv:∀ k s,fE l k = .inr s->inv k=tv (s.names.map bH) (s.ao.map cW) (dh s.ia) (dh s.ij) (ig l k):=fun k s h=>by rw[RY];dsimp only;rw[h]
 refine NM (l.map fun s=>.string (bs s)) [511,512,513] [2,3,4,5,6,7] (bl [(2,.ref 2 0 0),(3,.ref 3 0 0),(4,.ref 4 0 0),(5,.ref 5 0 0),(6,.ref 6 0 0),(7,.ref 7 0 0)]) inv (fun k=>∃ s,fE l k = .inr s) ⟨nM,rfl⟩ (gf:=284) (caps:=[.ref 512 0 0,.ref 511 0 0,.ref 513 0 0]) al (fU.of func284 rfl rfl) bh ?hIt ?he1 ?hH aT ?hfx ?round ?done
 case hIt=>
  intro w X μ lb hs cY bc qu;rw[hl];refine WL G hM t aa w X μ lb ?_ cY bc ?_
  .simpa[u7,dS,ab]using hs
  .intro i u x hu hx;have h:=qu i u x hu hx
   match i,hx with
   | 0,hx=>obtain rfl:=AI hx;exact h
   | 1,hx=>obtain rfl:=AI hx;exact h
   | 2,hx=>obtain rfl:=AI hx;exact h
 case he1=>
  intro i x hx;have h:=Gd hx;simp only[abg,List.not_mem_nil,or_false,aa4]at h
  rcases h with⟨rfl,rfl⟩ | ⟨rfl,rfl⟩ | ⟨rfl,rfl⟩ | ⟨rfl,rfl⟩ | ⟨rfl,rfl⟩ | ⟨rfl,rfl⟩<;>exact⟨rfl,_,rfl,rfl⟩
 case hH=>
  rw[hinv 0 nM rfl];simp[tv,nM,dh,Vy,qH]
  try rfl
 case hfx=>
  intro q h;simp at h ⊢;omega
 case done=>
  rintro⟨s,hs⟩;rw[abq]at hs ⊢;have fB:=GD (s:=s) aa (hl ▸ hs);have cG:=zw (t:=t) aa (aa8 _) (hl ▸ hs);have Fs:=L9 cG (by rw[<- hl];omega);have iK:=KP G ⟨s.names,s.ao⟩ Fs;rw[hinv _ _ hs];refine cI _ (zU fun X' ds=>?_);obtain⟨dX,fO,jS,_,_⟩:=cG;rw[<- hl]at jS
  have Fh:∀ c i,gJ ⟨s.names,s.ao⟩=some (c,some i)->i < (s.ia ++ s.ij).length:=fun c i h=>by have:=Iu h;simp at this ⊢;omega
  unfold tv;refine AW.imp (aY.freeze 801 trivial) ?_;refine AW.st (by simp[ab,dS];rfl) ?_;refine AW.imp (aY.freeze 802 trivial) ?_;refine AW.st (by simp[ab,dS];rfl) ?_;refine AW.imp (aY.freeze 803 trivial) ?_;refine AW.st (by simp[ab,dS];rfl) ?_;refine AW.imp (aY.freeze 804 trivial) ?_;refine AW.st (by simp[ab,dS];rfl) ?_;have cA:=Pk G s.ia s.ij aa aa;have oD:=fun i h=>I4 (s.ia ++ s.ij) i h;simp only[ir,j4,ey,kH]at iK;generalize sL:s.names.map bH=NN at iK ⊢;generalize rA:s.ao.map cW=RR at iK ⊢;generalize dh s.ia=NA at cA ⊢;generalize dh s.ij=RA at cA ⊢;generalize dh (s.ia ++ s.ij)=CC at cA oD
  cases eN:gJ ⟨s.names,s.ao⟩ with
  | none=>
   rw[eN]at iK fB;simp only[bC]at iK;refine bB fw iK [2,3,4,5,6,14] [2,3,4,5,6,7] ?_;refine ah fun K7 eF=>af (Aq fw acY) [2,3,4,5,6,14,15,16] [2,3,4,5,6,7] ?_;refine af fw [2,3,4,5,6,14,15,108] [2,3,4,5,6,7] ?_;refine aj (ax (eF _ ?_));refine ah fun K8 eg=>af fw [2,3,4,14,127] [2,3,4,5,6,7] ?_;refine aj (ax (eg _ ?_));refine af fw [2,3] [2,3,4,5,6,7] ?_;exact bg (Aq fw (Aq @fB (Aq @ir.eq_1 (Aq @j4.eq_1 (Aq @acO (Aq @kH.eq_1 (Aq @acL (Aq @acM (Aq @acN (Aq @sL @rA))))))))))
  | some ci=>
   obtain⟨c,i⟩:=ci;rw[eN]at iK fB
   cases i with
   | none=>
    simp only[bC]at iK;refine bB fw iK [2,3,4,5,6,14] [2,3,4,5,6,7] ?_;refine ah fun K7 eF=>af (Aq fw acY) [2,3,4,5,6,14,15,16] [2,3,4,5,6,7] ?_;refine af fw [2,3,4,5,6,14,15,108] [2,3,4,5,6,7] ?_;refine aj (ax (eF _ ?_));refine ah fun K8 eg=>af fw [2,3,4,14,127] [2,3,4,5,6,7] ?_;refine aD (af fw [2,3] [2,3,4,5,6,7] ?_);exact bg (Aq fw (Aq @fB ac4))
   | some i=>
    have hi:=Fh c i eN;have o4:=oD i hi;dsimp only at fB;obtain⟨dG,ny⟩:=By.1 o4;simp only[bC]at iK;simp only[ab]at ny;clear o4;generalize (s.ia ++ s.ij).getD i 0=pl at ny fB;refine bB fw iK [2,3,4,5,6,14] [2,3,4,5,6,7] ?_;refine ah fun K7 eF=>af (Aq fw acY) [2,3,4,5,6,14,15,16] [2,3,4,5,6,7] ?_;refine af fw [2,3,4,5,6,14,15,108] [2,3,4,5,6,7] ?_;refine aD (NR (aw _) ag ([6,15]) (List.range 18) ag fun K' ai=>?_);(repeat refine sg rfl fun K2 ak=>?_;simp[ab,dS,dG,ny];(repeat refine⟨aa,?_⟩);refine ak _ ?_;clear ak K2);refine sg rfl fun K2 ak=>?_;simp[ab,dS,dG,ny];refine mw.mk (cA) bq bq (by first | exact D.aV _ | simp[aL,IS,AT,D.le,D.le.go,D.le_refl,D.aV,ab,dS,dG,ny]) al ?_;refine ak _ ?_;clear ak K2;simp only[aR,cw];(repeat refine sg rfl fun K2 ak=>?_;simp[ab,dS,dG,ny];(repeat refine⟨aa,?_⟩);refine ak _ ?_;clear ak K2);refine vf (ai _ ?_);refine eF _ (AW.norm [2,3,4,14] [2,3,4,5,6,7] aT (AW.st (by simp[ab,dS,dG,ny];rfl) ?_));refine ah fun K8 eg=>af fw [2,3,4,14,127] [2,3,4,5,6,7] ?_;refine aD (af fw [2,3] [2,3,4,5,6,7] ?_);exact bg (Aq fw (Aq @fB ac4))
 case round=>
  rintro X' L k hk ⟨s,hs⟩
  have jm:k < l.length:=by simpa using hk
  obtain⟨ln,lM⟩:∃ ln,ln=l[k]:=⟨_,rfl⟩;rw[hinv k s hs,show (l.map fun s=>Value.string (bs s))[k] = .string (bs ln) by simp[lM]]
  have SE:ig l k+ln.length<=t.length:=by rw[lM];subst hl;exact GH jm
  have cR:(ig l (k+1):Int)=(ig l k:Int)+((ln.length:Int)+1):=by rw[GI jm,<- lM];omega
  have cG:=zw (t:=t) aa (Nat.le_of_lt (hl ▸ jm)) (hl ▸ hs);have fI:∀ s',jY s (ig l k) ln = .inr s'->fE l (k+1) = .inr s':=fun s' h=>L8 jm hs (lM ▸ h);have jA:∀ c i,jY s (ig l k) ln = .inl (c,i)->ie t=(some (c,some i),⟨[],[]⟩):=fun c i h=>GC aa (hl ▸ L7 jm hs (lM ▸ h));obtain⟨dX,fO,jS,_,_⟩:=cG;have oJ:=Y8 G ln aa;have Kc:=Zb ln;have Sg:=fun h=>Uq G hM hP hG hE ln aa h;generalize SF:ig l k=pk at *
  have QN:(s.names.map bH).length=s.names.length:=al
  have QP:(s.ao.map cW).length=s.ao.length:=al
  have QO:(dh s.ia).length=s.names.length:=by simp[dh,dX]
  have uf:(dh s.ij).length=s.ao.length:=by simp[dh,fO]
  generalize sL:s.names.map bH=NN at *;generalize rA:s.ao.map cW=RR at *;generalize vR:dh s.ia=NA at *;generalize vT:dh s.ij=RA at *;unfold tv;refine AW.st bq ?_;refine Wn fun K7 eF=>?_;refine fc fw eF [2,3,4,5,6,7,8] [2,3,4,5,6,7,801,802,803,804] ?_;refine bd (ah fun K8 eg=>?_);simp only[dS]at oJ;by_cases h0:gx ln=[]
  .have hz:=Kc.2 h0;rw[hz]at oJ
   have bO:jY s pk ln = .inr s:=by unfold jY;rw[if_pos h0]
   have hn:=fI _ bO;refine rg [2,3,4,5,6,7,8,27] [2,3,4,5,6,7,801,802,803,804] (cy rfl) fun K' ai=>?_;(repeat refine aq fun Kq ae=>?_;simp[ab,dS,qF,qG,ay,aJ];(repeat refine⟨aa,?_⟩);refine ae _ ?_);refine aq fun Kq ae=>?_;simp[ab,dS,qF,qG,ay,aJ];refine ch.data (oJ) bq (by first | exact D.aV _ | simp[aL,IS,AT,D.le,D.le.go,D.le_refl,D.aV,ab,dS,qF,qG,ay,aJ]) ?_;refine ae _ ?_;simp only[aR,cw];(repeat refine aq fun Kq ae=>?_;simp[ab,dS,qF,qG,ay,aJ];(repeat refine⟨aa,?_⟩);refine ae _ ?_);refine aZ (ai _ (AW.st (by simp[ab,dS,qF,qG,ay,aJ];rfl) ?_));refine aj (ax (eg _ ?_));have qf:=(Aq fw @bD);refine w6 ?_;(try simp only[bY,b9]);refine And.intro ⟨s,hn⟩ ?_;rw[hinv _ _ hn,cR,sL,rA,vR,vT];unfold tv;refine (show aY _ _ _ _ _ ⟨bl [],au _⟩ from ?_);refine bL (Aq fw @cR)
  have hz:Lib.trimB ln 32≠[]:=fun h=>h0 (Kc.1 h)
  have fC:jY s pk ln=match fY ln with
   | .form=>.inl (3,pk)
   | .bad c off=>.inl (c,pk+off)
   | .name n=>if s.ao=[] then .inr ⟨s.names ++ [n],s.ia ++ [pk],s.ao,s.ij⟩ else .inl (3,pk)
   | .nQ r=>.inr ⟨s.names,s.ia,s.ao ++ [r],s.ij ++ [pk]⟩:=by unfold jY;rw[if_neg h0];cases fY ln<;>rfl
  have ka:=Sg h0;simp only[dS]at ka;generalize Lib.trimB ln 32=tz at oJ hz;refine rg [2,3,4,5,6,7,8,27] [2,3,4,5,6,7,801,802,803,804] (cy rfl) fun K' ai=>?_;(repeat refine aq fun Kq ae=>?_;simp[ab,dS,qF,qG,ay,aJ,hz];(repeat refine⟨aa,?_⟩);refine ae _ ?_);refine aq fun Kq ae=>?_;simp[ab,dS,qF,qG,ay,aJ,hz];refine ch.data (oJ) bq (by first | exact D.aV _ | simp[aL,IS,AT,D.le,D.le.go,D.le_refl,D.aV,ab,dS,qF,qG,ay,aJ,hz]) ?_;refine ae _ ?_;simp only[aR,cw];(repeat refine aq fun Kq ae=>?_;simp[ab,dS,qF,qG,ay,aJ,hz];(repeat refine⟨aa,?_⟩);refine ae _ ?_);refine aZ (ai _ (AW.st (by simp[ab,dS,qF,qG,ay,aJ,hz];rfl) ?_));refine eJ (by simp[hz]) ?_;have we:=fun c off=>Up (s:=ln) (c:=c) (off:=off)
  cases yA:fY ln with
  | form=>
   rw[yA]at ka fC;dsimp only at fC;simp only[cQ]at ka;have hp:=jA _ _ fC;refine bB fw ka [2,3,4,5,6,7,8,9,10,11] [2,3,4,5,6,7,801,802,803,804] ?_;refine ah fun K9 gd=>af (Aq fw acY) [2,3,4,5,6,7,8,9,10,11,12,13] [2,3,4,5,6,7,801,802,803,804] ?_;refine af fw [2,3,4,5,6,7,8,9,10,11,12,39] [2,3,4,5,6,7,801,802,803,804] ?_;refine aj (ax (gd _ ?_));refine bd (ah fun ky gb=>?_);refine af fw [2,3,4,5,6,7,8,9,10,66] [2,3,4,5,6,7,801,802,803,804] ?_;refine aD (ax (gb _ ?_));refine aD (CZ (aw _) ag ([3]) ([(1,7),(5,2),(6,3)]) (List.range 7) [2,3] [2,3,4,5,6,7,801,802,803,804] (cy rfl) ag fun K' ai=>?_);(repeat refine G7 rfl fun K2 ak=>?_;simp[ab,dS];(repeat refine⟨aa,?_⟩);refine ak _ ?_;clear ak K2);refine G8 (ai _ ?_);refine AW.st (by simp[ab,dS];rfl) ?_;refine bt (Exists.intro _ (And.intro (aY.env (by intro i x h;cases h)) ?_));simp[D.le,D.le.go,aL,hp,ir,j4,ey,kH,bC,qH,ab]
  | bad c off=>
   rw[yA]at ka fC;dsimp only at fC;simp only[cQ]at ka;have hp:=jA _ _ fC;have ho:=we c off yA
   have cK:((pk+off:Nat):Int)=(pk:Int)+(off:Int):=aa
   refine bB fw ka [2,3,4,5,6,7,8,9,10,11] [2,3,4,5,6,7,801,802,803,804] ?_;refine ah fun K9 gd=>af (Aq fw acY) [2,3,4,5,6,7,8,9,10,11,12,13] [2,3,4,5,6,7,801,802,803,804] ?_;refine af fw [2,3,4,5,6,7,8,9,10,11,12,39] [2,3,4,5,6,7,801,802,803,804] ?_;refine aD (CZ (aw _) ag ([12]) ([(4,999),(5,7),(9,999),(14,2),(15,3)]) (List.range 16) [2,3] [2,3,4,5,6,7,801,802,803,804] (cy rfl) ag fun K' ai=>?_);(repeat refine G7 rfl fun K2 ak=>?_;simp[ab,dS];(repeat refine⟨aa,?_⟩);refine ak _ ?_;clear ak K2);refine G8 (ai _ ?_);refine AW.st (by simp[ab,dS];rfl) ?_;refine bt (Exists.intro _ (And.intro (aY.env (by intro i x h;cases h)) ?_));simp[D.le,D.le.go,aL,hp,ir,j4,ey,kH,bC,qH,ab,cK]
  | name n=>
   rw[yA]at ka fC;dsimp only at fC;simp only[cQ]at ka;have k8:bH n=[.v (.string (bs n.name)),.v (.int .i64 n.kind),.v (.int .i64 n.count)]:=rfl
   have Jg:(s.names ++ [n]).map bH=NN ++ [bH n]:=by rw[abt,sL];rfl
   have D5:dh (s.ia ++ [pk])=NA ++ [[.v (.int .i64 pk)]]:=by rw[<- vR];unfold dh;rw[abt];rfl
   generalize bs n.name=nm at k8;generalize n.kind=kd at k8;generalize n.count=ct at k8;rw[k8]at ka Jg;refine bB fw ka [2,3,4,5,6,7,8,9,10,11] [2,3,4,5,6,7,801,802,803,804] ?_;refine ah fun K9 gd=>af (Aq fw acY) [2,3,4,5,6,7,8,9,10,11,12,13] [2,3,4,5,6,7,801,802,803,804] ?_;refine af fw [2,3,4,5,6,7,8,9,10,11,12,39] [2,3,4,5,6,7,801,802,803,804] ?_;refine aj (ax (gd _ ?_));refine bd (ah fun ky gb=>?_);refine af fw [2,3,4,5,6,7,8,9,10,66] [2,3,4,5,6,7,801,802,803,804] ?_;refine aj ?_;by_cases nE:s.ao=[]
   .rw[if_pos nE]at fC;have hn:=fI _ fC;have nF:RA=[]:=ab5.1 (by rw[uf,nE];rfl);subst nF;refine fc fw gb [2,3,4,5,6,7,8,9,10,66] [2,3,4,5,6,7,801,802,803,804] ?_;refine aj (af fw [2,3,4,5,6,7,8,9,10,81] [2,3,4,5,6,7,801,802,803,804] ?_);refine aj (C2 (aw _) ag ([(6,(801,59)),(10,(803,63))]) ([(7,[801]),(8,[801]),(9,[801]),(11,[803])]) ([0,1,2,3,4,7,8,5,9,6,11,10,12,13]) ag fun K' ai=>?_);(repeat refine zK rfl fun K2 ak=>?_;simp[ab,dS,sh];(repeat refine⟨aa,?_⟩);refine ak _ ?_;clear ak K2);refine zL (ai _ ?_);refine eg _ (AW.norm [2,3,4,5,6,7,8] [2,3,4,5,6,7,801,802,803,804] (cy rfl) (AW.st (by simp[ab,dS,sh];rfl) ?_));have qf:=(Aq fw @bD);refine w6 ?_;(try simp only[bY,b9]);refine And.intro ⟨_,hn⟩ ?_;rw[hinv _ _ hn,cR];dsimp only;rw[Jg,D5,rA,vT];unfold tv;refine (show aY _ _ _ _ _ ⟨bl [],au _⟩ from ?_);refine bL (Aq fw @cR)
   .rw[if_neg nE]at fC;have hp:=jA _ _ fC
    have nF:0 < RA.length:=by rw[uf];exact abG.2 nE
    have qf:=(Aq fw @nF);refine nN gb [2,3,4,5,6,7,8,9,10,66] [2,3,4,5,6,7,801,802,803,804] ?_;refine eJ (by simp[nF]) (CZ (aw _) ag ([3]) ([(1,7),(5,2),(6,3)]) (List.range 7) [2,3] [2,3,4,5,6,7,801,802,803,804] (cy rfl) ag fun K' ai=>?_);(repeat refine G7 rfl fun K2 ak=>?_;simp[ab,dS];(repeat refine⟨aa,?_⟩);refine ak _ ?_;clear ak K2);refine G8 (ai _ ?_);refine AW.st (by simp[ab,dS];rfl) ?_;refine bt (Exists.intro _ (And.intro (aY.env (by intro i x h;cases h)) ?_));simp[D.le,D.le.go,aL,hp,ir,j4,ey,kH,bC,qH,ab]
  | nQ r=>
   rw[yA]at ka fC;dsimp only at fC;simp only[cQ]at ka;have hn:=fI _ fC;have E8:=Px r.cond;have gO:cW r=[.v (.int .i64 r.kind),.v (.string (bs r.name)),dC r.cond]:=rfl
   have Ji:(s.ao ++ [r]).map cW=RR ++ [cW r]:=by rw[abt,rA];rfl
   have D5:dh (s.ij ++ [pk])=RA ++ [[.v (.int .i64 pk)]]:=by rw[<- vT];unfold dh;rw[abt];rfl
   generalize bs r.name=nm at gO;generalize r.kind=kd at gO;generalize dC r.cond=dc at gO E8;rw[gO]at ka Ji;refine bB fw ka [2,3,4,5,6,7,8,9,10,11] [2,3,4,5,6,7,801,802,803,804] ?_;refine ah fun K9 gd=>af (Aq fw acY) [2,3,4,5,6,7,8,9,10,11,12,13] [2,3,4,5,6,7,801,802,803,804] ?_;refine af fw [2,3,4,5,6,7,8,9,10,11,12,39] [2,3,4,5,6,7,801,802,803,804] ?_;refine aj (ax (gd _ ?_));refine bd (ah fun ky gb=>?_);refine af fw [2,3,4,5,6,7,8,9,10,66] [2,3,4,5,6,7,801,802,803,804] ?_;refine aj (fc fw gb [2,3,4,5,6,7,8,9,10,66] [2,3,4,5,6,7,801,802,803,804] ?_);refine aj (af fw [2,3,4,5,6,7,8,9,10,81] [2,3,4,5,6,7,801,802,803,804] ?_);refine aD (C2 (aw _) ag ([(6,(802,89)),(10,(804,93))]) ([(7,[802]),(8,[802]),(9,[802]),(11,[804])]) ([0,1,2,3,4,7,8,5,9,6,11,10,12,13]) ag fun K' ai=>?_);(repeat refine zK rfl fun K2 ak=>?_;simp[ab,dS,sh,E8];(repeat refine⟨aa,?_⟩);refine ak _ ?_;clear ak K2);refine zL (ai _ ?_);refine eg _ (AW.norm [2,3,4,5,6,7,8] [2,3,4,5,6,7,801,802,803,804] (cy rfl) (AW.st (by simp[ab,dS,sh,E8];rfl) ?_));have qf:=(Aq fw @bD);refine w6 ?_;(try simp only[bY,b9]);refine And.intro ⟨_,hn⟩ ?_;rw[hinv _ _ hn,cR];dsimp only;rw[Ji,D5,sL,vR];unfold tv;refine (show aY _ _ _ _ _ ⟨bl [],au _⟩ from ?_);refine bL (Aq fw @cR)
end Go.Proofs.YtoohljflflnbeaaGreatDoor
namespace Go.Proofs.YtoohljflflnbeaaGreatDoor
open Go.Av
def Uk (S P:Int) (n:Nat):Prop:=S < 1\/3 < S\/P < 0\/2 < P\/n < 1\/3 < n
instance (S P:Int) (n:Nat):Decidable (Uk S P n):=inferInstanceAs (Decidable (_\/_))
open Go.Shelf
theorem TB (G:aF) (i:Nat) (hi:i < 100):aH prog G 82 [ab i] (dS (Lib.decDigits i)):=by
 refine aH.pa (fU.of func82 rfl rfl) fun X w vs bc cm cY=>?_
 obtain⟨u,rfl⟩:∃ u,vs = #[u]:=by
  match vs,bc with
  | ⟨[u]⟩,_=>exact⟨u,rfl⟩
 have hu:=(cm 0 u _ rfl rfl).scalar;subst hu;have hL:Lays.n171 prog Tryz.KY:={ Tryz.KX with };refine (Any.strconv_Itoa_small hL i hi w).mono fun e w' ⟨he,hw⟩=>⟨_,he,by rw[hw];exact cT.refl _,?_⟩;exact .v _
end Go.Proofs.YtoohljflflnbeaaGreatDoor
namespace Go.Proofs.YtoohljflflnbeaaGreatDoor
open Go.Av
theorem aN (a b:List UInt8):ay .add (bs a) (bs b)=some (a.length+b.length<=9223372036854775807,.string (bs (a ++ b))):=by
 unfold ay;simp only[bD,Ih]
abbrev qi (n:Nat):List UInt8:=Lib.decDigits n
theorem AD {n:Nat} (h:n < 100):(qi n).length<=2:=by
 have:∀ k:Fin 100,(Lib.decDigits k.val).length<=2:=by decide +kernel
 exact this ⟨n,h⟩
theorem js:(⟨#[32]⟩:ByteArray)=bs [32]:=rfl
theorem bQ:(⟨#[10]⟩:ByteArray)=bs [10]:=rfl
theorem KD (G:aF) (i:Int) (h:0<=i/\i < 100):aH prog G 82 [.v (.int .i64 i)] (.v (.string (bs (qi i.toNat)))):=by
 have:=TB G i.toNat aa
 rwa [ab,Int.toNat_of_nonneg h.1]at this
theorem Y5 (G:aF) (n:Int) (h:0<=n/\n < 100):aH prog G 98 [.sl none [[.v (.int .i64 n)]]] (.v (.string (bs (qi n.toNat)))):=by
 have hI:=KD G n h;have hd:=AD (n:=n.toNat) aa;have hj:=BM G [qi n.toNat] [32] (by simp[Lib.join_one];omega) al;rw[Lib.join_one]at hj;simp only[abj,acn,dS]at hj;generalize qi n.toNat=tx at hI hd hj;refine aH.aU (aw _) func98 rfl rfl (rs:=[.tmp 2]) results98 (by simp[ntmps98]) fun X=>?_;simp only[ntmps98,List.map];refine aO [0] [] ?_;refine aO [0,3] [] ?_;refine ah fun K1 aI=>aO [3,6,7,8] [] ?_;refine eD (S:=Nat) (fun i=>i<=1) (fun i=>⟨bl [(3,.own 300 0 i),(6,.d (.sl none [[.v (.int .i64 n)]])),(7,int 1),(8,int i)],au [(300,.sl 9 1 (List.take i [[.v (.string (bs tx))]]))]⟩) (fun i=>1 - i) 0 ?_ al ?_
 .refine (aY.qb 3 300 9 1 rfl rfl).trans ?_;refine ko
 .intro i hi;refine aO [3,6,7,8,9] [300] ?_;refine ah fun K2 ak=>ga (b:=i < 1) (by simp;omega) (fun hc=>?_) (fun hc=>?_)
  .obtain rfl:i=0:=aa
   refine ax (ak _ (ah fun K3 bF=>bd (aO [3,5,6,7,8] [300] ?_)));refine ea (aw _) fun K' ai=>?_;(repeat refine aq fun Kq ae=>?_;simp;(repeat refine⟨aa,?_⟩);refine ae _ ?_);refine aq fun Kq ae=>?_;simp;refine WM (hI) bq (ae _ ?_);simp only[aR,cw];(repeat refine aq fun Kq ae=>?_;simp;(repeat refine⟨aa,?_⟩);refine ae _ ?_);refine aZ (ai _ ?_);refine bF _ (AW.norm [3,6,7,8] [300] aT (AW.st bq ?_));refine fK ?_;(try simp only[bY,b9]);refine cC.mk 1 aa aa ?_;refine ko
  .obtain rfl:i=1:=aa
   refine cX (aI _ (AW.imp (aY.freeze 300 trivial) ?_));refine AW.st bq ?_;have qf:=@js;refine eC hj [2] [] ?_;exact kr
def pb (a:AV) (l:List UInt8):List (Nat×Row):=[(500,.box 182 [a,.own 501 0 l.length]),(501,.sl 5 1 (l.map fun b=>[.v (.int .u8 b.toNat)]))]
def C8 (a:AV):Prop:=a = .d (.v (.pointer none))\/a = .ref 500 0 0
section
variable {X Mv:Nat->Prop} {w w':World} {μ:Mu} {H:Heap}
theorem WQ (hs:eu w X μ H) {r b:Nat} {m:jh} (hm:μ r=some m) (hb:m.fh=some b) (hz:w'.heap.size=w.heap.size) (ho:w'.os=w.os) (ht:w'.tape=w.tape) (nD:w'.output=w.output)
  (pM:∀ k,k≠b->w'.heap[k]? = w.heap[k]?) {row:Row} (ok:Ev Mv w μ w' μ->iH w' X μ m row):eu w' X μ (bk H r row)/\Ev Mv w μ w' μ:=by
 have ev:Ev Mv w μ w' μ:=⟨aa,ho,ht,nD,fun k hk hr=>⟨pM k fun e=>hr ⟨r,m,hm,e ▸ hb⟩,hr⟩,fun _ _ h _=>h⟩;have ok:=ok ev;refine⟨⟨fun q fL hq=>?_,fun q m' hq=>?_,hs.inj,hs.frame,fun b hb=>by have:=hs.fits b hb;omega⟩,ev⟩
 .dsimp only[bk]at hq;split at hq
  .rename_i e;subst e;obtain rfl:=AI hq;exact⟨m,hm,ok⟩
  .rename_i e;obtain⟨m',cD,sb⟩:=hs.rows q fL hq;exact⟨m',cD,sb.same ev (fun _ _ h=>h) fun k hk=>pM k fun e'=>e (hs.inj q r m' m k cD hm hk (e' ▸ hb))⟩
 .by_cases e:q=r
  .exact⟨row,by simp[bk,e]⟩
  .obtain⟨fL,lg⟩:=hs.j6 q m' hq;exact⟨fL,by simp[bk,e,lg]⟩
end
theorem Iw (G:aF) (a:AV) (ha:C8 a) (l:List UInt8):MC prog G [500,501] 168 [.ref 500 0 0] (au (pb a l)) (.d (.bI [])) (au (pb (.ref 500 0 0) l)):=by
 refine⟨fU.of func168 rfl rfl,fun X w μ vs hs cY bc hv=>?_⟩
 obtain⟨v,rfl⟩:∃ v,vs = #[v]:=by
  match vs,bc with
  | ⟨[v]⟩,_=>exact⟨v,rfl⟩
 obtain⟨m,b,hm,hb,rfl⟩:=(hv 0 v _ rfl rfl).jd;rw[ab6,abe];have hL:Lays.n240 prog Tryz.BW:={ Tryz.BV with };obtain⟨m',cD,ok⟩:=hs.rows 500 (.box 182 [a,.own 501 0 l.length]) rfl;rw[hm]at cD;obtain rfl:=AI cD
 cases ok with
 | box bp SU jl hh hn hr hx=>
  rename_i b' cur;rw[hb]at bp;obtain rfl:=AI bp;have cK:cur.size=2:=(hx rfl).symm
  obtain⟨x0,x1,rfl⟩:∃ x0 x1,cur = #[x0,x1]:=by
   match cur,cK with
   | ⟨[x0,x1]⟩,_=>exact⟨x0,x1,rfl⟩
  have h0:=hr 0 x0 a rfl rfl;have eG:b < w.heap.size:=hs.lB ⟨500,m,hm,hb⟩
  rcases ha with rfl | rfl
  .have gA:x0 = .pointer none:=h0.scalar;subst gA;refine (Any.Builder_copyCheck_fresh hL Tryz.sq.toX72 b w (by rw[Lib.cell_of_heap hh];rfl) (by simp[World.shape?,hh];rfl) (Lib.frozen_of_heap hh 0)).mono fun e w' ⟨he,hw⟩=>?_;subst hw
   have RO:(w.setCell ⟨b,0,none⟩ (.pointer (some ⟨b,0,none⟩))).heap[b]? = some (.cells #[.pointer (some ⟨b,0,none⟩),x1] 182 (0,0)):=by
    simp[World.setCell,aca,hh]
   obtain⟨h1,h2⟩:=WQ (Mv:=gS [500,501]) (w':=w.setCell ⟨b,0,none⟩ (.pointer (some ⟨b,0,none⟩))) hs hm hb (by simp[World.setCell]) rfl rfl rfl (fun k hk=>by simp[World.setCell,aca,abY hk]) (row:=.box 182 [.ref 500 0 0,.own 501 0 l.length]) fun ev=>
    .box hb rfl jl RO al (hx:=fun _=>rfl) fun j u c hu hc=>by
     match j,hu,hc with
     | 0,hu,hc=>
      simp at hu hc;subst hu hc;have:=RV.ref (w:=w.setCell ⟨b,0,none⟩ (.pointer (some ⟨b,0,none⟩))) (X:=X) (e:=0) (j:=0) hm hb;simpa using this
     | 1,hu,hc=>exact (hr 1 u c (by simpa using hu) hc).same ev fun _ _ h=>h
     | j+2,hu,hc=>simp at hc
   have hH:bk (au (pb (.d (.v (.pointer none))) l)) 500 (.box 182 [.ref 500 0 0,.own 501 0 l.length])=au (pb (.ref 500 0 0) l):=by
    funext q;by_cases h:q=500
    .subst h;rfl
    .have hq:(q == 500)=false:=by simpa using h
     simp only[bk,if_neg h,pb,au,List.lookup,hq]
   rw[hH]at h1;exact⟨_,_,_,μ,he,⟨rfl,rfl⟩,.d (.bI rfl fun j u c hu hc=>by simp at hu),h1,h2⟩
  .obtain⟨m2,b2,JS,eV,gA⟩:=h0.jd;rw[hm]at JS;obtain rfl:=AI JS;rw[hb]at eV;obtain rfl:=AI eV;rw[ab6,abe]at gA;subst gA;refine (Any.Builder_copyCheck_used hL Tryz.sq.toX72 b w (by rw[Lib.cell_of_heap hh];rfl)).mono fun e w' ⟨he,hw⟩=>?_;subst hw;exact⟨_,_,_,μ,he,⟨rfl,rfl⟩,.d (.bI rfl fun j u c hu hc=>by simp at hu),hs,.refl _ _ _⟩
end Go.Proofs.YtoohljflflnbeaaGreatDoor
namespace Go.Proofs.YtoohljflflnbeaaGreatDoor
open Go.Av
theorem Il (s:List UInt8):od (bs s)=s.map fun b=>[D.v (.int .u8 b.toNat)]:=rfl
theorem NH (G:aF) (a:AV) (ha:C8 a) (l s:List UInt8) (hn:l.length+s.length<=2^40):MC prog G [500] 94 [.ref 500 0 0,.d (dS s)] (au (pb a l)) (.d (.bI [ab s.length,.v .nilIface])) (au (pb (.ref 500 0 0) (l ++ s))):=by
 have cA:=Iw G a ha l;simp only[pb]at cA ⊢;have da:List.take l.length (l.map fun b=>[D.v (.int .u8 b.toNat)])=l.map fun b=>[D.v (.int .u8 b.toNat)]:=sh al
 rcases ha with rfl | rfl
 .refine MC.aU (aw _) func94 rfl rfl (rs:=[.tmp 4,.tmp 5]) results94 (by simp[ntmps94]) rfl fun X=>?_;simp only[ntmps94];have fw:=acW;refine af fw [0,1] [500,501] ?_;refine bA fw cA [0,1] [500,501] ?_;have qf:=(Aq fw (Aq @Il (Aq @bD @da)));refine aC [1] [500,501] ?_;have qf:=(Aq fw @bD);refine aC [4,5] [500,501] ?_;exact bg (Aq fw @acC)
 .refine MC.aU (aw _) func94 rfl rfl (rs:=[.tmp 4,.tmp 5]) results94 (by simp[ntmps94]) rfl fun X=>?_;simp only[ntmps94];have fw:=acW;refine af fw [0,1] [500,501] ?_;refine bA fw cA [0,1] [500,501] ?_;have qf:=(Aq fw (Aq @Il (Aq @bD @da)));refine aC [1] [500,501] ?_;have qf:=(Aq fw @bD);refine aC [4,5] [500,501] ?_;exact bg (Aq fw @acC)
open Go.RowKit Go.Shelf
section
variable {P:Program} {ρ:Ren}
theorem YF (L:Lays.n169 P ρ) (E:Builder.Extra P ρ) (b g cap:Nat) (p:Value) (cur:Array Value) (l:List UInt8) (h0:l≠[]) (w:World)
  (iJ:w.heap[b]? = some (.cells #[p,.slice (some ⟨g,0,none⟩) l.length cap] (ρ.t 72) (0,0))) (hg:w.heap[g]? = some (.cells cur (ρ.t 5) (0,0))) (hn:l.length<=cap) (Ri:cap<=maxLen) (cK:cur.size=cap)
  (dW:∀ (j:Nat) x,l[j]? = some x->cur[j]? = some (.int .u8 x.toNat)) :
  Calls P (ρ.f 169) #[.pointer (some ⟨b,0,none⟩)] w fun e w'=>e = .returned (.string ⟨l.toArray⟩)/\w'=w.drew.freeze ⟨g,0,none⟩ l.length:=by
 have qq:w.drew.heap[g]? = some (.cells cur (ρ.t 5) (0,0)):=hg
 have c1:w.drew.cell? ⟨b,1,none⟩=some (.slice (some ⟨g,0,none⟩) l.length cap):=by
  have:w.drew.heap[b]? = some (.cells #[p,.slice (some ⟨g,0,none⟩) l.length cap] (ρ.t 72) (0,0)):=iJ;rw[Lib.cell_of_heap this];rfl
 have ka:=abG.2 h0
 have ZW:(Builtin.unsafeSliceData_ #[(ρ.t 37)] (ρ.t 127) #[.slice (some ⟨g,0,none⟩) l.length cap]).run P w.drew = .ok (.pointer (some ⟨g,0,none⟩)) w.drew:=
  Lib.run_unsafeSliceData_row _ _ _ _ _ _ aa
 have ZY:(Builtin.unsafeString_ #[(ρ.t 127),(ρ.t 3)] (ρ.t 9) #[.pointer (some ⟨g,0,none⟩),.int .i64 l.length]).run P w.drew = .ok (.string ⟨l.toArray⟩) (w.drew.freeze ⟨g,0,none⟩ l.length):=by
  refine Lib.run_unsafeString_row w.drew (ρ.t 127) (ρ.t 3) (ρ.t 9) (ρ.t 5) L.t127 E.cellsByte g cur.size (by simp[World.shape?,qq]) l h0 aa (by unfold maxLen at Ri;omega) fun j x hx=>?_;rw[addr_add,cell_of_row w.drew g _ cur (ρ.t 5) (0,0) qq];simpa using dW j x hx
 have mixed:=L.mixed;have t72:=L.t72;have a72:=L.a72;have z72:=L.z72;have v72:=L.v72;have u72:=run_underlying L.t72;have t70:=L.t70;have a70:=L.a70;have z70:=L.z70;have v70:=L.v70;have u70:=run_underlying L.t70;have t37:=L.t37;have a37:=L.a37;have z37:=L.z37;have v37:=L.v37;have u37:=run_underlying L.t37;have t127:=L.t127;have a127:=L.a127;have z127:=L.z127;have v127:=L.v127;have aa0:=run_underlying L.t127;have t3:=L.t3;have a3:=L.a3;have z3:=L.z3;have v3:=L.v3;have u3:=run_underlying L.t3;have t9:=L.t9;have a9:=L.a9;have z9:=L.z9;have v9:=L.v9;have u9:=run_underlying L.t9;have t5:=E.t5;have a5:=E.a5;have z5:=E.z5;have v5:=E.v5;have u5:=run_underlying E.t5
 go_enter L.f169,Body.n169_ntmps ρ
 go_wp2
 go_region_o
 all_goals (go_wp2;go_ret;exact⟨rfl,rfl⟩)
end
theorem YG (G:aF) (a:AV) (l:List UInt8):MC prog G [] 96 [.ref 500 0 0] (au (pb a l)) (.d (dS l)) eQ:=by
 refine⟨fU.of func96 rfl rfl,fun X w μ vs hs cY bc hv=>?_⟩
 obtain⟨v,rfl⟩:∃ v,vs = #[v]:=by
  match vs,bc with
  | ⟨[v]⟩,_=>exact⟨v,rfl⟩
 obtain⟨m,b,hm,hb,rfl⟩:=(hv 0 v _ rfl rfl).jd;rw[ab6,abe];have hL:Lays.n169 prog Tryz.BW:={ Tryz.BV with }
 have fin:∀ w':World,w.heap.size<=w'.heap.size->w'.os=w.os->w'.tape=w.tape->w'.output=w.output->(∀ k,k < w.heap.size->¬ gH μ k->w'.heap[k]? = w.heap[k]?)->
   eu w' X (fun _=>none) eQ/\Ev (gS []) w μ w' (fun _=>none):=fun w' h1 ho ht nD hk=>
  ⟨eu.none fun b hb=>abu (hs.fits b hb) h1,⟨h1,ho,ht,nD,fun k jm hr=>⟨hk k jm hr,fun ⟨_,_,h,_⟩=>by cases h⟩,fun q m _ hn=>absurd rfl hn⟩⟩
 obtain⟨m',cD,ok⟩:=hs.rows 500 (.box 182 [a,.own 501 0 l.length]) rfl;rw[hm]at cD;obtain rfl:=AI cD
 cases ok with
 | box bp SU jl hh hn hr hx=>
  rename_i b' cur;rw[hb]at bp;obtain rfl:=AI bp;have cK:cur.size=2:=(hx rfl).symm
  obtain⟨x0,x1,rfl⟩:∃ x0 x1,cur = #[x0,x1]:=by
   match cur,cK with
   | ⟨[x0,x1]⟩,_=>exact⟨x0,x1,rfl⟩
  obtain⟨m5,JT,Fe⟩:=(hr 1 x1 (.own 501 0 l.length) rfl rfl).lp;obtain⟨m6,JU,LD⟩:=hs.rows 501 (.sl 5 1 (l.map fun b=>[.v (.int .u8 b.toNat)])) rfl;rw[JT]at JU;obtain rfl:=AI JU
  rcases Fe with⟨iJ,rfl,_,kM⟩ | ⟨g,iJ,rfl,iM⟩
  .have hl:l=[]:=abx kM;subst hl;refine (Any.Builder_String_nil hL Tryz.sq w.heap.size b x0 w hh).mono fun e w' ⟨he,eG⟩=>?_;obtain⟨h1,h2⟩:=fin w' eG.size eG.os eG.tape eG.output fun k hk _=>eG.block k hk;exact⟨_,_,_,_,he,⟨rfl,rfl⟩,.d (.v _),h1,h2⟩
  .generalize rG:(l.map fun b=>[D.v (.int .u8 b.toNat)])=els at LD
   cases LD with
   | nil h _=>rw[h]at iJ;cases iJ
   | sl Jt SS JF Z3 hn5 Sj Z6 hz5 SM=>
    rename_i g' Ix;rw[iJ]at Jt;obtain rfl:=AI Jt;rw[SS,ab6,Nat.sub_zero]at hh;by_cases h0:l=[]
    .subst h0;by_cases gA:m5.cap=0
     .rw[gA]at hh;refine (Any.Builder_String_noroom hL Tryz.sq w.heap.size b g x0 Ix w (aa8 _) hh JF).mono fun e w' ⟨he,eG⟩=>?_;obtain⟨h1,h2⟩:=fin w' eG.size eG.os eG.tape eG.output fun k hk _=>eG.block k hk;exact⟨_,_,_,_,he,⟨rfl,rfl⟩,.d (.v _),h1,h2⟩
     .refine (Any.Builder_String_room hL Tryz.sq w.heap.size b g m5.cap x0 w gA hh).mono fun e w' ⟨he,eG⟩=>?_;obtain⟨h1,h2⟩:=fin w' eG.size eG.os eG.tape eG.output fun k hk _=>eG.block k hk;exact⟨_,_,_,_,he,⟨rfl,rfl⟩,.d (.v _),h1,h2⟩
    .refine (YF hL Tryz.sq b g m5.cap x0 Ix l h0 w hh JF aa Sj aa fun j x hx=>?_).mono fun e w' ⟨he,hw⟩=>?_
     .obtain⟨u,hu,cm⟩:=SM j 0 [.v (.int .u8 x.toNat)] _ (by rw[<- rG,aa3,hx];rfl) rfl;rw[ab3,abT]at hu;rw[hu,cm.scalar]
     .subst hw
      have SZ:(w.drew.freeze ⟨g,0,none⟩ l.length).heap.size=w.drew.heap.size:=by simp[World.freeze,h0]
      have Fc:(w.drew.freeze ⟨g,0,none⟩ l.length).os=w.os/\(w.drew.freeze ⟨g,0,none⟩ l.length).tape=w.tape/\(w.drew.freeze ⟨g,0,none⟩ l.length).output=w.output:=by
       simp only[World.freeze,ab5,h0,if_false];exact⟨rfl,rfl,rfl⟩
      obtain⟨h1,h2⟩:=fin (w.drew.freeze ⟨g,0,none⟩ l.length) (Nat.le_of_eq SZ.symm) Fc.1 Fc.2.1 Fc.2.2 fun k hk hr=>by
       have bw:k≠g:=fun e=>hr ⟨501,m5,JT,e ▸ iJ⟩
       have e:(w.drew.freeze ⟨g,0,none⟩ l.length).heap[k]? = w.drew.heap[k]?:=by simp[World.freeze,h0,aca,abY bw]
       exact e
      exact⟨_,_,_,_,he,⟨rfl,rfl⟩,.d (.v _),h1,h2⟩
end Go.Proofs.YtoohljflflnbeaaGreatDoor
namespace Go.Proofs.YtoohljflflnbeaaGreatDoor
open Go.Av
theorem Zz (G:aF) (a:AV) (ha:C8 a) (l:List UInt8) (c:UInt8) (hn:l.length+1<=2^40):MC prog G [500] 95 [.ref 500 0 0,.d (.v (.int .u8 c.toNat))] (au (pb a l)) (.d (.v .nilIface)) (au (pb (.ref 500 0 0) (l ++ [c]))):=by
 have cA:=Iw G a ha l;simp only[pb]at cA ⊢;have da:List.take l.length (l.map fun b=>[D.v (.int .u8 b.toNat)])=l.map fun b=>[D.v (.int .u8 b.toNat)]:=sh al
 rcases ha with rfl | rfl
 .refine MC.aU (aw _) func95 rfl rfl (rs:=[.tmp 4]) results95 (by simp[ntmps95]) rfl fun X=>?_;simp only[ntmps95];have fw:=acW;refine af fw [0,1] [500,501] ?_;refine bA fw cA [0,1] [500,501] ?_;have qf:=(Aq fw @da);refine aC [] [500,501] ?_;refine af fw [4] [500,501] ?_;exact bg fw
 .refine MC.aU (aw _) func95 rfl rfl (rs:=[.tmp 4]) results95 (by simp[ntmps95]) rfl fun X=>?_;simp only[ntmps95];have fw:=acW;refine af fw [0,1] [500,501] ?_;refine bA fw cA [0,1] [500,501] ?_;have qf:=(Aq fw @da);refine aC [] [500,501] ?_;refine af fw [4] [500,501] ?_;exact bg fw
def lX (l:List UInt8):List (List D):=l.map fun b=>[.v (.int .u8 b.toNat)]
theorem dU:lX []=[]:=rfl
theorem wS (G:aF) (c s c':List UInt8) (h:c'=c ++ s) (hn:c.length+s.length<=2^40):MC prog G [500] 94 [.ref 500 0 0,.d (.v (.string (bs s)))] (au [(500,.box 182 [.ref 500 0 0,.own 501 0 (c).length]),(501,.sl 5 1 (lX (c)))]) (.d (.bI [ab s.length,.v .nilIface])) (au [(500,.box 182 [.ref 500 0 0,.own 501 0 (c').length]),(501,.sl 5 1 (lX (c')))]):=by
 subst h;exact NH G (.ref 500 0 0) (.inr rfl) c s hn
theorem CP (G:aF) (s:List UInt8) (hn:s.length<=2^40):MC prog G [500] 94 [.ref 500 0 0,.d (.v (.string (bs s)))] (au [(500,.box 182 [.d (.v (.pointer none)),.own 501 0 0]),(501,.sl 5 1 [])]) (.d (.bI [ab s.length,.v .nilIface])) (au [(500,.box 182 [.ref 500 0 0,.own 501 0 (s).length]),(501,.sl 5 1 (lX (s)))]):=
 NH G (.d (.v (.pointer none))) (.inl rfl) [] s (by simpa using hn)
theorem wB (G:aF) (c:List UInt8) (b:UInt8) (c':List UInt8) (h:c'=c ++ [b]) (hn:c.length+1<=2^40):MC prog G [500] 95 [.ref 500 0 0,.d (.v (.int .u8 b.toNat))] (au [(500,.box 182 [.ref 500 0 0,.own 501 0 (c).length]),(501,.sl 5 1 (lX (c)))]) (.d (.v .nilIface)) (au [(500,.box 182 [.ref 500 0 0,.own 501 0 (c').length]),(501,.sl 5 1 (lX (c')))]):=by
 subst h;exact Zz G (.ref 500 0 0) (.inr rfl) c b hn
theorem qR:(10:UInt8).toNat=10:=rfl
def sO (k:Int):List UInt8:=if k=1 then [105,110,112,117,116,32] else if k=2 then [99,111,105,108,32] else if k=3 then [116,105,109,101,114,32] else [99,111,117,110,116,101,114,32]
def Dy (n:gE):List UInt8:=if 3<=n.kind then 32 :: qi n.count.toNat else []
def pZ (n:gE):List UInt8:=sO n.kind ++ n.name ++ Dy n ++ [10]
def jb (l:List gE):List UInt8:=l.flatMap pZ
def j7 (k:Int):List UInt8:=if k=1 then [] else if k=2 then [115,101,116,32] else if k=3 then [114,101,115,101,116,32] else if k=4 then [114,117,110,32] else if k=5 then [99,111,117,110,116,32] else [122,101,114,111,32]
def vD (c:Option Ex):List UInt8:=match c with
 | none=>[]
 | some e=>aB e 0
def qL (r:gy):List UInt8:=j7 r.kind ++ r.name ++ [32,61,32] ++ vD r.cond ++ [10]
def iB (l:List gy):List UInt8:=l.flatMap qL
def zx (p:dJ):List UInt8:=jb p.names ++ iB p.ao
structure sv (p:dJ):Prop where
 nm:∀ n∈p.names,(1<=n.kind/\n.kind<=4)/\(0<=n.count/\n.count < 100)/\n.name.length<=2^10
 rg:∀ r∈p.ao,(1<=r.kind/\r.kind<=6)/\r.name.length<=2^10/\∃ e,r.cond=some e/\bE e<=2^28/\ew e
 nl:p.names.length<=100
 rl:p.ao.length<=100
 ne:p.names=[]->p.ao=[]
theorem Et (k:Int):1<=(sO k).length/\(sO k).length<=8:=by
 unfold sO;repeat' split
 all_goals simp
theorem JA (k:Int):(j7 k).length<=6:=by
 unfold j7;repeat' split
 all_goals simp
theorem Ln {n:gE} (h:(0<=n.count/\n.count < 100)/\n.name.length<=2^10):1<=(pZ n).length/\(pZ n).length<=2^11:=by
 have h1:=Et n.kind;have h2:=AD (n:=n.count.toNat) aa
 have h3:(Dy n).length<=3:=by unfold Dy;split<;>simp;omega
 simp only[pZ,abb,aa9,abX];omega
theorem Hy (e:Ex):(aB e 0).length<=bE e:=acb (tM e 0).1 (pj e)
theorem WE {r:gy} (h:r.name.length<=2^10/\∃ e,r.cond=some e/\bE e<=2^28/\ew e):(qL r).length<=2^29:=by
 obtain⟨h1,e,he,hb,_⟩:=h;have h2:=JA r.kind;have h3:=Hy e;simp only[qL,abb,aa9,abX,he,vD];omega
theorem DY {α:Type} {f:α->List UInt8} {m:Nat}:∀ {l:List α},(∀ a∈l,(f a).length<=m)->(l.flatMap f).length<=m * l.length
 | [],_=>al
 | a :: l,h=>by
  have:=DY fun a ha=>h a (acj _ ha);have:=h a al;rw[List.flatMap_cons,abb,aa9,Nat.mul_add];omega
theorem AP {α:Type} {f:α->List UInt8} {l:List α} {i:Nat} (h:i < l.length):(l.take (i+1)).flatMap f=(l.take i).flatMap f ++ f l[i]:=by
 rw[aa7 h,List.flatMap_append];simp
theorem Nj {α:Type} {l:List α} {i:Nat} {a:α} (h:a∈l.take i):a∈l:=abi h
theorem Lq {p:dJ} (h:sv p) (i:Nat):(jb (p.names.take i)).length<=2^20:=by
 have:=DY (f:=pZ) (m:=2^11) (l:=p.names.take i) fun a ha=>(Ln (h.nm a (Nj ha)).2).2;have h2:=h.nl;rw[abk]at this;have h3:2^11 * min i p.names.length<=2^11 * 100:=Nat.mul_le_mul_left _ aa;unfold jb;omega
theorem MV {p:dJ} (h:sv p) (i:Nat):(iB (p.ao.take i)).length<=2^36:=by
 have:=DY (f:=qL) (m:=2^29) (l:=p.ao.take i) fun a ha=>WE (h.rg a (Nj ha)).2;have h2:=h.rl;rw[abk]at this;have h3:2^29 * min i p.ao.length<=2^29 * 100:=Nat.mul_le_mul_left _ aa;unfold iB;omega
def b8:List D:=[.v (.string (bs [])),.v (.string (bs [])),.v (.string (bs [115,101,116,32])),.v (.string (bs [114,101,115,101,116,32])),.v (.string (bs [114,117,110,32])),.v (.string (bs [99,111,117,110,116,32])),.v (.string (bs [122,101,114,111,32]))]
def C5 (G:aF):Prop:=G 1=some (.ip b8)
def qY (c:List UInt8):AV:=if c=[] then .d (.v (.pointer none)) else .ref 500 0 0
theorem dL:qY [] = .d (.v (.pointer none)):=rfl
theorem cO {c:List UInt8} (h:c≠[]):qY c = .ref 500 0 0:=if_neg h
theorem tU (c:List UInt8) (ns:List Nat) (h:ns.contains 500=true):AV.tr (fb ns) (fa ns) (qY c)=qY c:=by
 unfold qY;split<;>simp[AV.tr,fb,fa];simpa using h
theorem UY {p:dJ} (h:sv p) (hr:p.ao≠[]):jb p.names≠[]:=fun e=>by
 cases hn:p.names with
 | nil=>exact hr (h.ne hn)
 | cons n l=>
  have h1:=(Ln (h.nm n (by rw[hn];simp)).2).1;rw[hn,jb,List.flatMap_cons]at e;have:=congrArg List.length e;simp only[abb,abX]at this;omega
theorem B3:jb []=[]:=rfl
theorem Cv:iB []=[]:=rfl
theorem aS (G:aF) (c:List UInt8):MC prog G [] 96 [.ref 500 0 0] (au [(500,.box 182 [qY c,.own 501 0 (c).length]),(501,.sl 5 1 (lX (c)))]) (.d (.v (.string (bs c)))) (au []):=YG G (qY c) c
theorem bT:(⟨#[105,110,112,117,116,32]⟩:ByteArray)=bs [105,110,112,117,116,32]:=rfl
theorem bU:(⟨#[99,111,105,108,32]⟩:ByteArray)=bs [99,111,105,108,32]:=rfl
theorem bW:(⟨#[116,105,109,101,114,32]⟩:ByteArray)=bs [116,105,109,101,114,32]:=rfl
theorem bX:(⟨#[99,111,117,110,116,101,114,32]⟩:ByteArray)=bs [99,111,117,110,116,101,114,32]:=rfl
theorem bZ:(⟨#[32,61,32]⟩:ByteArray)=bs [32,61,32]:=rfl
theorem bR:(⟨#[]⟩:ByteArray)=bs []:=rfl
theorem TL (G:aF) (hH:C5 G) (p:dJ) (hp:sv p):aH prog G 23 [ir p] (.v (.string (bs (zx p)))):=by
 unfold C5 at hH;have hT:zx p=jb p.names ++ iB p.ao:=rfl;have ⟨jS,Fl,dX,fO,_⟩:=hp;have hN:=Lq hp;have hR:=MV hp;have bw:=UY hp;simp only[ir,j4,ey,kH];refine aH.aU (aw _) func23 rfl rfl (rs:=[.tmp 2]) results23 (by simp[ntmps23]) fun X=>?_;simp only[ntmps23,List.map];refine aO [1] [1] ?_;refine fF 1 ?_;refine aO [1,3] [3] ?_;refine AW.imp (aY.dT (r:=3) (r':=500) trivial al) ?_;refine AW.st (by simp[fR,fQ,Go.Av.dT,zA];rfl) ?_;refine AW.imp (aY.n7 500 1 501 5 1 rfl rfl rfl) ?_;refine AW.st bq ?_;refine ah fun K1 aI=>aO [1,3,9,10,11] [500,501] ?_;refine eD (S:=Nat) (fun i=>i<=p.names.length) (fun i=>⟨bl [(1,.d (.ip [.sl none (p.names.map bH),.sl none (p.ao.map cW)])),(3,.ref 500 0 0),(9,.d (.sl none (p.names.map bH))),(10,int p.names.length),(11,int i)],au [(500,.box 182 [qY (jb (p.names.take i)),.own 501 0 (jb (p.names.take i)).length]),(501,.sl 5 1 (lX (jb (p.names.take i))))]⟩) (fun i=>p.names.length - i) 0 ?_ al ?_
 .refine aY.fo aT (by simp[B3,dL,dU]) (by simp[B3,dL,dU])
 .intro i hi;have ET:=hN i;generalize o0:jb (p.names.take i)=cur at ET ⊢;have qf:=@tU;refine aC [1,3,9,10,11,12] [500,501] ?_;refine ah fun K2 ak=>ga (b:=i < p.names.length) (by simp[D.le,D.le.go,aL]) (fun hc=>?_) (fun hc=>?_)
  .have dG:=hc;obtain⟨dr,yf,E7⟩:=jS _ (aa6 dG)
   have ek:jb (p.names.take (i+1))=cur ++ pZ p.names[i]:=by rw[jb,AP dG,<- o0];rfl
   have mf:pZ p.names[i]=sO p.names[i].kind ++ p.names[i].name ++ (if 3<=p.names[i].kind then 32 :: qi p.names[i].count.toNat else []) ++ [10]:=rfl;have k8:bH p.names[i]=[.v (.string (bs p.names[i].name)),.v (.int .i64 p.names[i].kind),.v (.int .i64 p.names[i].count)]:=rfl;have tj:=KD G p.names[i].count yf;have iN:=AD (n:=p.names[i].count.toNat) aa;generalize pZ p.names[i]=nt at ek mf;generalize qi p.names[i].count.toNat=dj at tj iN mf;generalize p.names[i].name=nm at E7 mf k8;generalize p.names[i].kind=kd at dr mf k8;generalize p.names[i].count=ct at yf k8 tj;refine ax (ak _ (ah fun K3 bF=>bd ?_));have qf:=(Aq @dG (Aq @k8 @tU));refine aC [1,3,5,9,10,11] [500,501,5] ?_;refine fF 5 ?_;obtain⟨c1,c8⟩:∃ c,c=cur ++ (sO kd ++ nm):=⟨_,rfl⟩;have RS:=Et kd
   have Sd:c1.length<=2^20+2^10+8:=by rw[c8,abb,abb];omega
   refine' s7 (fun bO=>?_) ?_
   rotate_left
   .by_cases bN:cur=[]
    .skip
     by_cases k1:kd=1
     .refine so (aw _) ag ([501]) ([]) ([9]) ([]) (List.range 10) [1,3,5,9,10,11] [500,501] aT ag (by simp[iS]) fun K' ai=>?_;(repeat refine dz rfl fun K2 ak=>?_;simp[k1,bN,dL,dU,bT,bU,bW,bX,bR,aN];(repeat refine⟨aa,?_⟩);refine ak _ ?_;clear ak K2);refine dz rfl fun K2 ak=>?_;simp[k1,bN,dL,dU,bT,bU,bW,bX,bR,aN];refine lK.mc (CP G (105 :: 110 :: 112 :: 117 :: 116 :: 32 :: nm) (by simp;omega)) (by simp[k1,bN,dL,dU,bT,bU,bW,bX,bR,aN]) (by simp[k1,bN,dL,dU,bT,bU,bW,bX,bR,aN]) (by simp[k1,bN,dL,dU,bT,bU,bW,bX,bR,aN]) (by simp[k1,bN,dL,dU,bT,bU,bW,bX,bR,aN]) (by simp[k1,bN,dL,dU,bT,bU,bW,bX,bR,aN]) (by simp[k1,bN,dL,dU,bT,bU,bW,bX,bR,aN]) (by simp[jg,k1,bN,dL,dU,bT,bU,bW,bX,bR,aN]) ?_;simp[k1,bN,dL,dU,bT,bU,bW,bX,bR,aN];refine ak _ ?_;clear ak K2;(repeat refine dz rfl fun K2 ak=>?_;simp[k1,bN,dL,dU,bT,bU,bW,bX,bR,aN];(repeat refine⟨aa,?_⟩);refine ak _ ?_;clear ak K2);refine nV (ai _ ?_);refine AW.st (by simp[k1,bN,dL,dU,bT,bU,bW,bX,bR,aN];rfl) ?_;refine AW.st (show _=(⟨bl [(1,.d (.ip [.sl none (p.names.map bH),.sl none (p.ao.map cW)])),(3,.ref 500 0 0),(5,.d (.ip [.v (.string (bs nm)),.v (.int .i64 kd),.v (.int .i64 ct)])),(9,.d (.sl none (p.names.map bH))),(10,int p.names.length),(11,int i)],au [(500,.box 182 [.ref 500 0 0,.own 501 0 (c1).length]),(501,.sl 5 1 (lX (c1)))]⟩:St) by rw[c8,bN,k1]<;>rfl) ?_;exact bO.out
     by_cases k2:kd=2
     .refine so (aw _) ag ([501]) ([]) ([9]) ([]) (List.range 10) [1,3,5,9,10,11] [500,501] aT ag (by simp[iS]) fun K' ai=>?_;(repeat refine dz rfl fun K2 ak=>?_;simp[k2,bN,dL,dU,bT,bU,bW,bX,bR,aN];(repeat refine⟨aa,?_⟩);refine ak _ ?_;clear ak K2);refine dz rfl fun K2 ak=>?_;simp[k2,bN,dL,dU,bT,bU,bW,bX,bR,aN];refine lK.mc (CP G (99 :: 111 :: 105 :: 108 :: 32 :: nm) (by simp;omega)) (by simp[k2,bN,dL,dU,bT,bU,bW,bX,bR,aN]) (by simp[k2,bN,dL,dU,bT,bU,bW,bX,bR,aN]) (by simp[k2,bN,dL,dU,bT,bU,bW,bX,bR,aN]) (by simp[k2,bN,dL,dU,bT,bU,bW,bX,bR,aN]) (by simp[k2,bN,dL,dU,bT,bU,bW,bX,bR,aN]) (by simp[k2,bN,dL,dU,bT,bU,bW,bX,bR,aN]) (by simp[jg,k2,bN,dL,dU,bT,bU,bW,bX,bR,aN]) ?_;simp[k2,bN,dL,dU,bT,bU,bW,bX,bR,aN];refine ak _ ?_;clear ak K2;(repeat refine dz rfl fun K2 ak=>?_;simp[k2,bN,dL,dU,bT,bU,bW,bX,bR,aN];(repeat refine⟨aa,?_⟩);refine ak _ ?_;clear ak K2);refine nV (ai _ ?_);refine AW.st (by simp[k2,bN,dL,dU,bT,bU,bW,bX,bR,aN];rfl) ?_;refine AW.st (show _=(⟨bl [(1,.d (.ip [.sl none (p.names.map bH),.sl none (p.ao.map cW)])),(3,.ref 500 0 0),(5,.d (.ip [.v (.string (bs nm)),.v (.int .i64 kd),.v (.int .i64 ct)])),(9,.d (.sl none (p.names.map bH))),(10,int p.names.length),(11,int i)],au [(500,.box 182 [.ref 500 0 0,.own 501 0 (c1).length]),(501,.sl 5 1 (lX (c1)))]⟩:St) by rw[c8,bN,k2]<;>rfl) ?_;exact bO.out
     by_cases k3:kd=3
     .refine so (aw _) ag ([501]) ([]) ([9]) ([]) (List.range 10) [1,3,5,9,10,11] [500,501] aT ag (by simp[iS]) fun K' ai=>?_;(repeat refine dz rfl fun K2 ak=>?_;simp[k3,bN,dL,dU,bT,bU,bW,bX,bR,aN];(repeat refine⟨aa,?_⟩);refine ak _ ?_;clear ak K2);refine dz rfl fun K2 ak=>?_;simp[k3,bN,dL,dU,bT,bU,bW,bX,bR,aN];refine lK.mc (CP G (116 :: 105 :: 109 :: 101 :: 114 :: 32 :: nm) (by simp;omega)) (by simp[k3,bN,dL,dU,bT,bU,bW,bX,bR,aN]) (by simp[k3,bN,dL,dU,bT,bU,bW,bX,bR,aN]) (by simp[k3,bN,dL,dU,bT,bU,bW,bX,bR,aN]) (by simp[k3,bN,dL,dU,bT,bU,bW,bX,bR,aN]) (by simp[k3,bN,dL,dU,bT,bU,bW,bX,bR,aN]) (by simp[k3,bN,dL,dU,bT,bU,bW,bX,bR,aN]) (by simp[jg,k3,bN,dL,dU,bT,bU,bW,bX,bR,aN]) ?_;simp[k3,bN,dL,dU,bT,bU,bW,bX,bR,aN];refine ak _ ?_;clear ak K2;(repeat refine dz rfl fun K2 ak=>?_;simp[k3,bN,dL,dU,bT,bU,bW,bX,bR,aN];(repeat refine⟨aa,?_⟩);refine ak _ ?_;clear ak K2);refine nV (ai _ ?_);refine AW.st (by simp[k3,bN,dL,dU,bT,bU,bW,bX,bR,aN];rfl) ?_;refine AW.st (show _=(⟨bl [(1,.d (.ip [.sl none (p.names.map bH),.sl none (p.ao.map cW)])),(3,.ref 500 0 0),(5,.d (.ip [.v (.string (bs nm)),.v (.int .i64 kd),.v (.int .i64 ct)])),(9,.d (.sl none (p.names.map bH))),(10,int p.names.length),(11,int i)],au [(500,.box 182 [.ref 500 0 0,.own 501 0 (c1).length]),(501,.sl 5 1 (lX (c1)))]⟩:St) by rw[c8,bN,k3]<;>rfl) ?_;exact bO.out
     have k4:kd=4:=aa
     refine so (aw _) ag ([501]) ([]) ([9]) ([]) (List.range 10) [1,3,5,9,10,11] [500,501] aT ag (by simp[iS]) fun K' ai=>?_;(repeat refine dz rfl fun K2 ak=>?_;simp[k4,bN,dL,dU,bT,bU,bW,bX,bR,aN];(repeat refine⟨aa,?_⟩);refine ak _ ?_;clear ak K2);refine dz rfl fun K2 ak=>?_;simp[k4,bN,dL,dU,bT,bU,bW,bX,bR,aN];refine lK.mc (CP G (99 :: 111 :: 117 :: 110 :: 116 :: 101 :: 114 :: 32 :: nm) (by simp;omega)) (by simp[k4,bN,dL,dU,bT,bU,bW,bX,bR,aN]) (by simp[k4,bN,dL,dU,bT,bU,bW,bX,bR,aN]) (by simp[k4,bN,dL,dU,bT,bU,bW,bX,bR,aN]) (by simp[k4,bN,dL,dU,bT,bU,bW,bX,bR,aN]) (by simp[k4,bN,dL,dU,bT,bU,bW,bX,bR,aN]) (by simp[k4,bN,dL,dU,bT,bU,bW,bX,bR,aN]) (by simp[jg,k4,bN,dL,dU,bT,bU,bW,bX,bR,aN]) ?_;simp[k4,bN,dL,dU,bT,bU,bW,bX,bR,aN];refine ak _ ?_;clear ak K2;(repeat refine dz rfl fun K2 ak=>?_;simp[k4,bN,dL,dU,bT,bU,bW,bX,bR,aN];(repeat refine⟨aa,?_⟩);refine ak _ ?_;clear ak K2);refine nV (ai _ ?_);refine AW.st (by simp[k4,bN,dL,dU,bT,bU,bW,bX,bR,aN];rfl) ?_;refine AW.st (show _=(⟨bl [(1,.d (.ip [.sl none (p.names.map bH),.sl none (p.ao.map cW)])),(3,.ref 500 0 0),(5,.d (.ip [.v (.string (bs nm)),.v (.int .i64 kd),.v (.int .i64 ct)])),(9,.d (.sl none (p.names.map bH))),(10,int p.names.length),(11,int i)],au [(500,.box 182 [.ref 500 0 0,.own 501 0 (c1).length]),(501,.sl 5 1 (lX (c1)))]⟩:St) by rw[c8,bN,k4]<;>rfl) ?_;exact bO.out
    .skip
     by_cases k1:kd=1
     .have e:c1=cur ++ (105 :: 110 :: 112 :: 117 :: 116 :: 32 :: nm):=by rw[c8,k1];rfl
      refine so (aw _) ag ([501]) ([]) ([9]) ([]) (List.range 10) [1,3,5,9,10,11] [500,501] aT ag (by simp[iS]) fun K' ai=>?_;(repeat refine dz rfl fun K2 ak=>?_;simp[k1,cO bN,bT,bU,bW,bX,bR,aN];(repeat refine⟨aa,?_⟩);refine ak _ ?_;clear ak K2);refine dz rfl fun K2 ak=>?_;simp[k1,cO bN,bT,bU,bW,bX,bR,aN];refine lK.mc (wS G cur (105 :: 110 :: 112 :: 117 :: 116 :: 32 :: nm) c1 e (by simp;omega)) (by simp[k1,cO bN,bT,bU,bW,bX,bR,aN]) (by simp[k1,cO bN,bT,bU,bW,bX,bR,aN]) (by simp[k1,cO bN,bT,bU,bW,bX,bR,aN]) (by simp[k1,cO bN,bT,bU,bW,bX,bR,aN]) (by simp[k1,cO bN,bT,bU,bW,bX,bR,aN]) (by simp[k1,cO bN,bT,bU,bW,bX,bR,aN]) (by simp[jg,k1,cO bN,bT,bU,bW,bX,bR,aN]) ?_;simp[k1,cO bN,bT,bU,bW,bX,bR,aN];refine ak _ ?_;clear ak K2;(repeat refine dz rfl fun K2 ak=>?_;simp[k1,cO bN,bT,bU,bW,bX,bR,aN];(repeat refine⟨aa,?_⟩);refine ak _ ?_;clear ak K2);refine nV (ai _ ?_);refine AW.st (by simp[k1,cO bN,bT,bU,bW,bX,bR,aN];rfl) ?_;refine AW.st (show _=(⟨bl [(1,.d (.ip [.sl none (p.names.map bH),.sl none (p.ao.map cW)])),(3,.ref 500 0 0),(5,.d (.ip [.v (.string (bs nm)),.v (.int .i64 kd),.v (.int .i64 ct)])),(9,.d (.sl none (p.names.map bH))),(10,int p.names.length),(11,int i)],au [(500,.box 182 [.ref 500 0 0,.own 501 0 (c1).length]),(501,.sl 5 1 (lX (c1)))]⟩:St) by rw[k1]<;>rfl) ?_;exact bO.out
     by_cases k2:kd=2
     .have e:c1=cur ++ (99 :: 111 :: 105 :: 108 :: 32 :: nm):=by rw[c8,k2];rfl
      refine so (aw _) ag ([501]) ([]) ([9]) ([]) (List.range 10) [1,3,5,9,10,11] [500,501] aT ag (by simp[iS]) fun K' ai=>?_;(repeat refine dz rfl fun K2 ak=>?_;simp[k2,cO bN,bT,bU,bW,bX,bR,aN];(repeat refine⟨aa,?_⟩);refine ak _ ?_;clear ak K2);refine dz rfl fun K2 ak=>?_;simp[k2,cO bN,bT,bU,bW,bX,bR,aN];refine lK.mc (wS G cur (99 :: 111 :: 105 :: 108 :: 32 :: nm) c1 e (by simp;omega)) (by simp[k2,cO bN,bT,bU,bW,bX,bR,aN]) (by simp[k2,cO bN,bT,bU,bW,bX,bR,aN]) (by simp[k2,cO bN,bT,bU,bW,bX,bR,aN]) (by simp[k2,cO bN,bT,bU,bW,bX,bR,aN]) (by simp[k2,cO bN,bT,bU,bW,bX,bR,aN]) (by simp[k2,cO bN,bT,bU,bW,bX,bR,aN]) (by simp[jg,k2,cO bN,bT,bU,bW,bX,bR,aN]) ?_;simp[k2,cO bN,bT,bU,bW,bX,bR,aN];refine ak _ ?_;clear ak K2;(repeat refine dz rfl fun K2 ak=>?_;simp[k2,cO bN,bT,bU,bW,bX,bR,aN];(repeat refine⟨aa,?_⟩);refine ak _ ?_;clear ak K2);refine nV (ai _ ?_);refine AW.st (by simp[k2,cO bN,bT,bU,bW,bX,bR,aN];rfl) ?_;refine AW.st (show _=(⟨bl [(1,.d (.ip [.sl none (p.names.map bH),.sl none (p.ao.map cW)])),(3,.ref 500 0 0),(5,.d (.ip [.v (.string (bs nm)),.v (.int .i64 kd),.v (.int .i64 ct)])),(9,.d (.sl none (p.names.map bH))),(10,int p.names.length),(11,int i)],au [(500,.box 182 [.ref 500 0 0,.own 501 0 (c1).length]),(501,.sl 5 1 (lX (c1)))]⟩:St) by rw[k2]<;>rfl) ?_;exact bO.out
     by_cases k3:kd=3
     .have e:c1=cur ++ (116 :: 105 :: 109 :: 101 :: 114 :: 32 :: nm):=by rw[c8,k3];rfl
      refine so (aw _) ag ([501]) ([]) ([9]) ([]) (List.range 10) [1,3,5,9,10,11] [500,501] aT ag (by simp[iS]) fun K' ai=>?_;(repeat refine dz rfl fun K2 ak=>?_;simp[k3,cO bN,bT,bU,bW,bX,bR,aN];(repeat refine⟨aa,?_⟩);refine ak _ ?_;clear ak K2);refine dz rfl fun K2 ak=>?_;simp[k3,cO bN,bT,bU,bW,bX,bR,aN];refine lK.mc (wS G cur (116 :: 105 :: 109 :: 101 :: 114 :: 32 :: nm) c1 e (by simp;omega)) (by simp[k3,cO bN,bT,bU,bW,bX,bR,aN]) (by simp[k3,cO bN,bT,bU,bW,bX,bR,aN]) (by simp[k3,cO bN,bT,bU,bW,bX,bR,aN]) (by simp[k3,cO bN,bT,bU,bW,bX,bR,aN]) (by simp[k3,cO bN,bT,bU,bW,bX,bR,aN]) (by simp[k3,cO bN,bT,bU,bW,bX,bR,aN]) (by simp[jg,k3,cO bN,bT,bU,bW,bX,bR,aN]) ?_;simp[k3,cO bN,bT,bU,bW,bX,bR,aN];refine ak _ ?_;clear ak K2;(repeat refine dz rfl fun K2 ak=>?_;simp[k3,cO bN,bT,bU,bW,bX,bR,aN];(repeat refine⟨aa,?_⟩);refine ak _ ?_;clear ak K2);refine nV (ai _ ?_);refine AW.st (by simp[k3,cO bN,bT,bU,bW,bX,bR,aN];rfl) ?_;refine AW.st (show _=(⟨bl [(1,.d (.ip [.sl none (p.names.map bH),.sl none (p.ao.map cW)])),(3,.ref 500 0 0),(5,.d (.ip [.v (.string (bs nm)),.v (.int .i64 kd),.v (.int .i64 ct)])),(9,.d (.sl none (p.names.map bH))),(10,int p.names.length),(11,int i)],au [(500,.box 182 [.ref 500 0 0,.own 501 0 (c1).length]),(501,.sl 5 1 (lX (c1)))]⟩:St) by rw[k3]<;>rfl) ?_;exact bO.out
     have k4:kd=4:=aa
     have e:c1=cur ++ (99 :: 111 :: 117 :: 110 :: 116 :: 101 :: 114 :: 32 :: nm):=by rw[c8,k4];rfl
     refine so (aw _) ag ([501]) ([]) ([9]) ([]) (List.range 10) [1,3,5,9,10,11] [500,501] aT ag (by simp[iS]) fun K' ai=>?_;(repeat refine dz rfl fun K2 ak=>?_;simp[k4,cO bN,bT,bU,bW,bX,bR,aN];(repeat refine⟨aa,?_⟩);refine ak _ ?_;clear ak K2);refine dz rfl fun K2 ak=>?_;simp[k4,cO bN,bT,bU,bW,bX,bR,aN];refine lK.mc (wS G cur (99 :: 111 :: 117 :: 110 :: 116 :: 101 :: 114 :: 32 :: nm) c1 e (by simp;omega)) (by simp[k4,cO bN,bT,bU,bW,bX,bR,aN]) (by simp[k4,cO bN,bT,bU,bW,bX,bR,aN]) (by simp[k4,cO bN,bT,bU,bW,bX,bR,aN]) (by simp[k4,cO bN,bT,bU,bW,bX,bR,aN]) (by simp[k4,cO bN,bT,bU,bW,bX,bR,aN]) (by simp[k4,cO bN,bT,bU,bW,bX,bR,aN]) (by simp[jg,k4,cO bN,bT,bU,bW,bX,bR,aN]) ?_;simp[k4,cO bN,bT,bU,bW,bX,bR,aN];refine ak _ ?_;clear ak K2;(repeat refine dz rfl fun K2 ak=>?_;simp[k4,cO bN,bT,bU,bW,bX,bR,aN];(repeat refine⟨aa,?_⟩);refine ak _ ?_;clear ak K2);refine nV (ai _ ?_);refine AW.st (by simp[k4,cO bN,bT,bU,bW,bX,bR,aN];rfl) ?_;refine AW.st (show _=(⟨bl [(1,.d (.ip [.sl none (p.names.map bH),.sl none (p.ao.map cW)])),(3,.ref 500 0 0),(5,.d (.ip [.v (.string (bs nm)),.v (.int .i64 kd),.v (.int .i64 ct)])),(9,.d (.sl none (p.names.map bH))),(10,int p.names.length),(11,int i)],au [(500,.box 182 [.ref 500 0 0,.own 501 0 (c1).length]),(501,.sl 5 1 (lX (c1)))]⟩:St) by rw[k4]<;>rfl) ?_;exact bO.out
   .refine ah fun K4 cF=>aO [1,3,5,9,10,11,27] [500,501] ?_;by_cases k3:3<=kd
    .obtain⟨c2,eh⟩:∃ c,c=c1 ++ 32 :: dj:=⟨_,rfl⟩
     have Z7:c2.length<=2^20+2^10+12:=by rw[eh,abb,aa9];omega
     have e7:jb (p.names.take (i+1))=c2 ++ [10]:=by rw[ek,mf,if_pos k3,eh,c8];simp
     have k9:jb (p.names.take (i+1))≠[]:=by rw[e7];simp
     refine eJ (by simp[k3]) (ea (aw _) fun K' ai=>?_);(repeat refine aq fun Kq ae=>?_;simp[js,aN];(repeat refine⟨aa,?_⟩);refine ae _ ?_);refine aq fun Kq ae=>?_;simp[js,aN];refine ch.data (tj) bq (by first | exact D.aV _ | simp[aL,IS,AT,D.le,D.le.go,D.le_refl,D.aV,js,aN]) ?_;refine ae _ ?_;simp only[aR,cw];(repeat refine aq fun Kq ae=>?_;simp[js,aN];(repeat refine⟨aa,?_⟩);refine ae _ ?_);refine aq fun Kq ae=>?_;simp[js,aN];refine ch.mc (wS G c1 (32 :: dj) c2 eh (by simp;omega)) ?_ ?_ ?_ ?_ ?_<;>simp[js,aN];refine ae _ ?_;(repeat refine aq fun Kq ae=>?_;simp[js,aN];(repeat refine⟨aa,?_⟩);refine ae _ ?_);refine aZ (ai _ ?_);refine cF _ (AW.norm [1,3,9,10,11] [500,501] aT (AW.st (by simp[js,aN];rfl) ?_));refine ea (aw _) fun K' ai=>?_;(repeat refine aq fun Kq ae=>?_;simp[qR];(repeat refine⟨aa,?_⟩);refine ae _ ?_);refine aq fun Kq ae=>?_;simp[qR];refine ch.mc (wB G c2 10 _ e7 aa) ?_ ?_ ?_ ?_ ?_<;>simp[qR];refine ae _ ?_;(repeat refine aq fun Kq ae=>?_;simp[qR];(repeat refine⟨aa,?_⟩);refine ae _ ?_);refine aZ (ai _ ?_);refine bF _ (AW.norm [1,3,9,10,11] [500,501] aT (AW.st (by simp[qR];rfl) ?_));refine fK ?_;(try simp only[bY,b9]);refine cC.mk (i+1) aa aa ?_;refine aY.fo aT (by simp[cO k9]) (by simp[cO k9])
    .have e7:jb (p.names.take (i+1))=c1 ++ [10]:=by rw[ek,mf,if_neg k3,c8];simp
     have k9:jb (p.names.take (i+1))≠[]:=by rw[e7];simp
     refine gW (by simp;omega) ?_;refine ax ?_;refine cF _ (AW.norm [1,3,9,10,11] [500,501] aT (AW.st bq ?_));refine ea (aw _) fun K' ai=>?_;(repeat refine aq fun Kq ae=>?_;simp[qR];(repeat refine⟨aa,?_⟩);refine ae _ ?_);refine aq fun Kq ae=>?_;simp[qR];refine ch.mc (wB G c1 10 _ e7 aa) ?_ ?_ ?_ ?_ ?_<;>simp[qR];refine ae _ ?_;(repeat refine aq fun Kq ae=>?_;simp[qR];(repeat refine⟨aa,?_⟩);refine ae _ ?_);refine aZ (ai _ ?_);refine bF _ (AW.norm [1,3,9,10,11] [500,501] aT (AW.st (by simp[qR];rfl) ?_));refine fK ?_;(try simp only[bY,b9]);refine cC.mk (i+1) aa aa ?_;refine aY.fo aT (by simp[cO k9]) (by simp[cO k9])
  .obtain rfl:i=p.names.length:=aa
   rw[abo]at o0;refine cX (aI _ (ah fun K5 cI=>?_));have qf:=@tU;refine aC [3,36,37,38] [500,501] ?_;refine eD (S:=Nat) (fun j=>j<=p.ao.length) (fun j=>⟨bl [(3,.ref 500 0 0),(36,.d (.sl none (p.ao.map cW))),(37,int p.ao.length),(38,int j)],au [(500,.box 182 [qY (cur ++ iB (p.ao.take j)),.own 501 0 (cur ++ iB (p.ao.take j)).length]),(501,.sl 5 1 (lX (cur ++ iB (p.ao.take j))))]⟩) (fun j=>p.ao.length - j) 0 ?_ al ?_
   .refine aY.fo aT (by simp[Cv,abK,tU]) (by simp[Cv,abK,tU])
   .intro j hj;have qu:=hR j
    have oG:(cur ++ iB (p.ao.take j)).length<=2^20+2^36:=by rw[abb];omega
    generalize sN:cur ++ iB (p.ao.take j)=d1 at oG ⊢;have qf:=@tU;refine aC [3,36,37,38,39] [500,501] ?_;refine ah fun K6 fN=>ga (b:=j < p.ao.length) (by simp[D.le,D.le.go,aL]) (fun hc=>?_) (fun hc=>?_)
    .have j9:=hc
     have bN:cur≠[]:=by rw[<- o0];exact bw (by intro h;rw[h]at j9;simp at j9)
     have rE:d1≠[]:=by rw[<- sN];simp[bN]
     obtain⟨dr,oI,e,Eo,sM,_⟩:=Fl _ (aa6 j9)
     have ek:cur ++ iB (p.ao.take (j+1))=d1 ++ qL p.ao[j]:=by rw[iB,AP j9,<- sN,aco];rfl
     have kf:qL p.ao[j]=j7 p.ao[j].kind ++ p.ao[j].name ++ [32,61,32] ++ vD p.ao[j].cond ++ [10]:=rfl;have gO:cW p.ao[j]=[.v (.int .i64 p.ao[j].kind),.v (.string (bs p.ao[j].name)),dC p.ao[j].cond]:=rfl;rw[Eo]at kf gO;have dB:=AJ G e (acb (pj e) aa);have mQ:=Hy e;simp only[dS]at dB;simp only[vD,dC]at kf gO;obtain⟨ta,ca,kh⟩:=gk e;rw[kh]at gO dB;generalize aB e 0=tx at kf dB mQ;generalize qL p.ao[j]=rt at ek kf;generalize p.ao[j].name=nm at oI kf gO;generalize p.ao[j].kind=kd at dr kf gO;refine ax (fN _ (ah fun K7 eF=>bd ?_));have qf:=(Aq @j9 (Aq @gO (cO rE)));refine aC [3,7,36,37,38] [500,501,7] ?_;refine fF 7 ?_
     have k9:cur ++ iB (p.ao.take (j+1))≠[]:=by simp[bN]
     by_cases k1:kd=1
     .have e2:cur ++ iB (p.ao.take (j+1))=d1 ++ ((nm ++ 32 :: 61 :: 32 :: (tx ++ [10]))):=by rw[ek,kf,k1];simp[j7]
      refine vp (aw _) ag ([501]) ([]) ([15]) ([]) (List.range 16) ag (by simp[iS]) fun K' ai=>?_;(repeat refine dz rfl fun K2 ak=>?_;simp[k1,hH,b8,bZ,bQ,aN];(repeat refine⟨aa,?_⟩);refine ak _ ?_;clear ak K2);refine dz rfl fun K2 ak=>?_;simp[k1,hH,b8,bZ,bQ,aN];refine mw.mk (dB) bq bq (by first | exact D.aV _ | simp[aL,IS,AT,D.le,D.le.go,D.le_refl,D.aV,k1,hH,b8,bZ,bQ,aN]) al ?_;refine ak _ ?_;clear ak K2;simp only[aR,cw];(repeat refine dz rfl fun K2 ak=>?_;simp[k1,hH,b8,bZ,bQ,aN];(repeat refine⟨aa,?_⟩);refine ak _ ?_;clear ak K2);refine dz rfl fun K2 ak=>?_;simp[k1,hH,b8,bZ,bQ,aN];refine lK.mc (wS G d1 ((nm ++ 32 :: 61 :: 32 :: (tx ++ [10]))) _ e2 (by simp;omega)) (by simp[k1,hH,b8,bZ,bQ,aN]) (by simp[k1,hH,b8,bZ,bQ,aN]) (by simp[k1,hH,b8,bZ,bQ,aN]) (by simp[k1,hH,b8,bZ,bQ,aN]) (by simp[k1,hH,b8,bZ,bQ,aN]) (by simp[k1,hH,b8,bZ,bQ,aN]) (by simp[jg,k1,hH,b8,bZ,bQ,aN]) ?_;simp[k1,hH,b8,bZ,bQ,aN];refine ak _ ?_;clear ak K2;(repeat refine dz rfl fun K2 ak=>?_;simp[k1,hH,b8,bZ,bQ,aN];(repeat refine⟨aa,?_⟩);refine ak _ ?_;clear ak K2);refine nV (ai _ ?_);refine eF _ (AW.norm [3,36,37,38] [500,501] aT (AW.st (by simp[k1,hH,b8,bZ,bQ,aN];rfl) ?_));refine fK ?_;(try simp only[bY,b9]);refine cC.mk (j+1) aa aa ?_;refine aY.fo aT (by simp[cO k9]) (by simp[cO k9])
     by_cases k2:kd=2
     .have e2:cur ++ iB (p.ao.take (j+1))=d1 ++ (115 :: 101 :: 116 :: 32 :: (nm ++ 32 :: 61 :: 32 :: (tx ++ [10]))):=by rw[ek,kf,k2];simp[j7]
      refine vp (aw _) ag ([501]) ([]) ([15]) ([]) (List.range 16) ag (by simp[iS]) fun K' ai=>?_;(repeat refine dz rfl fun K2 ak=>?_;simp[k2,hH,b8,bZ,bQ,aN];(repeat refine⟨aa,?_⟩);refine ak _ ?_;clear ak K2);refine dz rfl fun K2 ak=>?_;simp[k2,hH,b8,bZ,bQ,aN];refine mw.mk (dB) bq bq (by first | exact D.aV _ | simp[aL,IS,AT,D.le,D.le.go,D.le_refl,D.aV,k2,hH,b8,bZ,bQ,aN]) al ?_;refine ak _ ?_;clear ak K2;simp only[aR,cw];(repeat refine dz rfl fun K2 ak=>?_;simp[k2,hH,b8,bZ,bQ,aN];(repeat refine⟨aa,?_⟩);refine ak _ ?_;clear ak K2);refine dz rfl fun K2 ak=>?_;simp[k2,hH,b8,bZ,bQ,aN];refine lK.mc (wS G d1 (115 :: 101 :: 116 :: 32 :: (nm ++ 32 :: 61 :: 32 :: (tx ++ [10]))) _ e2 (by simp;omega)) (by simp[k2,hH,b8,bZ,bQ,aN]) (by simp[k2,hH,b8,bZ,bQ,aN]) (by simp[k2,hH,b8,bZ,bQ,aN]) (by simp[k2,hH,b8,bZ,bQ,aN]) (by simp[k2,hH,b8,bZ,bQ,aN]) (by simp[k2,hH,b8,bZ,bQ,aN]) (by simp[jg,k2,hH,b8,bZ,bQ,aN]) ?_;simp[k2,hH,b8,bZ,bQ,aN];refine ak _ ?_;clear ak K2;(repeat refine dz rfl fun K2 ak=>?_;simp[k2,hH,b8,bZ,bQ,aN];(repeat refine⟨aa,?_⟩);refine ak _ ?_;clear ak K2);refine nV (ai _ ?_);refine eF _ (AW.norm [3,36,37,38] [500,501] aT (AW.st (by simp[k2,hH,b8,bZ,bQ,aN];rfl) ?_));refine fK ?_;(try simp only[bY,b9]);refine cC.mk (j+1) aa aa ?_;refine aY.fo aT (by simp[cO k9]) (by simp[cO k9])
     by_cases k3:kd=3
     .have e2:cur ++ iB (p.ao.take (j+1))=d1 ++ (114 :: 101 :: 115 :: 101 :: 116 :: 32 :: (nm ++ 32 :: 61 :: 32 :: (tx ++ [10]))):=by rw[ek,kf,k3];simp[j7]
      refine vp (aw _) ag ([501]) ([]) ([15]) ([]) (List.range 16) ag (by simp[iS]) fun K' ai=>?_;(repeat refine dz rfl fun K2 ak=>?_;simp[k3,hH,b8,bZ,bQ,aN];(repeat refine⟨aa,?_⟩);refine ak _ ?_;clear ak K2);refine dz rfl fun K2 ak=>?_;simp[k3,hH,b8,bZ,bQ,aN];refine mw.mk (dB) bq bq (by first | exact D.aV _ | simp[aL,IS,AT,D.le,D.le.go,D.le_refl,D.aV,k3,hH,b8,bZ,bQ,aN]) al ?_;refine ak _ ?_;clear ak K2;simp only[aR,cw];(repeat refine dz rfl fun K2 ak=>?_;simp[k3,hH,b8,bZ,bQ,aN];(repeat refine⟨aa,?_⟩);refine ak _ ?_;clear ak K2);refine dz rfl fun K2 ak=>?_;simp[k3,hH,b8,bZ,bQ,aN];refine lK.mc (wS G d1 (114 :: 101 :: 115 :: 101 :: 116 :: 32 :: (nm ++ 32 :: 61 :: 32 :: (tx ++ [10]))) _ e2 (by simp;omega)) (by simp[k3,hH,b8,bZ,bQ,aN]) (by simp[k3,hH,b8,bZ,bQ,aN]) (by simp[k3,hH,b8,bZ,bQ,aN]) (by simp[k3,hH,b8,bZ,bQ,aN]) (by simp[k3,hH,b8,bZ,bQ,aN]) (by simp[k3,hH,b8,bZ,bQ,aN]) (by simp[jg,k3,hH,b8,bZ,bQ,aN]) ?_;simp[k3,hH,b8,bZ,bQ,aN];refine ak _ ?_;clear ak K2;(repeat refine dz rfl fun K2 ak=>?_;simp[k3,hH,b8,bZ,bQ,aN];(repeat refine⟨aa,?_⟩);refine ak _ ?_;clear ak K2);refine nV (ai _ ?_);refine eF _ (AW.norm [3,36,37,38] [500,501] aT (AW.st (by simp[k3,hH,b8,bZ,bQ,aN];rfl) ?_));refine fK ?_;(try simp only[bY,b9]);refine cC.mk (j+1) aa aa ?_;refine aY.fo aT (by simp[cO k9]) (by simp[cO k9])
     by_cases k4:kd=4
     .have e2:cur ++ iB (p.ao.take (j+1))=d1 ++ (114 :: 117 :: 110 :: 32 :: (nm ++ 32 :: 61 :: 32 :: (tx ++ [10]))):=by rw[ek,kf,k4];simp[j7]
      refine vp (aw _) ag ([501]) ([]) ([15]) ([]) (List.range 16) ag (by simp[iS]) fun K' ai=>?_;(repeat refine dz rfl fun K2 ak=>?_;simp[k4,hH,b8,bZ,bQ,aN];(repeat refine⟨aa,?_⟩);refine ak _ ?_;clear ak K2);refine dz rfl fun K2 ak=>?_;simp[k4,hH,b8,bZ,bQ,aN];refine mw.mk (dB) bq bq (by first | exact D.aV _ | simp[aL,IS,AT,D.le,D.le.go,D.le_refl,D.aV,k4,hH,b8,bZ,bQ,aN]) al ?_;refine ak _ ?_;clear ak K2;simp only[aR,cw];(repeat refine dz rfl fun K2 ak=>?_;simp[k4,hH,b8,bZ,bQ,aN];(repeat refine⟨aa,?_⟩);refine ak _ ?_;clear ak K2);refine dz rfl fun K2 ak=>?_;simp[k4,hH,b8,bZ,bQ,aN];refine lK.mc (wS G d1 (114 :: 117 :: 110 :: 32 :: (nm ++ 32 :: 61 :: 32 :: (tx ++ [10]))) _ e2 (by simp;omega)) (by simp[k4,hH,b8,bZ,bQ,aN]) (by simp[k4,hH,b8,bZ,bQ,aN]) (by simp[k4,hH,b8,bZ,bQ,aN]) (by simp[k4,hH,b8,bZ,bQ,aN]) (by simp[k4,hH,b8,bZ,bQ,aN]) (by simp[k4,hH,b8,bZ,bQ,aN]) (by simp[jg,k4,hH,b8,bZ,bQ,aN]) ?_;simp[k4,hH,b8,bZ,bQ,aN];refine ak _ ?_;clear ak K2;(repeat refine dz rfl fun K2 ak=>?_;simp[k4,hH,b8,bZ,bQ,aN];(repeat refine⟨aa,?_⟩);refine ak _ ?_;clear ak K2);refine nV (ai _ ?_);refine eF _ (AW.norm [3,36,37,38] [500,501] aT (AW.st (by simp[k4,hH,b8,bZ,bQ,aN];rfl) ?_));refine fK ?_;(try simp only[bY,b9]);refine cC.mk (j+1) aa aa ?_;refine aY.fo aT (by simp[cO k9]) (by simp[cO k9])
     by_cases k5:kd=5
     .have e2:cur ++ iB (p.ao.take (j+1))=d1 ++ (99 :: 111 :: 117 :: 110 :: 116 :: 32 :: (nm ++ 32 :: 61 :: 32 :: (tx ++ [10]))):=by rw[ek,kf,k5];simp[j7]
      refine vp (aw _) ag ([501]) ([]) ([15]) ([]) (List.range 16) ag (by simp[iS]) fun K' ai=>?_;(repeat refine dz rfl fun K2 ak=>?_;simp[k5,hH,b8,bZ,bQ,aN];(repeat refine⟨aa,?_⟩);refine ak _ ?_;clear ak K2);refine dz rfl fun K2 ak=>?_;simp[k5,hH,b8,bZ,bQ,aN];refine mw.mk (dB) bq bq (by first | exact D.aV _ | simp[aL,IS,AT,D.le,D.le.go,D.le_refl,D.aV,k5,hH,b8,bZ,bQ,aN]) al ?_;refine ak _ ?_;clear ak K2;simp only[aR,cw];(repeat refine dz rfl fun K2 ak=>?_;simp[k5,hH,b8,bZ,bQ,aN];(repeat refine⟨aa,?_⟩);refine ak _ ?_;clear ak K2);refine dz rfl fun K2 ak=>?_;simp[k5,hH,b8,bZ,bQ,aN];refine lK.mc (wS G d1 (99 :: 111 :: 117 :: 110 :: 116 :: 32 :: (nm ++ 32 :: 61 :: 32 :: (tx ++ [10]))) _ e2 (by simp;omega)) (by simp[k5,hH,b8,bZ,bQ,aN]) (by simp[k5,hH,b8,bZ,bQ,aN]) (by simp[k5,hH,b8,bZ,bQ,aN]) (by simp[k5,hH,b8,bZ,bQ,aN]) (by simp[k5,hH,b8,bZ,bQ,aN]) (by simp[k5,hH,b8,bZ,bQ,aN]) (by simp[jg,k5,hH,b8,bZ,bQ,aN]) ?_;simp[k5,hH,b8,bZ,bQ,aN];refine ak _ ?_;clear ak K2;(repeat refine dz rfl fun K2 ak=>?_;simp[k5,hH,b8,bZ,bQ,aN];(repeat refine⟨aa,?_⟩);refine ak _ ?_;clear ak K2);refine nV (ai _ ?_);refine eF _ (AW.norm [3,36,37,38] [500,501] aT (AW.st (by simp[k5,hH,b8,bZ,bQ,aN];rfl) ?_));refine fK ?_;(try simp only[bY,b9]);refine cC.mk (j+1) aa aa ?_;refine aY.fo aT (by simp[cO k9]) (by simp[cO k9])
     have k6:kd=6:=aa
     have e2:cur ++ iB (p.ao.take (j+1))=d1 ++ (122 :: 101 :: 114 :: 111 :: 32 :: (nm ++ 32 :: 61 :: 32 :: (tx ++ [10]))):=by rw[ek,kf,k6];simp[j7]
     refine vp (aw _) ag ([501]) ([]) ([15]) ([]) (List.range 16) ag (by simp[iS]) fun K' ai=>?_;(repeat refine dz rfl fun K2 ak=>?_;simp[k6,hH,b8,bZ,bQ,aN];(repeat refine⟨aa,?_⟩);refine ak _ ?_;clear ak K2);refine dz rfl fun K2 ak=>?_;simp[k6,hH,b8,bZ,bQ,aN];refine mw.mk (dB) bq bq (by first | exact D.aV _ | simp[aL,IS,AT,D.le,D.le.go,D.le_refl,D.aV,k6,hH,b8,bZ,bQ,aN]) al ?_;refine ak _ ?_;clear ak K2;simp only[aR,cw];(repeat refine dz rfl fun K2 ak=>?_;simp[k6,hH,b8,bZ,bQ,aN];(repeat refine⟨aa,?_⟩);refine ak _ ?_;clear ak K2);refine dz rfl fun K2 ak=>?_;simp[k6,hH,b8,bZ,bQ,aN];refine lK.mc (wS G d1 (122 :: 101 :: 114 :: 111 :: 32 :: (nm ++ 32 :: 61 :: 32 :: (tx ++ [10]))) _ e2 (by simp;omega)) (by simp[k6,hH,b8,bZ,bQ,aN]) (by simp[k6,hH,b8,bZ,bQ,aN]) (by simp[k6,hH,b8,bZ,bQ,aN]) (by simp[k6,hH,b8,bZ,bQ,aN]) (by simp[k6,hH,b8,bZ,bQ,aN]) (by simp[k6,hH,b8,bZ,bQ,aN]) (by simp[jg,k6,hH,b8,bZ,bQ,aN]) ?_;simp[k6,hH,b8,bZ,bQ,aN];refine ak _ ?_;clear ak K2;(repeat refine dz rfl fun K2 ak=>?_;simp[k6,hH,b8,bZ,bQ,aN];(repeat refine⟨aa,?_⟩);refine ak _ ?_;clear ak K2);refine nV (ai _ ?_);refine eF _ (AW.norm [3,36,37,38] [500,501] aT (AW.st (by simp[k6,hH,b8,bZ,bQ,aN];rfl) ?_));refine fK ?_;(try simp only[bY,b9]);refine cC.mk (j+1) aa aa ?_;refine aY.fo aT (by simp[cO k9]) (by simp[cO k9])
    .obtain rfl:j=p.ao.length:=aa
     rw[abo]at sN;refine cX (cI _ ?_);have qf:=@tU;refine iA (aS G d1) [2] [] ?_;refine bt ?_;simp[D.le,D.le.go,aL];rw[hT,o0,sN]
def dV (r:gy):List D:=[.v (.int .i64 r.kind),dS r.name,kZ r.cond]
def gX (p:dJ):List D:=[ey p.names,.sl none (p.ao.map dV)]
def fq (p:dJ):D:=.agg (gX p)
theorem ZC (G:aF) (p:dJ) (hl:p.names.length < 2^62) (s:List UInt8):aH prog G 28 [fq p,dS s] (.v (.int .i64 (dy p s))):=by
 unfold dy;simp only[fq,gX,ey,dS];generalize p.ao.map dV=R;refine aH.aU (aw _) func28 rfl rfl (rs:=[.tmp 4]) results28 (by simp[ntmps28]) fun X=>?_;simp only[ntmps28,List.map];refine aO [1,2] [2] ?_;refine fF 2 ?_;refine ah fun K1 aI=>aO [1,8,9,10] [] ?_;refine eD (S:=Nat) (fun n=>n<=p.names.length/\∀ i (hi:i < p.names.length),i < n->(p.names[i].name == s)=false) (fun n=>⟨bl [(1,.d (.v (.string (bs s)))),(8,.d (.sl none (p.names.map bH))),(9,int p.names.length),(10,int n)],au []⟩) (fun n=>p.names.length - n) 0 ?_ al ?_
 .refine ko
 .rintro n ⟨hn,hp⟩;refine aO [1,8,9,10,11] [] ?_;refine ah fun K2 ak=>ga (b:=n < p.names.length) (by simp[D.le,D.le.go,aL]) (fun hc=>?_) (fun hc=>?_)
  .have bf:=hc;have k8:bH p.names[n]=[.v (.string (bs p.names[n].name)),.v (.int .i64 p.names[n].kind),.v (.int .i64 p.names[n].count)]:=rfl;refine ax (ak _ (ah fun K3 bF=>bd ?_));have qf:=(Aq @bf @k8);refine aC [1,5,6,8,9,10] [6] ?_;refine fF 6 ?_;by_cases heq:p.names[n].name=s
   .refine rg [1,5,8,9,10,18] [] aT fun K' ai=>?_;(repeat refine aq fun Kq ae=>?_;simp[ay,aJ,heq];(repeat refine⟨aa,?_⟩);refine ae _ ?_);refine aZ (ai _ (AW.st (by simp[ay,aJ,heq];rfl) ?_));refine aD (aO [4] [] ?_);refine bt ?_;simp[D.le,D.le.go,aL];exact (y7 (p:=fun m:gE=>m.name == s) bf (by simp[heq]) fun i hi=>hp i aa hi).symm
   .refine rg [1,5,8,9,10,18] [] aT fun K' ai=>?_;(repeat refine aq fun Kq ae=>?_;simp[ay,aJ,heq];(repeat refine⟨aa,?_⟩);refine ae _ ?_);refine aZ (ai _ (AW.st (by simp[ay,aJ,heq];rfl) ?_));refine gW (by simp[heq]) (ax (bF _ ?_));refine fK ?_;(try simp only[bY,b9]);refine cC.mk (n+1) ⟨aa,fun i hi bn=>?_⟩ aa ?_
    .by_cases h:i=n
     .subst h;simpa using heq
     .exact hp i hi aa
    refine ko
  .refine cX (aI _ (aO [4] [] ?_));refine bt ?_;simp[D.le,D.le.go,aL];exact (y8 (p:=fun m:gE=>m.name == s) fun i hi=>hp i hi aa).symm
def KK (l:List gE) (k:Int):Nat->List Int
 | 0=>[]
 | i+1=>KK l k i ++ if (l.getD i ⟨[],0,0⟩).kind=k then [(i:Int)] else []
def lR:Ex->List Ex
 | .not e=>[e]
 | .and l=>l
 | .or l=>l
 | _=>[]
def kR:Ex->Option Bool
 | .not _=>none
 | .and _=>none
 | .or _=>none
 | _=>some false
theorem Vb (e:Ex):qI e = .sl (kR e) ((lR e).map fun x=>[dR x]):=by
 cases e<;>simp[qI,lR,kR,cJ,pr]
theorem ON (e:Ex):bx (lR e)<=bE e:=by cases e<;>simp[bE,lR,bx]<;>omega
theorem YS {e x:Ex} (h:x∈lR e):SizeOf.sizeOf x < SizeOf.sizeOf e:=by
 cases e with
 | not y=>simp only[lR,abV]at h;subst h;simp
 | and l=>simp only[lR]at h;have:=aba h;simp only[Ex.and.sizeOf_spec];omega
 | or l=>simp only[lR]at h;have:=aba h;simp only[Ex.or.sizeOf_spec];omega
 | _=>simp[lR]at h
theorem acP:type_of% @fq.eq_1:=@fq.eq_1
theorem acQ:type_of% @gX.eq_1:=@gX.eq_1
