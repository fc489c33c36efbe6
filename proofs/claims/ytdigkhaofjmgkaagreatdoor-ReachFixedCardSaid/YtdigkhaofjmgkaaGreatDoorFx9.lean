/- Parts. -/
import Derived.Test.YtdigkhaofjmgkaaGreatDoorFx8
set_option linter.unusedSectionVars false
set_option linter.unusedSimpArgs false
set_option linter.unusedVariables false
namespace Go.Av
theorem Aq {p q:Prop} (h:p) (k:q):p/\q:=⟨h,k⟩
section
variable {P:Program} {Mv X:Nat->Prop} {G:aq} {N:Fr} {σ τ fA:St} {p:Prop}
theorem ah (l ns:List Nat) {id:Nat} {ops:Array Oper} {y:Code} {Q:Exit->St->Prop} (k:AW P Mv X G N y Q fA)
  (hM:∀ r,ns.contains r=false->Mv r:=by first | exact fun _ _=>trivial | exact cJ rfl)
  (h:∀ K':St->Prop,K' τ->sxf P (bW P) Mv X G N ops K' ops.toList σ:=by
   intro K' ae;repeat (refine sxn fun K2 aa=>?_;simp;(repeat (refine⟨by omega,?_⟩));refine aa _ ?_;clear aa K2)
   exact sxz ae)
  (hn:τ.norm l ns=fA:=by simp;rfl):AW P Mv X G N (.seq (.region id ops false) y) Q σ:=
 rg l ns hM fun K hK=>h K (hK _ (hn ▸ k))
theorem rgq (q:p) (l ns:List Nat) {id:Nat} {ops:Array Oper} {y:Code} {Q:Exit->St->Prop} (k:AW P Mv X G N y Q fA)
  (hM:∀ r,ns.contains r=false->Mv r:=by first | exact fun _ _=>trivial | exact cJ rfl)
  (h:p->∀ K':St->Prop,K' τ->sxf P (bW P) Mv X G N ops K' ops.toList σ:=by
   intro q K' ae;repeat (refine sxn fun K2 aa=>?_;simp[q];(repeat (refine⟨by omega,?_⟩));refine aa _ ?_;clear aa K2)
   exact sxz ae)
  (hn:p->τ.norm l ns=fA:=by intro q;simp[q];rfl):AW P Mv X G N (.seq (.region id ops false) y) Q σ:=
 rg l ns hM fun K hK=>h q K (hK _ (hn q ▸ k))
theorem aT (q:p) {g:FuncId} {ds:List D} {yd:D} (hc:ar P G g ds yd) (l ns:List Nat) {id:Nat} {ops:Array Oper} {y:Code} {Q:Exit->St->Prop} (k:AW P Mv X G N y Q fA)
  (hM:∀ r,ns.contains r=false->Mv r:=by first | exact fun _ _=>trivial | exact cJ rfl)
  (h:p->ar P G g ds yd->∀ K':St->Prop,K' τ->sxf P (bW P) Mv X G N ops K' ops.toList σ:=by
   intro q hc K' ae;(repeat (refine sxn fun K2 aa=>?_;simp[q];(repeat (refine⟨by omega,?_⟩));refine aa _ ?_;clear aa K2));refine sxn fun K2 aa=>?_;simp[q];refine ab8.data hc (by simp;rfl) (by first | exact D.abY _ | simp[aC,abU,abK,D.le,D.le.go,D.le_refl,D.abY,q]) ?_;refine aa _ ?_;clear aa K2;simp only[aD,cz];repeat (refine sxn fun K2 aa=>?_;simp[q];(repeat (refine⟨by omega,?_⟩));refine aa _ ?_;clear aa K2)
   exact sxz ae)
  (hn:p->τ.norm l ns=fA:=by intro q;simp[q];rfl):AW P Mv X G N (.seq (.region id ops false) y) Q σ:=
 rg l ns hM fun K hK=>h q hc K (hK _ (hn q ▸ k))
theorem bf (q:p) {fx:List Nat} {g:FuncId} {xs:List AV} {bN eg:List (Nat×Row)} {yv:AV} (hc:MC P G fx g xs (ak bN) yv (ak eg)) (l ns:List Nat) {id:Nat} {ops:Array Oper} {y:Code} {Q:Exit->St->Prop} (k:AW P Mv X G N y Q fA)
  (hM:∀ r,ns.contains r=false->Mv r:=by first | exact fun _ _=>trivial | exact cJ rfl)
  (h:p->MC P G fx g xs (ak bN) yv (ak eg)->∀ K':St->Prop,K' τ->sxf P (bW P) Mv X G N ops K' ops.toList σ:=by
   intro q hc K' ae;(repeat (refine sxn fun K2 aa=>?_;simp[q];(repeat (refine⟨by omega,?_⟩));refine aa _ ?_;clear aa K2));refine sxn fun K2 aa=>?_;simp[q];refine ab8.mc hc (by simp[q]) (by simp[q]) (by simp[q]) (by simp[q]) ?_;simp[q];refine aa _ ?_;clear aa K2;repeat (refine sxn fun K2 aa=>?_;simp[q];(repeat (refine⟨by omega,?_⟩));refine aa _ ?_;clear aa K2)
   exact sxz ae)
  (hn:p->τ.norm l ns=fA:=by intro q;simp[q];rfl):AW P Mv X G N (.seq (.region id ops false) y) Q σ:=
 rg l ns hM fun K hK=>h q hc K (hK _ (hn q ▸ k))
theorem A3 (q:p) (l ns:List Nat) {id:Nat} {ops:Array Oper} {y:Code} {Q:Exit->St->Prop} (k:AW P Mv X G N y Q fA)
  (hm:P.follows .mixedOrders=true:=by kernel_rfl) (hok:mX ops=true:=by kernel_rfl)
  (hM:∀ r,ns.contains r=false->Mv r:=by first | exact fun _ _=>trivial | exact cJ rfl)
  (h:p->∀ K':St->Prop,K' τ->sxd P (bW P) Mv G N ops K' ops.toList σ:=by
   intro q K' ae;repeat (refine eC fun K2 aa=>?_;simp[q];(repeat (refine⟨by omega,?_⟩));refine aa _ ?_;clear aa K2)
   exact iL ae)
  (hn:p->τ.norm l ns=fA:=by intro q;simp[q];rfl):AW P Mv X G N (.seq (.region id ops true) y) Q σ:=
 oW (al _) hm l ns hM hok fun K hK=>h q K (hK _ (hn q ▸ k))
theorem Wk (q:p) {g:FuncId} {ds:List D} {yd:D} (hc:ar P G g ds yd) (l ns:List Nat) {id:Nat} {ops:Array Oper} {y:Code} {Q:Exit->St->Prop} (k:AW P Mv X G N y Q fA)
  (hm:P.follows .mixedOrders=true:=by kernel_rfl) (hok:mX ops=true:=by kernel_rfl)
  (hM:∀ r,ns.contains r=false->Mv r:=by first | exact fun _ _=>trivial | exact cJ rfl)
  (h:p->ar P G g ds yd->∀ K':St->Prop,K' τ->sxd P (bW P) Mv G N ops K' ops.toList σ:=by
   intro q hc K' ae;(repeat (refine eC fun K2 aa=>?_;simp[q];(repeat (refine⟨by omega,?_⟩));refine aa _ ?_;clear aa K2));refine eC fun K2 aa=>?_;simp[q];refine jm.data hc (by simp;rfl) (by simp;rfl) (by first | exact D.abY _ | simp[aC,abU,abK,D.le,D.le.go,D.le_refl,D.abY,q]) ?_;refine aa _ ?_;clear aa K2;simp only[aD,cz];repeat (refine eC fun K2 aa=>?_;simp[q];(repeat (refine⟨by omega,?_⟩));refine aa _ ?_;clear aa K2)
   exact iL ae)
  (hn:p->τ.norm l ns=fA:=by intro q;simp[q];rfl):AW P Mv X G N (.seq (.region id ops true) y) Q σ:=
 oW (al _) hm l ns hM hok fun K hK=>h q hc K (hK _ (hn q ▸ k))
theorem reK (q:p) {K0:St->Prop} {y:Code} {Q Q2:Exit->St->Prop} (hk:∀ aw,AW P Mv X G N y Q2 aw->K0 aw) (l ns:List Nat) {id:Nat} {ops:Array Oper} (k:AW P Mv X G N y Q2 fA)
  (hq:∀ τ,K0 τ->Q .normal τ:=by exact fun _ h=>h)
  (hM:∀ r,ns.contains r=false->Mv r:=by first | exact fun _ _=>trivial | exact cJ rfl)
  (h:p->∀ K':St->Prop,K' τ->sxf P (bW P) Mv X G N ops K' ops.toList σ:=by
   intro q K' ae;repeat (refine sxn fun K2 aa=>?_;simp[q];(repeat (refine⟨by omega,?_⟩));refine aa _ ?_;clear aa K2)
   exact sxz ae)
  (hn:p->τ.norm l ns=fA:=by intro q;simp[q];rfl):AW P Mv X G N (.region id ops false) Q σ:=
 cR (al _) fun K hK=>h q K (hK _ (hq _ (hk _ (AW.norm l ns hM (hn q ▸ k)))))
theorem abQ (l ns:List Nat) {id:Nat} {ops:Array Oper} {y:Code} {Q:Exit->St->Prop} (k:AW P Mv X G N y Q fA)
  (hM:∀ r,ns.contains r=false->Mv r:=by first | exact fun _ _=>trivial | exact cJ rfl)
  (h:∀ K':St->Prop,K' τ->sxf P (bW P) Mv X G N ops K' ops.toList σ:=by
   intro K' ae;repeat (refine sxn fun K2 aa=>?_;simp[qf];(repeat (refine⟨by omega,?_⟩));refine aa _ ?_;clear aa K2)
   exact sxz ae)
  (hn:τ.norm l ns=fA:=by simp[qf];rfl):AW P Mv X G N (.seq (.region id ops false) y) Q σ:=
 rg l ns hM fun K hK=>h K (hK _ (hn ▸ k))
theorem dr {g:FuncId} {ds:List D} {yd:D} (hc:ar P G g ds yd) (l ns:List Nat) {id:Nat} {ops:Array Oper} {y:Code} {Q:Exit->St->Prop} (k:AW P Mv X G N y Q fA)
  (hM:∀ r,ns.contains r=false->Mv r:=by first | exact fun _ _=>trivial | exact cJ rfl)
  (h:ar P G g ds yd->∀ K':St->Prop,K' τ->sxf P (bW P) Mv X G N ops K' ops.toList σ:=by
   intro hc K' ae;(repeat (refine sxn fun K2 aa=>?_;simp[qf];(repeat (refine⟨by omega,?_⟩));refine aa _ ?_;clear aa K2));refine sxn fun K2 aa=>?_;simp[qf];refine ab8.data hc (by simp;rfl) (by first | exact D.abY _ | simp[aC,abU,abK,D.le,D.le.go,D.le_refl,D.abY,qf]) ?_;refine aa _ ?_;clear aa K2;simp only[aD,cz];repeat (refine sxn fun K2 aa=>?_;simp[qf];(repeat (refine⟨by omega,?_⟩));refine aa _ ?_;clear aa K2)
   exact sxz ae)
  (hn:τ.norm l ns=fA:=by simp[qf];rfl):AW P Mv X G N (.seq (.region id ops false) y) Q σ:=
 rg l ns hM fun K hK=>h hc K (hK _ (hn ▸ k))
theorem adu {fx:List Nat} {g:FuncId} {xs:List AV} {bN eg:List (Nat×Row)} {yv:AV} (hc:MC P G fx g xs (ak bN) yv (ak eg)) (l ns:List Nat) {id:Nat} {ops:Array Oper} {y:Code} {Q:Exit->St->Prop} (k:AW P Mv X G N y Q fA)
  (hM:∀ r,ns.contains r=false->Mv r:=by first | exact fun _ _=>trivial | exact cJ rfl)
  (h:MC P G fx g xs (ak bN) yv (ak eg)->∀ K':St->Prop,K' τ->sxf P (bW P) Mv X G N ops K' ops.toList σ:=by
   intro hc K' ae;(repeat (refine sxn fun K2 aa=>?_;simp[qf];(repeat (refine⟨by omega,?_⟩));refine aa _ ?_;clear aa K2));refine sxn fun K2 aa=>?_;simp[qf];refine ab8.mc hc (by simp[qf]) (by simp[qf]) (by simp[qf]) (by simp[qf]) ?_;simp[qf];refine aa _ ?_;clear aa K2;repeat (refine sxn fun K2 aa=>?_;simp[qf];(repeat (refine⟨by omega,?_⟩));refine aa _ ?_;clear aa K2)
   exact sxz ae)
  (hn:τ.norm l ns=fA:=by simp[qf];rfl):AW P Mv X G N (.seq (.region id ops false) y) Q σ:=
 rg l ns hM fun K hK=>h hc K (hK _ (hn ▸ k))
theorem fQ (l ns:List Nat) {id:Nat} {ops:Array Oper} {y:Code} {Q:Exit->St->Prop} (k:AW P Mv X G N y Q fA)
  (hm:P.follows .mixedOrders=true:=by kernel_rfl) (hok:mX ops=true:=by kernel_rfl)
  (hM:∀ r,ns.contains r=false->Mv r:=by first | exact fun _ _=>trivial | exact cJ rfl)
  (h:∀ K':St->Prop,K' τ->sxd P (bW P) Mv G N ops K' ops.toList σ:=by
   intro K' ae;repeat (refine eC fun K2 aa=>?_;simp[qf];(repeat (refine⟨by omega,?_⟩));refine aa _ ?_;clear aa K2)
   exact iL ae)
  (hn:τ.norm l ns=fA:=by simp[qf];rfl):AW P Mv X G N (.seq (.region id ops true) y) Q σ:=
 oW (al _) hm l ns hM hok fun K hK=>h K (hK _ (hn ▸ k))
theorem aga {g:FuncId} {ds:List D} {yd:D} (hc:ar P G g ds yd) (l ns:List Nat) {id:Nat} {ops:Array Oper} {y:Code} {Q:Exit->St->Prop} (k:AW P Mv X G N y Q fA)
  (hm:P.follows .mixedOrders=true:=by kernel_rfl) (hok:mX ops=true:=by kernel_rfl)
  (hM:∀ r,ns.contains r=false->Mv r:=by first | exact fun _ _=>trivial | exact cJ rfl)
  (h:ar P G g ds yd->∀ K':St->Prop,K' τ->sxd P (bW P) Mv G N ops K' ops.toList σ:=by
   intro hc K' ae;(repeat (refine eC fun K2 aa=>?_;simp[qf];(repeat (refine⟨by omega,?_⟩));refine aa _ ?_;clear aa K2));refine eC fun K2 aa=>?_;simp[qf];refine jm.data hc (by simp;rfl) (by simp;rfl) (by first | exact D.abY _ | simp[aC,abU,abK,D.le,D.le.go,D.le_refl,D.abY,qf]) ?_;refine aa _ ?_;clear aa K2;simp only[aD,cz];repeat (refine eC fun K2 aa=>?_;simp[qf];(repeat (refine⟨by omega,?_⟩));refine aa _ ?_;clear aa K2)
   exact iL ae)
  (hn:τ.norm l ns=fA:=by simp[qf];rfl):AW P Mv X G N (.seq (.region id ops true) y) Q σ:=
 oW (al _) hm l ns hM hok fun K hK=>h hc K (hK _ (hn ▸ k))
theorem dN {K0:St->Prop} {y:Code} {Q Q2:Exit->St->Prop} (hk:∀ aw,AW P Mv X G N y Q2 aw->K0 aw) (l ns:List Nat) {id:Nat} {ops:Array Oper} (k:AW P Mv X G N y Q2 fA)
  (hq:∀ τ,K0 τ->Q .normal τ:=by exact fun _ h=>h)
  (hM:∀ r,ns.contains r=false->Mv r:=by first | exact fun _ _=>trivial | exact cJ rfl)
  (h:∀ K':St->Prop,K' τ->sxf P (bW P) Mv X G N ops K' ops.toList σ:=by
   intro K' ae;repeat (refine sxn fun K2 aa=>?_;simp[qf];(repeat (refine⟨by omega,?_⟩));refine aa _ ?_;clear aa K2)
   exact sxz ae)
  (hn:τ.norm l ns=fA:=by simp[qf];rfl):AW P Mv X G N (.region id ops false) Q σ:=
 cR (al _) fun K hK=>h K (hK _ (hq _ (hk _ (AW.norm l ns hM (hn ▸ k)))))
end
end Go.Av
namespace Go.Av
section
variable {P:Program} {Mv X:Nat->Prop} {G:aq} {N:Fr} {σ τ:St} {p:Prop}
theorem re0 {id:Nat} {ops:Array Oper} {Q:Exit->St->Prop} (k:Q .normal τ)
  (h:∀ K':St->Prop,K' τ->sxf P (bW P) Mv X G N ops K' ops.toList σ:=by
   intro K' ae;repeat (refine sxn fun K2 aa=>?_;simp;(repeat (refine⟨by omega,?_⟩));refine aa _ ?_;clear aa K2)
   exact sxz ae):AW P Mv X G N (.region id ops false) Q σ:=
 cR (al _) fun K hK=>h K (hK _ k)
theorem reQ (q:p) {id:Nat} {ops:Array Oper} {Q:Exit->St->Prop} (k:Q .normal τ)
  (h:p->∀ K':St->Prop,K' τ->sxf P (bW P) Mv X G N ops K' ops.toList σ:=by
   intro q K' ae;repeat (refine sxn fun K2 aa=>?_;simp[q];(repeat (refine⟨by omega,?_⟩));refine aa _ ?_;clear aa K2)
   exact sxz ae):AW P Mv X G N (.region id ops false) Q σ:=
 cR (al _) fun K hK=>h q K (hK _ k)
theorem x6 {id:Nat} {ops:Array Oper} {Q:Exit->St->Prop} (k:Q .normal τ)
  (h:∀ K':St->Prop,K' τ->sxf P (bW P) Mv X G N ops K' ops.toList σ:=by
   intro K' ae;repeat (refine sxn fun K2 aa=>?_;simp[qf];(repeat (refine⟨by omega,?_⟩));refine aa _ ?_;clear aa K2)
   exact sxz ae):AW P Mv X G N (.region id ops false) Q σ:=
 cR (al _) fun K hK=>h K (hK _ k)
theorem dX (r:Nat) {c:Code} {Q:Exit->St->Prop} (k:AW P Mv X G N c Q τ) (hM:Mv r:=by first | trivial | decide) (hn:σ.oh r=τ:=by simp;rfl):AW P Mv X G N c Q σ:=
 AW.imp (aB.oh r hM) (hn ▸ k)
theorem acp (q:p) (r:Nat) {c:Code} {Q:Exit->St->Prop} (k:AW P Mv X G N c Q τ) (hM:Mv r:=by first | trivial | decide) (hn:p->σ.oh r=τ:=by intro q;simp[q];rfl):AW P Mv X G N c Q σ:=
 AW.imp (aB.oh r hM) (hn q ▸ k)
theorem cZ {Q:Exit->St->Prop} (h:Q .ret σ:=by simp[D.le,D.le.go,aC,D.le_refl,D.abY]):AW P Mv X G N .ret Q σ:=ab1 h
theorem aN (q:p) {Q:Exit->St->Prop} (h:p->Q .ret σ:=by intro q;simp[D.le,D.le.go,aC,D.le_refl,D.abY,q]):AW P Mv X G N .ret Q σ:=ab1 (h q)
theorem bJ {e:Env} {H:Heap} {l:List (Nat×AV)} {rows:List (Nat×Row)} (hm:∀ r,(rows.map (·.1)).contains r=false->Mv r:=by first | exact fun _ _=>trivial | exact cJ rfl)
  (he:∀ p∈l,(e p.1).map (AV.tr (acH (rows.map (·.1))) (acG (rows.map (·.1))))=some p.2:=by simp)
  (hH:∀ p∈rows,(H p.1).map (Row.tr (acH (rows.map (·.1))) (acG (rows.map (·.1))))=ak rows p.1:=by simp):aB Mv X G N ⟨e,H⟩ ⟨aV l,ak rows⟩:=aB.to' hm he hH
theorem abW (q:p) {e:Env} {H:Heap} {l:List (Nat×AV)} {rows:List (Nat×Row)} (hm:∀ r,(rows.map (·.1)).contains r=false->Mv r:=by first | exact fun _ _=>trivial | exact cJ rfl)
  (he:p->∀ p∈l,(e p.1).map (AV.tr (acH (rows.map (·.1))) (acG (rows.map (·.1))))=some p.2:=by intro q;simp[q])
  (hH:p->∀ p∈rows,(H p.1).map (Row.tr (acH (rows.map (·.1))) (acG (rows.map (·.1))))=ak rows p.1:=by intro q;simp[q]):aB Mv X G N ⟨e,H⟩ ⟨aV l,ak rows⟩:=aB.to' hm (he q) (hH q)
end
end Go.Av
namespace Go.Av
def kA (T:Ty) (G:aq) (e:Env) (o:Oper):Option (Prop×D):=match o.op,o.dst with
 | .box _ x,some _=>match (bh G e x).bind gm with
  | some cs=>match iN cs with
   | some ds=>some (True,.ip ds)
   | none=>none
  | none=>none
 | .buildSlice t len parts,some _=>match T t with
  | some tt=>match tt.desc with
   | .slice q=>match T q,jI G e parts.toList with
    | some te,some ps=>match ql te.size 0 ps with
     | some els=>some (ps.length=len/\0 < te.size/\len * te.size<=16777216,.sl none els)
     | none=>none
    | _,_=>none
   | _=>none
  | none=>none
 | .makeSlice t l c,some _=>match T t with
  | some tt=>match tt.desc with
   | .slice q=>match T q,bh G e l,bh G e c with
    | some te,some (.d (.v (.int _ n))),some (.d (.v (.int _ m)))=>some (0<=n/\n<=m/\te.bytes * m<=281474976710656/\m<=9223372036854775807/\0 < te.size/\(adx te.zero).length=te.size,.sl none (mW te n.toNat))
    | _,_,_=>none
   | _=>none
  | none=>none
 | _,_=>none
section
variable {P:Program} {T:Ty} {Mv X:Nat->Prop} {G:aq} {N:Fr} {w:World} {μ:Mu} {a:Act} {σ:St}
theorem j6 {o:Oper} {e e':Env} (h:fB o.op e e'):kA T G e o=kA T G e' o:=by
 obtain⟨dst,op,type,pos,after,guard⟩:=o;unfold fB at h;dsimp only at h;unfold kA
 cases op<;>try rfl
 case box t x=>
  cases dst with
  | none=>rfl
  | some d=>
   dsimp only;rw[dw (x:=x) fun t ht=>h t (by simp[Op.operands,ht])]
 case buildSlice t n ps=>
  cases dst with
  | none=>rfl
  | some d=>
   dsimp only;rw[agG (l:=ps.toList) fun t ht=>h t (by simpa[Op.operands]using ht)]
 case makeSlice t x y=>
  cases dst with
  | none=>rfl
  | some d=>
   dsimp only;rw[dw (x:=x) fun t ht=>h t (by simp[Op.operands,ht]),dw (x:=y) fun t ht=>h t (by simp[Op.operands,ht])]
theorem agZ (hi:In w X G μ N a σ):¬ XX X μ w.heap.size:=by
 rintro (h | h)
 .exact Nat.lt_irrefl _ (hi.aX.fits _ h)
 .exact Nat.lt_irrefl _ (hi.aX.jl h)
theorem agY (w:World) (cur:Array Value) (t:TypeId) {o:Nat} {v:Value} (h:cur[o]? = some v):(w.alloc (.cells cur t)).cell? ⟨w.heap.size,o,none⟩=some v:=by
 rw[cell_of_row _ w.heap.size o cur t (0,0) (by simpa using heap_alloc_new w (.cells cur t))];exact h
theorem Ho (hg:Good P T) (hi:In w X G μ N a σ) {o:Oper} {c:Prop} {y:D} (h:kA T G σ.env o=some (c,y)) (hc:c) :
  ∃ v w',(execOp a.eval o).run P w = .ok (.value v) w'/\In w' X G μ N a σ/\RV w' X μ v (.d y)/\Ev Mv w μ w' μ:=by
 obtain⟨dst,op,type,pos,after,guard⟩:=o;unfold kA at h;dsimp only at h;split at h
 .rename_i t x d;split at h
  .rename_i cs b8;obtain⟨z,hz,he⟩:=ab9.1 b8;split at h
   .rename_i ds jo;simp only[AS,BY]at h;obtain⟨rfl,rfl⟩:=h;have hp:=vB (hi.eval hz) he;rw[lT jo]at hp;obtain⟨aF,aH⟩:=hi.j8 (Mv:=Mv) (bZ.alloc w (.cells (a.eval x).cells t));refine⟨.pointer (some ⟨w.heap.size,0,none⟩),_,by simp[execOp,Instr.box,newVar,newRow],aF,.d (.ip (f:=fun j=>(a.eval x).cells.getD j undef) (agZ hi) (by simp) (fun j hj=>?_) fun j c hj=>?_),aH⟩
    .have au:j < (a.eval x).cells.size:=by rw[hp.size];simpa using hj
     exact agY w _ t (by simp[IT,au])
    .have au:j < (a.eval x).cells.size:=by rw[hp.size];simpa using (OF.1 hj).1
     have:=(hp.at_ j _ (.d c) (acb au) (by rw[abM,hj];rfl)).data;rw[IT,acb au];exact this.ev aH
   .cases h
  .cases h
 .rename_i t len parts d;split at h
  .rename_i tt cC;split at h
   .rename_i q cM;split at h
    .rename_i te ps cg dB;split at h
     .rename_i els se;simp only[AS,BY]at h;obtain⟨rfl,rfl⟩:=h;obtain⟨g2,g3,g4⟩:=hc;obtain⟨hv,hr⟩:=hi.jI dB;have hu:=hg.cy (w:=w) cC;have aK:=hg.sizeOf (w:=w) cg;have xv:=hg.zero (w:=w) cg
      obtain⟨adZ,hf,qX,_,hl,bC,jw⟩:=HI (w:=w) (X:=X) (μ:=μ) (sz:=te.size) ps (parts.toList.map fun p=>(p.1,a.eval p.2)) 0 els ((Array.range (len * te.size)).map ((if len * te.size=0 then #[] else te.zero.cells)[· % (if len * te.size=0 then #[] else te.zero.cells).size]!)) se hv
       (fun i p v h1 h2=>hr i p v h1 h2) (by simp[g2])
      have hn:¬ len * te.size > 2 ^ 24:=by omega
      have e0:∀ f:Nat->Value,(Array.range 0).map f = #[]:=fun f=>by apply Array.ext<;>simp
      have oA:adZ.size=len * te.size:=by rw[qX];simp
      have hlen:els.length=len:=by omega
      obtain⟨aF,aH⟩:=hi.j8 (Mv:=Mv) (bZ.alloc w (.cells adZ q))
      have ab6:(Instr.buildSlice t len (parts.map fun p=>(p.1,a.eval p.2))).run P w = .ok (.slice (some ⟨w.heap.size,0,none⟩) len len) (w.alloc (.cells adZ q)):=by
       by_cases h0:len * te.size=0
       .simp only[h0,if_true,e0]at hf;simp only[Instr.buildSlice,Sem.run_bind,hu,cM,Result.andThen_ok,aK,hn,if_false,h0,if_true,Sem.run_pure,e0];simp[hf,newRow]
       .simp only[h0,if_false]at hf;simp only[Instr.buildSlice,Sem.run_bind,hu,cM,Result.andThen_ok,aK,hn,if_false,h0,Sem.run_pure,xv];simp[hf,newRow]
      have ad7:len<=maxLen:=by
       have:len<=len * te.size:=Nat.le_mul_of_pos_right _ g3;unfold maxLen;omega
      refine⟨.slice (some ⟨w.heap.size,0,none⟩) len len,_,by simp[execOp,ab6],aF,.d ?_,aH⟩;by_cases h0:len=0
      .subst h0;obtain rfl:=acq hlen;exact .empty (by simp) ad7
      .refine .sl (sz:=te.size) (f:=fun i j=>adZ.getD (i * te.size+j) undef) (by simp) hlen (abL _) ad7 (agZ hi) bC g3 (by omega) (fun i j da hj=>?_) fun i j el c h1 h2=>?_
       .have au:i * te.size+j < adZ.size:=by
         rw[oA];have:(i+1) * te.size<=len * te.size:=acB _ da;rw[ade]at this;omega
        rw[acR];exact agY w _ q (by simp[IT,au])
       .obtain⟨u,hu',bD⟩:=jw i j el c h1 h2;rw[acR]at hu';rw[IT,hu'];exact bD.ev aH
     .cases h
    .cases h
   .cases h
  .cases h
 .rename_i t l c d;split at h
  .rename_i tt cC;split at h
   .rename_i q cM;split at h
    .rename_i te k1 n k2 m cg hl bT;simp only[AS,BY]at h;obtain⟨rfl,rfl⟩:=h;obtain⟨h0,h1,h2,h3,hz,pX⟩:=hc;have el:a.eval l = .int k1 n:=(hi.eval hl).scalar;have ec:a.eval c = .int k2 m:=(hi.eval bT).scalar;obtain⟨hu,i0,js,hs0,hb0,hz0,_⟩:=hg q te cg;have ht:=(hg t tt cC).1;rw[cM]at ht;have ab6:=run_make (P:=P) w t q i0 te.zero ht js hz0 k1 k2 n m h0 h1 (by rw[hb0];exact h2) h3;rw[hs0]at ab6;have aK:=size_madeCells te.zero.cells (m.toNat * te.size);obtain⟨aF,aH⟩:=hi.j8 (Mv:=Mv) (bZ.alloc w (.cells (madeCells te.zero.cells (m.toNat * te.size)) q));refine⟨.slice (some ⟨w.heap.size,0,none⟩) n.toNat m.toNat,_,by simp[execOp,el,ec,ab6],aF,.d ?_,aH⟩;by_cases hn0:n.toNat=0
     .rw[show mW te n.toNat=[] by rw[hn0];rfl,hn0];exact .empty (by simp) (by unfold maxLen;omega)
     .have pW:=vF (w:=w) (X:=XX X μ) te.zero
      have b8:te.zero.cells.size=te.size:=by rw[pW.1,pX]
      have ux:∀ i j,i < n.toNat->j < te.size->i * te.size+j < m.toNat * te.size:=fun i j da hj=>by
       have:(i+1) * te.size<=m.toNat * te.size:=acB _ (by omega);rw[ade]at this;omega
      refine .sl (sz:=te.size) (f:=fun i j=>(madeCells te.zero.cells (m.toNat * te.size)).getD (i * te.size+j) undef) (by simp) (by simp[mW]) (by omega) (by unfold maxLen;omega) (agZ hi) (fun el hel=>by rw[List.eq_of_mem_replicate hel,pX]) hz (by omega) (fun i j da hj=>?_) fun i j el d hel hd=>?_
      .rw[acR];exact agY w _ q (by simp[IT,aK,ux i j da hj])
      .unfold mW at hel;rw[List.getElem?_replicate]at hel;split at hel
       .rename_i au;obtain rfl:=AI hel
        have hj:j < te.size:=by rw[<- pX];exact (OF.1 hd).1
        have wX:j < te.zero.cells.size:=by omega
        have hb:=ux i j au hj
        have lv:(i * te.size+j) % te.size=j:=by rw[Nat.mul_comm,Nat.mul_add_mod,Nat.mod_eq_of_lt hj]
        have hv:(madeCells te.zero.cells (m.toNat * te.size)).getD (i * te.size+j) undef=te.zero.cells[j]:=by
         simp[IT,madeCells,hb,b8,lv];exact getElem!_pos te.zero.cells j wX
        rw[hv];exact (pW.2 j _ d (by simp[wX]) hd).ev aH
       .cases hel
    .cases h
   .cases h
  .cases h
 .cases h
variable {ops:Array Oper} {db:List Nat}
def lR (P:Program) (T:Ty) (Mv:Nat->Prop) (G:aq) (N:Fr) (db:List Nat) (i:Nat) (o:Oper) (σ aw:St):Prop:=
 eU N o/\o.guard=none/\((db.contains i=true/\∃ c y,kA T G σ.env o=some (c,y)/\c/\aw=⟨aD σ.env o.dst (.d y),σ.H⟩)\/
  (db.contains i=false/\kindOf o.op≠9/\∃ x H',Ex P T Mv G o σ.env σ.H x H'/\aw=⟨aD σ.env o.dst x,H'⟩))
theorem lR.ok (hg:Good P T) {o:Oper} {i:Nat} {aw:St} (h:lR P T Mv G N db i o σ aw) (hi:In w X G μ N a σ) (ho:ops[i]? = some o) {Q:Exit->Act->World->Prop} {K:Act->World->Prop}
  (hk:∀ w' ay a',In w' X G ay N a' aw->Ev Mv w μ w' ay->K a' w'):wpOpIn (wd N.ro) 0 P ops Q i K a w:=by
 obtain⟨hd,hgu,h⟩:=h
 have gN:∀ d,o.dst=some d->d < N.n:=fun d e=>by unfold eU at hd;rw[e]at hd;exact hd
 rcases h with⟨_,c,y,h1,h2,rfl⟩ | ⟨_,h9,x,H',h1,rfl⟩
 .unfold wpOpIn;simp only[ho];rw[afU hi (ir hgu),if_pos rfl];refine vD (fun c e=>by simp[kA,e]at h1) ?_;obtain⟨v,w',hr,aF,fv,aH⟩:=Ho (Mv:=Mv) hg hi h1 h2;unfold Oper.wp;rw[hr];exact hk _ μ _ (aF.put fv gN) aH
 .exact vv hg ⟨hd,.inl ⟨ir hgu,h1.to⟩⟩ hi ho hk
def rO (db:List Nat) (ops:Array Oper) (i j:Nat) (oi oj:Oper):Bool:=oi.apart ops oj && (db.contains i || db.contains j || p0 (kindOf oi.op) (kindOf oj.op))
theorem HK {i j:Nat} {oi oj:Oper} (hc:rO db ops i j oi oj=true) {σ aG eL:St} (h1:lR P T Mv G N db i oi σ aG) (h2:lR P T Mv G N db j oj aG eL) :
  ∃ fc,lR P T Mv G N db j oj σ fc/\lR P T Mv G N db i oi fc eL:=by
 simp only[rO,abI]at hc;obtain⟨hap,acO⟩:=hc;obtain⟨di,gi,h1⟩:=h1;obtain⟨dj,gj,h2⟩:=h2;have agj:∀ v,fB oj.op (aD σ.env oi.dst v) σ.env:=fun v t ht=>(adA hap (e:=σ.env) (v:=v)).1 t (iK ht);have eX:∀ v,fB oi.op σ.env (aD σ.env oj.dst v):=fun v t ht=>((adA hap (e:=σ.env) (v:=v)).2.1 t (iK ht)).symm;have aI:=(adA hap (e:=σ.env) (v:=cy)).2.2
 rcases h1 with⟨bi,c,y,e1,c1,rfl⟩ | ⟨bi,k1,x,H',e1,rfl⟩
 .rcases h2 with⟨bj,c',z,e2,c2,rfl⟩ | ⟨bj,k2,z,H2,e2,rfl⟩
  .rw[j6 (agj _)]at e2;refine⟨⟨aD σ.env oj.dst (.d z),σ.H⟩,⟨dj,gj,.inl ⟨bj,c',z,e2,c2,rfl⟩⟩,di,gi,.inl ⟨bi,c,y,?_,c1,?_⟩⟩
   .rw[<- j6 (eX _)];exact e1
   .rw[fG aI]
  .refine⟨⟨aD σ.env oj.dst z,H2⟩,⟨dj,gj,.inr ⟨bj,k2,z,H2,e2.congr k2 (agj _),rfl⟩⟩,di,gi,.inl ⟨bi,c,y,?_,c1,?_⟩⟩
   .rw[<- j6 (eX _)];exact e1
   .rw[fG aI]
 .rcases h2 with⟨bj,c',z,e2,c2,rfl⟩ | ⟨bj,k2,z,H2,e2,rfl⟩
  .rw[j6 (agj _)]at e2;refine⟨⟨aD σ.env oj.dst (.d z),σ.H⟩,⟨dj,gj,.inl ⟨bj,c',z,e2,c2,rfl⟩⟩,di,gi,.inr ⟨bi,k1,x,H',e1.congr k1 (eX _),?_⟩⟩;rw[fG aI]
  .rw[bi,bj]at acO
   have bT:adC ops oi oj=true:=by simp only[adC,abI];exact⟨hap,by simpa using acO⟩
   obtain⟨H3,f1,f2⟩:=tJ (N:=N) bT ⟨di,.inl ⟨ir gi,e1⟩⟩ ⟨dj,.inl ⟨ir gj,e2⟩⟩ k1 k2
   have un:∀ {o:Oper} {e:Env} {H H':Heap} {x:AV},o.guard=none->Sx P T Mv G N ops o e H x H'->Ex P T Mv G o e H x H':=fun hgu h=>by
    rcases h.2 with⟨_,h⟩ | ⟨hw,_⟩
    .exact h
    .rw[ir hgu]at hw;cases hw
   refine⟨⟨aD σ.env oj.dst z,H3⟩,⟨dj,gj,.inr ⟨bj,k2,z,H3,un gj f1,rfl⟩⟩,di,gi,.inr ⟨bi,k1,x,H2,un gi f2,?_⟩⟩;rw[fG aI]
def vn (P:Program) (T:Ty) (Mv:Nat->Prop) (G:aq) (N:Fr) (db:List Nat) (ops:Array Oper):List Nat->St->St->Prop
 | [],σ,aw=>σ=aw
 | i :: l,σ,aw=>∃ o,ops[i]? = some o/\∃ aG,lR P T Mv G N db i o σ aG/\vn P T Mv G N db ops l aG aw
theorem Yo {p:Nat} {op:Oper} (hp:ops[p]? = some op):∀ (l1:List Nat) {l2:List Nat} {σ aw:St},(∀ q∈l1,∀ oq,ops[q]? = some oq->rO db ops q p oq op=true)->vn P T Mv G N db ops (l1 ++ p :: l2) σ aw->vn P T Mv G N db ops (p :: (l1 ++ l2)) σ aw:=by
 intro l1
 induction l1 with
 | nil=>intro l2 σ aw _ h;exact h
 | cons q l1 ih=>
  intro l2 σ aw bC h;obtain⟨oq,hq,aG,s1,rest⟩:=h;obtain⟨o',ho',eL,s2,p3⟩:=ih (fun q' hq'=>bC q' (by simp[hq'])) rest;rw[hp]at ho';obtain rfl:=AI ho';obtain⟨fc,f1,f2⟩:=HK (bC q (by simp) oq hq) s1 s2;exact⟨op,hp,fc,f1,oq,hq,eL,f2,p3⟩
def vc (db:List Nat) (ord:List Nat) (ops:Array Oper):Bool:=
 let t:=tb ops
 ord.length == ops.size && (ord.all fun i=>decide (i < ops.size)) && ((List.range ops.size).all fun i=>ord.contains i) && decide ord.Nodup &&
 ((List.range ops.size).all fun j=>match ops[j]? with
  | some oj=>oj.after.all fun e=>!Region.binds .any e || e.on < j
  | none=>true) &&
 go t ord
where
 go (t:List Nat):List Nat->Bool
 | []=>true
 | a :: l=>(l.all fun b=>match ops[a]?,ops[b]? with
  | some oa,some ob=>(oa.after.all fun e=>!Region.binds .any e || !(e.on == b)) && ((t.getD b 0).testBit a || rO db ops a b oa ob)
  | _,_=>true) && go t l
def BK (db:List Nat) (ops:Array Oper) (a b:Nat):Prop:=∀ oa ob,ops[a]? = some oa->ops[b]? = some ob->
 (∀ e∈oa.after,Region.binds .any e=true->e.on≠b)/\(((tb ops).getD b 0).testBit a=true\/rO db ops a b oa ob=true)
theorem KR:∀ {l:List Nat},vc.go db ops (tb ops) l=true->l.Pairwise (BK db ops)
 | [],_=>.nil
 | a :: l,h=>by
  simp only[vc.go,abI]at h;refine .cons (fun b hb oa ob pO nF=>?_) (KR h.2);have:=ack.1 h.1 b hb;simp only[pO,nF,abI,acI]at this;refine⟨fun e he px heq=>?_,this.2⟩;have h1:=acr.1 this.1 e he;simp[px,heq]at h1
theorem Nw (hg:Good P T) (au:∀ j oj,ops[j]? = some oj->∀ e∈oj.after,Region.binds .any e=true->e.on < j) {Q:Exit->St->Prop} {w0:World} {gn:Mu} {σn:St} (hQ:Q .normal σn):∀ (n:Nat) (R:List Nat) (listed:Array Bool) (w:World) (μ:Mu) (a:Act) (σ:St),R.length=n->R.Nodup->
  (∀ j,j∈R↔j < ops.size/\listed.getD j true=false)->listed.size=ops.size->R.Pairwise (BK db ops)->
  (∀ j oj,ops[j]? = some oj->listed.getD j false=true->∀ e∈oj.after,Region.binds .any e=true->listed.getD e.on false=true)->vn P T Mv G N db ops R σ σn->In w X G μ N a σ->Ev Mv w0 gn w μ->
  wpAnyIn (wd N.ro) 0 P .any ops (After Mv X G N w0 gn Q) n listed a w:=by
 intro n
 induction n with
 | zero=>
  intro R listed w μ a σ hl _ hR aK _ _ ab6 hi aH;have:R=[]:=acq hl;subst this
  have hr:Region.ready .any ops listed=[]:=by
   apply adj.2;intro j hj;obtain⟨h1,o,ho,_⟩:=mem_ready.1 hj;exact absurd ((hR j).2 ⟨(IS.1 ho).1,h1⟩) (by simp)
  have:σ=σn:=ab6;subst this;exact⟨hr,μ,σ,hQ,hi,aH⟩
 | succ n ih=>
  intro R listed w μ a σ hl fi hR aK fN ie ab6 hi aH;refine⟨fun hr=>?_,fun i hir=>?_⟩
  .cases R with
   | nil=>simp at hl
   | cons j R=>
    obtain⟨ig,hj2⟩:=(hR j).1 (by simp)
    have bu:ops[j]? = some ops[j]:=by simp[ig]
    have jO:j∈Region.ready .any ops listed:=by
     refine mem_ready.2 ⟨hj2,ops[j],bu,fun e he hb=>?_⟩;have qS:=au j ops[j] bu e he hb
     have cr:e.on < ops.size:=by omega
     have aI:e.on ∉ (j :: R):=by
      intro hm
      rcases abV.1 hm with h | h
      .omega
      .exact ((acA.1 fN).1 _ h ops[j] ops[e.on] bu (by simp[cr])).1 e he hb rfl
     have:=mt (hR e.on).2 aI
     have fY:e.on < listed.size:=by omega
     simp only[cr,true_and,IT]at this ⊢;simp[fY]at this ⊢;exact this
    rw[hr]at jO;cases jO
  .obtain⟨hi1,oi,b7,bC⟩:=mem_ready.1 hir;have ny:i∈R:=(hR i).2 ⟨(IS.1 b7).1,hi1⟩;obtain⟨R1,R2,rfl⟩:=aem ny
   have aeW:=Yo (P:=P) (T:=T) (Mv:=Mv) (G:=G) (N:=N) (db:=db) b7 R1 (fun q hq oq jQ=>by
    have pP:BK db ops q i:=(acE.1 fN).2.2 q hq i (by simp)
    rcases (pP oq oi jQ b7).2 with h | h
    .exfalso;have jP:=vT au ie i i oi (abL _) b7 bC q h;have eS:=((hR q).1 (by simp[hq])).2
     have nI:q < listed.size:=by have:=(IS.1 jQ).1;omega
     simp[IT,nI]at jP eS;rw[jP]at eS;cases eS
    .exact h) ab6
   obtain⟨o',ho',aG,hstep,b9⟩:=aeW;rw[b7]at ho';obtain rfl:=AI ho';refine hstep.ok hg hi b7 fun w' ay a' aF iU=>?_
   have nD:(R1 ++ R2).Nodup:=by
    have:=fi;rw[ac2]at this ⊢;obtain⟨g1,g2,g3⟩:=this;exact⟨g1,(acF.1 g2).2,fun x hx y hy=>g3 x hx y (by simp[hy])⟩
   have nz:i ∉ R1 ++ R2:=by
    have:=fi;rw[ac2]at this;obtain⟨g1,g2,g3⟩:=this;intro hm
    rcases ab4.1 hm with h | h
    .exact g3 i h i (by simp) rfl
    .exact (acF.1 g2).1 h
   refine ih (R1 ++ R2) _ w' ay a' aG (by simp at hl ⊢;omega) nD (fun j=>?_) (by simpa using aK) ?_ ?_ b9 aF (aH.trans iU)
   .by_cases hji:j=i
    .subst hji
     have fY:j < listed.size:=by rw[aK];exact (IS.1 b7).1
     simp[fY];simpa using nz
    .rw[getD_set_ne true (adr hji)];rw[<- hR j];simp[hji]
   .rw[acE]at fN ⊢;obtain⟨g1,g2,g3⟩:=fN;exact⟨g1,(acA.1 g2).2,fun x hx y hy=>g3 x hx y (by simp[hy])⟩
   .intro j oj bu dK e he hb;by_cases hji:j=i
    .subst hji;rw[b7]at bu;obtain rfl:=AI bu;exact getD_set_true (bC e he hb)
    .rw[getD_set_ne false (adr hji)]at dK;exact getD_set_true (ie j oj bu dK e he hb)
def Bj (P:Program) (T:Ty) (Mv:Nat->Prop) (G:aq) (N:Fr) (db:List Nat) (i:Nat) (o:Oper) (σ:St) (K:St->Prop):Prop:=eU N o/\o.guard=none/\
 if db.contains i=true then (match kA T G σ.env o with
  | some (c,y)=>c/\K ⟨aD σ.env o.dst (.d y),σ.H⟩
  | none=>False)
 else kindOf o.op≠9/\match acm o.op with
  | some c=>aeT P G c σ.env o.dst σ.H [] [] K
  | none=>rp T G Mv o σ [] K
def oR (P:Program) (T:Ty) (Mv:Nat->Prop) (G:aq) (N:Fr) (db:List Nat) (K:St->Prop):List (Nat×Oper)->St->Prop
 | [],σ=>K σ
 | (i,o) :: rest,σ=>Bj P T Mv G N db i o σ (oR P T Mv G N db K rest)
theorem Zj {K:St->Prop}:∀ (l:List Nat) (σ:St),(∀ i∈l,i < ops.size)->oR P T Mv G N db K (b6 ops l) σ->∃ σn,K σn/\vn P T Mv G N db ops l σ σn:=by
 intro l
 induction l with
 | nil=>intro σ _ h;exact⟨σ,h,rfl⟩
 | cons i l ih=>
  intro σ hl h;have hi:=hl i (by simp)
  have ho:ops[i]? = some ops[i]:=by simp[hi]
  simp only[b6,ho]at h;generalize ops[i]=o at ho h;simp only[oR,Bj]at h;obtain⟨hd,hgu,h⟩:=h
  have fin:∀ aG,lR P T Mv G N db i o σ aG->oR P T Mv G N db K (b6 ops l) aG->∃ σn,K σn/\vn P T Mv G N db ops (i :: l) σ σn:=fun aG hs h1=>by
   obtain⟨σn,hk,hr⟩:=ih aG (fun j hj=>hl j (by simp[hj])) h1;exact⟨σn,hk,o,ho,aG,hs,hr⟩
  split at h
  .rename_i hb;split at h
   .rename_i c y hw;obtain⟨hc,h⟩:=h;exact fin _ ⟨hd,hgu,.inl ⟨hb,c,y,hw,hc,rfl⟩⟩ h
   .exact h.elim
  .rename_i hb
   have hb:db.contains i=false:=by simpa using hb
   obtain⟨hk,h⟩:=h;split at h
   .rename_i c hc;obtain⟨y,g,ds,ht,hp,ac8,h⟩:=h;refine fin _ ⟨hd,hgu,.inr ⟨hb,hk,.d y,σ.H,?_,rfl⟩⟩ h;unfold Ex;simp only[hc];exact⟨y,⟨g,_,ht,.inl ⟨ds,rfl,hp⟩⟩,rfl,trivial⟩
   .rename_i hc;unfold rp at h;split at h
    .rename_i hw;split at h
     .rename_i c x aG h1;obtain⟨bT,ac8,h⟩:=h;have he:=agb hk h1;obtain⟨e,H⟩:=σ;obtain⟨e1,H1⟩:=aG;dsimp only at he;subst he;refine fin _ ⟨hd,hgu,.inr ⟨hb,hk,x,H1,?_,rfl⟩⟩ h;unfold Ex;simp only[hc];rw[if_pos hw];exact⟨c,h1,bT⟩
     .exact h.elim
    .rename_i hw;split at h
     .rename_i c x h1;obtain⟨bT,ac8,h⟩:=h;refine fin _ ⟨hd,hgu,.inr ⟨hb,hk,x,σ.H,?_,rfl⟩⟩ h;unfold Ex;simp only[hc];rw[if_neg hw];exact⟨c,h1,bT,trivial⟩
     .exact h.elim
theorem Gr (hg:Good P T) (hm:P.follows .mixedOrders=true) (db:List Nat) (ord:List Nat) {id:Nat} (hok:vc db ord ops=true) {Q:Exit->St->Prop} {σ:St} (h:oR P T Mv G N db (fun aw=>Q .normal aw) (b6 ops ord) σ):AW P Mv X G N (.region id ops true) Q σ:=fun w μ a hi=>by
 unfold vc at hok;simp only[abI]at hok;obtain⟨⟨⟨⟨⟨h1,h2⟩,h3⟩,h4⟩,h5⟩,h6⟩:=hok
 have hlen:ord.length=ops.size:=by simpa using h1
 have au:∀ i∈ord,i < ops.size:=fun i hi=>by simpa using ack.1 h2 i hi
 have bC:∀ i,i < ops.size->i∈ord:=fun i hi=>by simpa using ack.1 h3 i (acW.2 hi)
 have fi:ord.Nodup:=by simpa using h4
 have pG:∀ j oj,ops[j]? = some oj->∀ e∈oj.after,Region.binds .any e=true->e.on < j:=fun j oj bu e he hb=>by
  have:=ack.1 h5 j (acW.2 (IS.1 bu).1);simp only[bu]at this;have:=acr.1 this e he;simpa[hb]using this
 obtain⟨σn,hQ,ab6⟩:=Zj ord σ au h;refine wpIn_region_any hm ?_;obtain⟨aF,aH⟩:=hi.j8 (Mv:=Mv) (bZ.drew w);refine Nw hg pG hQ ops.size ord _ w.drew μ a σ hlen fi (fun j=>?_) (by simp) (KR h6) ?_ ab6 aF aH
 .constructor
  .intro hj;have:=au j hj;simp[IT,this]
  .intro hj;exact bC j hj.1
 .intro j oj bu dK;have hj:=(IS.1 bu).1;simp[IT,hj]at dK
theorem tv (hg:Good P T) (hm:P.follows .mixedOrders=true) (db:List Nat) (ord:List Nat) (l ns:List Nat) (hM:∀ r,ns.contains r=false->Mv r) {id:Nat} (hok:vc db ord ops=true) {y:Code} {Q:Exit->St->Prop} {σ:St}
  (h:∀ K:St->Prop,(∀ τ:St,AW P Mv X G N y Q (τ.norm l ns)->K τ)->oR P T Mv G N db K (b6 ops ord) σ):AW P Mv X G N (.seq (.region id ops true) y) Q σ:=
 oX (Gr hg hm db ord hok (h _ fun _ h=>h.norm l ns hM))
theorem M5 (hg:Good P T) (hm:P.follows .mixedOrders=true) (db:List Nat) (ord:List Nat) {id:Nat} (hok:vc db ord ops=true) {Q:Exit->St->Prop} {σ:St}
  (h:∀ K:St->Prop,(∀ τ:St,Q .normal τ->K τ)->oR P T Mv G N db K (b6 ops ord) σ):AW P Mv X G N (.region id ops true) Q σ:=Gr hg hm db ord hok (h _ fun _ h=>h)
theorem qa {K:St->Prop} {i:Nat} {l:List Nat} {o:Oper} (ho:ops[i]? = some o) (h:∀ K':St->Prop,(∀ τ,oR P T Mv G N db K (b6 ops l) τ->K' τ)->Bj P T Mv G N db i o σ K'):oR P T Mv G N db K (b6 ops (i :: l)) σ:=by
 have:b6 ops (i :: l)=(i,o) :: b6 ops l:=by simp[b6,ho]
 rw[this];exact h _ fun _ h=>h
theorem tp {K:St->Prop} (h:K σ):oR P T Mv G N db K (b6 ops []) σ:=h
end
attribute [simp] Bj kA
end Go.Av
namespace Go.Av
def JP:Op->Bool
 | .insert _ _ _ _=>true
 | _=>false
def AQ (G:aq) (e:Env) (o:Op) (r:Nat):Prop:=match o with
 | .insert _ m _ _=>bh G e m=some (.mp r)
 | _=>False
def vx (G:aq) (fp:List (Nat×Nat)) (e:Env) (i:Nat) (o:Op):Prop:=match fp.lookup i with
 | some r=>if JP o=true then AQ G e o r else afy G e o r
 | none=>True
section
variable {P:Program} {T:Ty} {Mv X:Nat->Prop} {G:aq} {N:Fr} {ops:Array Oper} {fp:List (Nat×Nat)} {cn:List Nat}
theorem Ex.ZE {o:Oper} {e:Env} {H H':Heap} {x:AV} {r:Nat} (ht:AQ G e o.op r) (h:Ex P T Mv G o e H x H') :
  ∃ u,H'=adX H r u/\∀ H2,H2 r=H r->Ex P T Mv G o e H2 x (adX H2 r u):=by
 obtain⟨dst,op,type,pos,after,guard⟩:=o;dsimp only at ht;cases op<;>simp only[AQ]at ht
 case insert t m k v=>
  unfold Ex at h;simp only[acm,acS,if_true]at h;obtain⟨c,h1,h3⟩:=h
  cases dst with
  | some d=>simp[wr]at h1
  | none=>
   simp only[wr,ht]at h1;split at h1
   .rename_i q key y hm hk hv;simp only[AS,AV.mp.injEq]at hm;subst hm;split at h1
    .rename_i ty ents hr;split at h1
     .rename_i c' iQ hp;simp only[AS,BY,St.mk.injEq,true_and]at h1;obtain⟨rfl,rfl,rfl⟩:=h1;refine⟨some (.mp ty iQ),rfl,fun H2 h2=>?_⟩;unfold Ex;simp only[acm,acS,if_true];exact⟨_,by simp only[wr,ht,hk,hv,h2,hr,hp];rfl,h3⟩
     .cases h1
    .cases h1
   .cases h1
theorem Ex.vx {o:Oper} {e:Env} {H H':Heap} {x:AV} {r i:Nat} (hr:fp.lookup i=some r) (ht:Av.vx G fp e i o.op) (h:Ex P T Mv G o e H x H') :
  ∃ u,H'=adX H r u/\∀ H2,H2 r=H r->Ex P T Mv G o e H2 x (adX H2 r u):=by
 unfold Av.vx at ht;simp only[hr]at ht;split at ht
 .exact h.ZE ht
 .exact h.agy ht
theorem Ex.call {o:Oper} {e:Env} {H H':Heap} {x:AV} (hn:acm o.op≠none) (h:Ex P T Mv G o e H x H'):H'=H:=by
 cases hc:acm o.op with
 | none=>exact absurd hc hn
 | some c=>
  unfold Ex at h;simp only[hc]at h;exact h.choose_spec.2.2
def GD (P:Program) (T:Ty) (Mv:Nat->Prop) (G:aq) (N:Fr) (ops:Array Oper) (fp:List (Nat×Nat)) (cn:List Nat) (cl:List (Nat×AV)) (i:Nat) (o:Oper) (σ aw:St):Prop:=
 kindOf o.op≠9/\(∃ x H',Sx P T Mv G N ops o σ.env σ.H x H'/\aw=⟨aD σ.env o.dst x,H'⟩/\(acm o.op≠none->fR ops σ.env o=some true->cl.lookup i=some x)/\(cn.contains i=true->fR ops σ.env o=some true->acm o.op≠none/\∀ H2,Ex P T Mv G o σ.env H2 x H2))/\(fR ops σ.env o=some true->vx G fp σ.env i o.op)
theorem GD.to {cl:List (Nat×AV)} {i:Nat} {o:Oper} {σ aw:St} (h:GD P T Mv G N ops fp cn cl i o σ aw):tm P T Mv G N ops o σ aw:=by
 obtain⟨hk,⟨x,H',hs,e,_,_⟩,_⟩:=h;exact (p6 hk).2 ⟨x,H',hs,e⟩
variable {cl:List (Nat×AV)}
def B6 (P:Program) (G:aq) (cl:List (Nat×AV)) (i:Nat) (c:Call) (σ:St) (dst:Option Tmp) (next:St->Prop):Prop:=∃ y,cl.lookup i=some (.d y)/\(∀ H2,age P G ⟨σ.env,H2⟩ c y)/\next ⟨aD σ.env dst (.d y),σ.H⟩
theorem B6.data {i:Nat} {c:Call} {σ:St} {g:FuncId} {xs:List AV} {ds ds':List D} {y:D} {dst:Option Tmp} {next:St->Prop} (hc:ar P G g ds y) (hcl:cl.lookup i=some (.d y)) (ht:tgt G σ.env c=some (g,xs)) (hx:iN xs=some ds') (hle:D.le.go ds' ds) (h:next ⟨aD σ.env dst (.d y),σ.H⟩):B6 P G cl i c σ dst next:=
 ⟨y,hcl,fun _=>⟨g,xs,ht,.inl ⟨ds',lT hx,hc.aeZ hle⟩⟩,h⟩
def Mm (P:Program) (T:Ty) (Mv:Nat->Prop) (G:aq) (N:Fr) (ops:Array Oper) (fp:List (Nat×Nat)) (cn:List Nat) (cl:List (Nat×AV)) (i:Nat) (o:Oper) (σ:St) (K:St->Prop):Prop:=eU N o/\kindOf o.op≠9/\match fR ops σ.env o with
 | some b=>if b=true then vx G fp σ.env i o.op/\(match acm o.op with
  | some c=>B6 P G cl i c σ o.dst K
  | none=>cn.contains i=false/\mg T G Mv o σ K) else K ⟨aD σ.env o.dst cy,σ.H⟩
 | none=>False
attribute [simp] Mm vx JP AQ
end
end Go.Av
namespace Go.Av
def Ni (P:Program) (t:TypeId) (name:String) (g:FuncId):Prop:=∀ (v:Value) (w:World),(invoke (.fn (.method name) #[]) #[.iface t v]).run P w = .ok (.enter g #[v]) w
def JN:Op->Option (Operand×String)
 | .call { callee:=.invoke r name,args:=az,argTypes:=_ }=>if az.isEmpty then some (r,name) else none
 | _=>none
def Za (P:Program) (T:Ty) (Mv X:Nat->Prop) (G:aq) (N:Fr) (ops:Array Oper) (o:Oper) (σ:St) (K:St->Prop):Prop:=eU N o/\match fR ops σ.env o with
 | some b=>if b=true then (match JN o.op with
  | some (r,name)=>∃ t x g,bh G σ.env r=some (.d (.bt t x))/\Ni P t name g/\ab8 P Mv X G N g [.d x] σ o.dst K
  | none=>jJ P T Mv X G N o σ K) else K ⟨aD σ.env o.dst cy,σ.H⟩
 | none=>False
section
variable {P:Program} {T:Ty} {Mv X:Nat->Prop} {G:aq} {N:Fr} {w:World} {μ:Mu} {a:Act} {σ:St}
attribute [simp] Za JN jJ
end
