/- Parts. -/
import Derived.Test.YtdigkhaofjmgkaaGreatDoorPs8
set_option linter.unusedSectionVars false
set_option linter.unusedSimpArgs false
set_option linter.unusedVariables false
namespace Go.Av
theorem Aq {p q:Prop} (h:p) (k:q):p/\q:=⟨h,k⟩
section
variable {P:Program} {Mv X:Nat->Prop} {G:Yt} {N:Fr} {σ τ eA:St} {p:Prop}
theorem al (l ns:List Nat) {id:Nat} {ops:Array Oper} {y:Code} {Q:Exit->St->Prop} (k:AW P Mv X G N y Q eA)
  (hM:∀ r,ns.contains r=false->Mv r:=by first | exact fun _ _=>trivial | exact cF rfl)
  (h:∀ K':St->Prop,K' τ->fD P (bW P) Mv X G N ops K' ops.toList σ:=by
   intro K' Yu;repeat (refine aP fun K2 aa=>?_;simp;(repeat (refine⟨by omega,?_⟩));refine aa _ ?_;clear aa K2)
   exact YM Yu)
  (hn:τ.norm l ns=eA:=by simp;rfl):AW P Mv X G N (.seq (.region id ops false) y) Q σ:=
 rg l ns hM fun K hK=>h K (hK _ (hn ▸ k))
theorem Ys (q:p) (l ns:List Nat) {id:Nat} {ops:Array Oper} {y:Code} {Q:Exit->St->Prop} (k:AW P Mv X G N y Q eA)
  (hM:∀ r,ns.contains r=false->Mv r:=by first | exact fun _ _=>trivial | exact cF rfl)
  (h:p->∀ K':St->Prop,K' τ->fD P (bW P) Mv X G N ops K' ops.toList σ:=by
   intro q K' Yu;repeat (refine aP fun K2 aa=>?_;simp[q];(repeat (refine⟨by omega,?_⟩));refine aa _ ?_;clear aa K2)
   exact YM Yu)
  (hn:p->τ.norm l ns=eA:=by intro q;simp[q];rfl):AW P Mv X G N (.seq (.region id ops false) y) Q σ:=
 rg l ns hM fun K hK=>h q K (hK _ (hn q ▸ k))
theorem aW (q:p) {g:FuncId} {ds:List D} {yd:D} (hc:ao P G g ds yd) (l ns:List Nat) {id:Nat} {ops:Array Oper} {y:Code} {Q:Exit->St->Prop} (k:AW P Mv X G N y Q eA)
  (hM:∀ r,ns.contains r=false->Mv r:=by first | exact fun _ _=>trivial | exact cF rfl)
  (h:p->ao P G g ds yd->∀ K':St->Prop,K' τ->fD P (bW P) Mv X G N ops K' ops.toList σ:=by
   intro q hc K' Yu;(repeat (refine aP fun K2 aa=>?_;simp[q];(repeat (refine⟨by omega,?_⟩));refine aa _ ?_;clear aa K2));refine aP fun K2 aa=>?_;simp[q];refine YR.data hc (by simp;rfl) (by first | exact D.YG _ | simp[aQ,List.map_map,Function.comp_def,D.le,D.le.go,D.le_refl,D.YG,q]) ?_;refine aa _ ?_;clear aa K2;simp only[aw,cJ];repeat (refine aP fun K2 aa=>?_;simp[q];(repeat (refine⟨by omega,?_⟩));refine aa _ ?_;clear aa K2)
   exact YM Yu)
  (hn:p->τ.norm l ns=eA:=by intro q;simp[q];rfl):AW P Mv X G N (.seq (.region id ops false) y) Q σ:=
 rg l ns hM fun K hK=>h q hc K (hK _ (hn q ▸ k))
theorem bh (q:p) {fx:List Nat} {g:FuncId} {xs:List AV} {YD Zb:List (Nat×Row)} {yv:AV} (hc:MC P G fx g xs (ah YD) yv (ah Zb)) (l ns:List Nat) {id:Nat} {ops:Array Oper} {y:Code} {Q:Exit->St->Prop} (k:AW P Mv X G N y Q eA)
  (hM:∀ r,ns.contains r=false->Mv r:=by first | exact fun _ _=>trivial | exact cF rfl)
  (h:p->MC P G fx g xs (ah YD) yv (ah Zb)->∀ K':St->Prop,K' τ->fD P (bW P) Mv X G N ops K' ops.toList σ:=by
   intro q hc K' Yu;(repeat (refine aP fun K2 aa=>?_;simp[q];(repeat (refine⟨by omega,?_⟩));refine aa _ ?_;clear aa K2));refine aP fun K2 aa=>?_;simp[q];refine YR.mc hc (by simp[q]) (by simp[q]) (by simp[q]) (by simp[q]) ?_;simp[q];refine aa _ ?_;clear aa K2;repeat (refine aP fun K2 aa=>?_;simp[q];(repeat (refine⟨by omega,?_⟩));refine aa _ ?_;clear aa K2)
   exact YM Yu)
  (hn:p->τ.norm l ns=eA:=by intro q;simp[q];rfl):AW P Mv X G N (.seq (.region id ops false) y) Q σ:=
 rg l ns hM fun K hK=>h q hc K (hK _ (hn q ▸ k))
theorem rO (q:p) (l ns:List Nat) {id:Nat} {ops:Array Oper} {y:Code} {Q:Exit->St->Prop} (k:AW P Mv X G N y Q eA)
  (hm:P.follows .mixedOrders=true:=by kernel_rfl) (bp:lO ops=true:=by kernel_rfl)
  (hM:∀ r,ns.contains r=false->Mv r:=by first | exact fun _ _=>trivial | exact cF rfl)
  (h:p->∀ K':St->Prop,K' τ->jP P (bW P) Mv G N ops K' ops.toList σ:=by
   intro q K' Yu;repeat (refine e9 fun K2 aa=>?_;simp[q];(repeat (refine⟨by omega,?_⟩));refine aa _ ?_;clear aa K2)
   exact nK Yu)
  (hn:p->τ.norm l ns=eA:=by intro q;simp[q];rfl):AW P Mv X G N (.seq (.region id ops true) y) Q σ:=
 aa3 (au _) hm l ns hM bp fun K hK=>h q K (hK _ (hn q ▸ k))
theorem Uv (q:p) {g:FuncId} {ds:List D} {yd:D} (hc:ao P G g ds yd) (l ns:List Nat) {id:Nat} {ops:Array Oper} {y:Code} {Q:Exit->St->Prop} (k:AW P Mv X G N y Q eA)
  (hm:P.follows .mixedOrders=true:=by kernel_rfl) (bp:lO ops=true:=by kernel_rfl)
  (hM:∀ r,ns.contains r=false->Mv r:=by first | exact fun _ _=>trivial | exact cF rfl)
  (h:p->ao P G g ds yd->∀ K':St->Prop,K' τ->jP P (bW P) Mv G N ops K' ops.toList σ:=by
   intro q hc K' Yu;(repeat (refine e9 fun K2 aa=>?_;simp[q];(repeat (refine⟨by omega,?_⟩));refine aa _ ?_;clear aa K2));refine e9 fun K2 aa=>?_;simp[q];refine aak.data hc (by simp;rfl) (by simp;rfl) (by first | exact D.YG _ | simp[aQ,List.map_map,Function.comp_def,D.le,D.le.go,D.le_refl,D.YG,q]) ?_;refine aa _ ?_;clear aa K2;simp only[aw,cJ];repeat (refine e9 fun K2 aa=>?_;simp[q];(repeat (refine⟨by omega,?_⟩));refine aa _ ?_;clear aa K2)
   exact nK Yu)
  (hn:p->τ.norm l ns=eA:=by intro q;simp[q];rfl):AW P Mv X G N (.seq (.region id ops true) y) Q σ:=
 aa3 (au _) hm l ns hM bp fun K hK=>h q hc K (hK _ (hn q ▸ k))
theorem gB (q:p) {K0:St->Prop} {y:Code} {Q Q2:Exit->St->Prop} (hk:∀ af,AW P Mv X G N y Q2 af->K0 af) (l ns:List Nat) {id:Nat} {ops:Array Oper} (k:AW P Mv X G N y Q2 eA)
  (hq:∀ τ,K0 τ->Q .normal τ:=by exact fun _ h=>h)
  (hM:∀ r,ns.contains r=false->Mv r:=by first | exact fun _ _=>trivial | exact cF rfl)
  (h:p->∀ K':St->Prop,K' τ->fD P (bW P) Mv X G N ops K' ops.toList σ:=by
   intro q K' Yu;repeat (refine aP fun K2 aa=>?_;simp[q];(repeat (refine⟨by omega,?_⟩));refine aa _ ?_;clear aa K2)
   exact YM Yu)
  (hn:p->τ.norm l ns=eA:=by intro q;simp[q];rfl):AW P Mv X G N (.region id ops false) Q σ:=
 ZD (au _) fun K hK=>h q K (hK _ (hq _ (hk _ (AW.norm l ns hM (hn q ▸ k)))))
theorem aC (l ns:List Nat) {id:Nat} {ops:Array Oper} {y:Code} {Q:Exit->St->Prop} (k:AW P Mv X G N y Q eA)
  (hM:∀ r,ns.contains r=false->Mv r:=by first | exact fun _ _=>trivial | exact cF rfl)
  (h:∀ K':St->Prop,K' τ->fD P (bW P) Mv X G N ops K' ops.toList σ:=by
   intro K' Yu;repeat (refine aP fun K2 aa=>?_;simp[qf];(repeat (refine⟨by omega,?_⟩));refine aa _ ?_;clear aa K2)
   exact YM Yu)
  (hn:τ.norm l ns=eA:=by simp[qf];rfl):AW P Mv X G N (.seq (.region id ops false) y) Q σ:=
 rg l ns hM fun K hK=>h K (hK _ (hn ▸ k))
theorem Zq {g:FuncId} {ds:List D} {yd:D} (hc:ao P G g ds yd) (l ns:List Nat) {id:Nat} {ops:Array Oper} {y:Code} {Q:Exit->St->Prop} (k:AW P Mv X G N y Q eA)
  (hM:∀ r,ns.contains r=false->Mv r:=by first | exact fun _ _=>trivial | exact cF rfl)
  (h:ao P G g ds yd->∀ K':St->Prop,K' τ->fD P (bW P) Mv X G N ops K' ops.toList σ:=by
   intro hc K' Yu;(repeat (refine aP fun K2 aa=>?_;simp[qf];(repeat (refine⟨by omega,?_⟩));refine aa _ ?_;clear aa K2));refine aP fun K2 aa=>?_;simp[qf];refine YR.data hc (by simp;rfl) (by first | exact D.YG _ | simp[aQ,List.map_map,Function.comp_def,D.le,D.le.go,D.le_refl,D.YG,qf]) ?_;refine aa _ ?_;clear aa K2;simp only[aw,cJ];repeat (refine aP fun K2 aa=>?_;simp[qf];(repeat (refine⟨by omega,?_⟩));refine aa _ ?_;clear aa K2)
   exact YM Yu)
  (hn:τ.norm l ns=eA:=by simp[qf];rfl):AW P Mv X G N (.seq (.region id ops false) y) Q σ:=
 rg l ns hM fun K hK=>h hc K (hK _ (hn ▸ k))
theorem aaS {fx:List Nat} {g:FuncId} {xs:List AV} {YD Zb:List (Nat×Row)} {yv:AV} (hc:MC P G fx g xs (ah YD) yv (ah Zb)) (l ns:List Nat) {id:Nat} {ops:Array Oper} {y:Code} {Q:Exit->St->Prop} (k:AW P Mv X G N y Q eA)
  (hM:∀ r,ns.contains r=false->Mv r:=by first | exact fun _ _=>trivial | exact cF rfl)
  (h:MC P G fx g xs (ah YD) yv (ah Zb)->∀ K':St->Prop,K' τ->fD P (bW P) Mv X G N ops K' ops.toList σ:=by
   intro hc K' Yu;(repeat (refine aP fun K2 aa=>?_;simp[qf];(repeat (refine⟨by omega,?_⟩));refine aa _ ?_;clear aa K2));refine aP fun K2 aa=>?_;simp[qf];refine YR.mc hc (by simp[qf]) (by simp[qf]) (by simp[qf]) (by simp[qf]) ?_;simp[qf];refine aa _ ?_;clear aa K2;repeat (refine aP fun K2 aa=>?_;simp[qf];(repeat (refine⟨by omega,?_⟩));refine aa _ ?_;clear aa K2)
   exact YM Yu)
  (hn:τ.norm l ns=eA:=by simp[qf];rfl):AW P Mv X G N (.seq (.region id ops false) y) Q σ:=
 rg l ns hM fun K hK=>h hc K (hK _ (hn ▸ k))
theorem aaR (l ns:List Nat) {id:Nat} {ops:Array Oper} {y:Code} {Q:Exit->St->Prop} (k:AW P Mv X G N y Q eA)
  (hm:P.follows .mixedOrders=true:=by kernel_rfl) (bp:lO ops=true:=by kernel_rfl)
  (hM:∀ r,ns.contains r=false->Mv r:=by first | exact fun _ _=>trivial | exact cF rfl)
  (h:∀ K':St->Prop,K' τ->jP P (bW P) Mv G N ops K' ops.toList σ:=by
   intro K' Yu;repeat (refine e9 fun K2 aa=>?_;simp[qf];(repeat (refine⟨by omega,?_⟩));refine aa _ ?_;clear aa K2)
   exact nK Yu)
  (hn:τ.norm l ns=eA:=by simp[qf];rfl):AW P Mv X G N (.seq (.region id ops true) y) Q σ:=
 aa3 (au _) hm l ns hM bp fun K hK=>h K (hK _ (hn ▸ k))
theorem xG {g:FuncId} {ds:List D} {yd:D} (hc:ao P G g ds yd) (l ns:List Nat) {id:Nat} {ops:Array Oper} {y:Code} {Q:Exit->St->Prop} (k:AW P Mv X G N y Q eA)
  (hm:P.follows .mixedOrders=true:=by kernel_rfl) (bp:lO ops=true:=by kernel_rfl)
  (hM:∀ r,ns.contains r=false->Mv r:=by first | exact fun _ _=>trivial | exact cF rfl)
  (h:ao P G g ds yd->∀ K':St->Prop,K' τ->jP P (bW P) Mv G N ops K' ops.toList σ:=by
   intro hc K' Yu;(repeat (refine e9 fun K2 aa=>?_;simp[qf];(repeat (refine⟨by omega,?_⟩));refine aa _ ?_;clear aa K2));refine e9 fun K2 aa=>?_;simp[qf];refine aak.data hc (by simp;rfl) (by simp;rfl) (by first | exact D.YG _ | simp[aQ,List.map_map,Function.comp_def,D.le,D.le.go,D.le_refl,D.YG,qf]) ?_;refine aa _ ?_;clear aa K2;simp only[aw,cJ];repeat (refine e9 fun K2 aa=>?_;simp[qf];(repeat (refine⟨by omega,?_⟩));refine aa _ ?_;clear aa K2)
   exact nK Yu)
  (hn:τ.norm l ns=eA:=by simp[qf];rfl):AW P Mv X G N (.seq (.region id ops true) y) Q σ:=
 aa3 (au _) hm l ns hM bp fun K hK=>h hc K (hK _ (hn ▸ k))
theorem ZY {K0:St->Prop} {y:Code} {Q Q2:Exit->St->Prop} (hk:∀ af,AW P Mv X G N y Q2 af->K0 af) (l ns:List Nat) {id:Nat} {ops:Array Oper} (k:AW P Mv X G N y Q2 eA)
  (hq:∀ τ,K0 τ->Q .normal τ:=by exact fun _ h=>h)
  (hM:∀ r,ns.contains r=false->Mv r:=by first | exact fun _ _=>trivial | exact cF rfl)
  (h:∀ K':St->Prop,K' τ->fD P (bW P) Mv X G N ops K' ops.toList σ:=by
   intro K' Yu;repeat (refine aP fun K2 aa=>?_;simp[qf];(repeat (refine⟨by omega,?_⟩));refine aa _ ?_;clear aa K2)
   exact YM Yu)
  (hn:τ.norm l ns=eA:=by simp[qf];rfl):AW P Mv X G N (.region id ops false) Q σ:=
 ZD (au _) fun K hK=>h K (hK _ (hq _ (hk _ (AW.norm l ns hM (hn ▸ k)))))
end
end Go.Av
namespace Go.Av
section
variable {P:Program} {Mv X:Nat->Prop} {G:Yt} {N:Fr} {σ τ:St} {p:Prop}
theorem fk {id:Nat} {ops:Array Oper} {Q:Exit->St->Prop} (k:Q .normal τ)
  (h:∀ K':St->Prop,K' τ->fD P (bW P) Mv X G N ops K' ops.toList σ:=by
   intro K' Yu;repeat (refine aP fun K2 aa=>?_;simp;(repeat (refine⟨by omega,?_⟩));refine aa _ ?_;clear aa K2)
   exact YM Yu):AW P Mv X G N (.region id ops false) Q σ:=
 ZD (au _) fun K hK=>h K (hK _ k)
theorem b8 (q:p) {id:Nat} {ops:Array Oper} {Q:Exit->St->Prop} (k:Q .normal τ)
  (h:p->∀ K':St->Prop,K' τ->fD P (bW P) Mv X G N ops K' ops.toList σ:=by
   intro q K' Yu;repeat (refine aP fun K2 aa=>?_;simp[q];(repeat (refine⟨by omega,?_⟩));refine aa _ ?_;clear aa K2)
   exact YM Yu):AW P Mv X G N (.region id ops false) Q σ:=
 ZD (au _) fun K hK=>h q K (hK _ k)
theorem xH {id:Nat} {ops:Array Oper} {Q:Exit->St->Prop} (k:Q .normal τ)
  (h:∀ K':St->Prop,K' τ->fD P (bW P) Mv X G N ops K' ops.toList σ:=by
   intro K' Yu;repeat (refine aP fun K2 aa=>?_;simp[qf];(repeat (refine⟨by omega,?_⟩));refine aa _ ?_;clear aa K2)
   exact YM Yu):AW P Mv X G N (.region id ops false) Q σ:=
 ZD (au _) fun K hK=>h K (hK _ k)
theorem eB (r:Nat) {c:Code} {Q:Exit->St->Prop} (k:AW P Mv X G N c Q τ) (hM:Mv r:=by first | trivial | decide) (hn:σ.lX r=τ:=by simp;rfl):AW P Mv X G N c Q σ:=
 AW.imp (aD.lX r hM) (hn ▸ k)
theorem Y5 (q:p) (r:Nat) {c:Code} {Q:Exit->St->Prop} (k:AW P Mv X G N c Q τ) (hM:Mv r:=by first | trivial | decide) (hn:p->σ.lX r=τ:=by intro q;simp[q];rfl):AW P Mv X G N c Q σ:=
 AW.imp (aD.lX r hM) (hn q ▸ k)
theorem da {Q:Exit->St->Prop} (h:Q .ret σ:=by simp[D.le,D.le.go,aQ,D.le_refl,D.YG]):AW P Mv X G N .ret Q σ:=b6 h
theorem aY (q:p) {Q:Exit->St->Prop} (h:p->Q .ret σ:=by intro q;simp[D.le,D.le.go,aQ,D.le_refl,D.YG,q]):AW P Mv X G N .ret Q σ:=b6 (h q)
theorem eg {e:Env} {H:Heap} {l:List (Nat×AV)} {rows:List (Nat×Row)} (hm:∀ r,(rows.map (·.1)).contains r=false->Mv r:=by first | exact fun _ _=>trivial | exact cF rfl)
  (he:∀ p∈l,(e p.1).map (AV.tr (cM (rows.map (·.1))) (cL (rows.map (·.1))))=some p.2:=by simp)
  (hH:∀ p∈rows,(H p.1).map (Row.tr (cM (rows.map (·.1))) (cL (rows.map (·.1))))=ah rows p.1:=by simp):aD Mv X G N ⟨e,H⟩ ⟨YB l,ah rows⟩:=aD.dw hm he hH
theorem bz (q:p) {e:Env} {H:Heap} {l:List (Nat×AV)} {rows:List (Nat×Row)} (hm:∀ r,(rows.map (·.1)).contains r=false->Mv r:=by first | exact fun _ _=>trivial | exact cF rfl)
  (he:p->∀ p∈l,(e p.1).map (AV.tr (cM (rows.map (·.1))) (cL (rows.map (·.1))))=some p.2:=by intro q;simp[q])
  (hH:p->∀ p∈rows,(H p.1).map (Row.tr (cM (rows.map (·.1))) (cL (rows.map (·.1))))=ah rows p.1:=by intro q;simp[q]):aD Mv X G N ⟨e,H⟩ ⟨YB l,ah rows⟩:=aD.dw hm (he q) (hH q)
end
end Go.Av
namespace Go.Av
def iS (T:Ty) (G:Yt) (e:Env) (o:Oper):Option (Prop×D):=match o.op,o.dst with
 | .box _ x,some _=>match (aT G e x).bind eW with
  | some cs=>match ZM cs with
   | some ds=>some (True,.ip ds)
   | none=>none
  | none=>none
 | .buildSlice t len parts,some _=>match T t with
  | some tt=>match tt.desc with
   | .slice q=>match T q,aal G e parts.toList with
    | some te,some ps=>match abl te.size 0 ps with
     | some els=>some (ps.length=len/\0 < te.size/\len * te.size<=16777216,.sl none els)
     | none=>none
    | _,_=>none
   | _=>none
  | none=>none
 | .makeSlice t l c,some _=>match T t with
  | some tt=>match tt.desc with
   | .slice q=>match T q,aT G e l,aT G e c with
    | some te,some (.d (.v (.int _ n))),some (.d (.v (.int _ m)))=>some (0<=n/\n<=m/\te.bytes * m<=281474976710656/\m<=9223372036854775807/\0 < te.size/\(dW te.zero).length=te.size,.sl none (aad te n.toNat))
    | _,_,_=>none
   | _=>none
  | none=>none
 | _,_=>none
section
variable {P:Program} {T:Ty} {Mv X:Nat->Prop} {G:Yt} {N:Fr} {w:World} {μ:Mu} {a:Act} {σ:St}
theorem iy {o:Oper} {e e':Env} (h:dz o.op e e'):iS T G e o=iS T G e' o:=by
 obtain⟨dst,op,type,pos,after,guard⟩:=o;unfold dz at h;dsimp only at h;unfold iS
 cases op<;>try rfl
 case box t x=>
  cases dst with
  | none=>rfl
  | some d=>
   dsimp only;rw[cG (x:=x) fun t ht=>h t (by simp[Op.operands,ht])]
 case buildSlice t n ps=>
  cases dst with
  | none=>rfl
  | some d=>
   dsimp only;rw[vy (l:=ps.toList) fun t ht=>h t (by simpa[Op.operands]using ht)]
 case makeSlice t x y=>
  cases dst with
  | none=>rfl
  | some d=>
   dsimp only;rw[cG (x:=x) fun t ht=>h t (by simp[Op.operands,ht]),cG (x:=y) fun t ht=>h t (by simp[Op.operands,ht])]
theorem B4 (hi:In w X G μ N a σ):¬ XX X μ w.heap.size:=by
 rintro (h | h)
 .exact Nat.lt_irrefl _ (hi.aL.fits _ h)
 .exact Nat.lt_irrefl _ (hi.aL.ZZ h)
theorem B3 (w:World) (cur:Array Value) (t:TypeId) {o:Nat} {v:Value} (h:cur[o]? = some v):(w.alloc (.cells cur t)).cell? ⟨w.heap.size,o,none⟩=some v:=by
 rw[cell_of_row _ w.heap.size o cur t (0,0) (by simpa using heap_alloc_new w (.cells cur t))];exact h
theorem D2 (hg:Good P T) (hi:In w X G μ N a σ) {o:Oper} {c:Prop} {y:D} (h:iS T G σ.env o=some (c,y)) (hc:c) :
  ∃ v w',(execOp a.eval o).run P w = .ok (.value v) w'/\In w' X G μ N a σ/\RV w' X μ v (.d y)/\Ev Mv w μ w' μ:=by
 obtain⟨dst,op,type,pos,after,guard⟩:=o;unfold iS at h;dsimp only at h;split at h
 .rename_i t x d;split at h
  .rename_i cs bR;obtain⟨z,hz,he⟩:=Option.bind_eq_some_iff.1 bR;split at h
   .rename_i ds Z6;simp only[Option.some.injEq,Prod.mk.injEq]at h;obtain⟨rfl,rfl⟩:=h;have hp:=abW (hi.eval hz) he;rw[jZ Z6]at hp;obtain⟨ax,aB⟩:=hi.iW (Mv:=Mv) (bQ.alloc w (.cells (a.eval x).cells t));refine⟨.pointer (some ⟨w.heap.size,0,none⟩),_,by simp[execOp,Instr.box,newVar,newRow],ax,.d (.ip (f:=fun j=>(a.eval x).cells.getD j undef) (B4 hi) (by simp) (fun j hj=>?_) fun j c hj=>?_),aB⟩
    .have Yv:j < (a.eval x).cells.size:=by rw[hp.size];simpa using hj
     exact B3 w _ t (by simp[Array.getD_eq_getD_getElem?,Yv])
    .have Yv:j < (a.eval x).cells.size:=by rw[hp.size];simpa using (List.getElem?_eq_some_iff.1 hj).1
     have:=(hp.at_ j _ (.d c) (Array.getElem?_eq_getElem Yv) (by rw[List.getElem?_map,hj];rfl)).data;rw[Array.getD_eq_getD_getElem?,Array.getElem?_eq_getElem Yv];exact this.ev aB
   .cases h
  .cases h
 .rename_i t len parts d;split at h
  .rename_i tt YO;split at h
   .rename_i q YQ;split at h
    .rename_i te ps bJ Y0;split at h
     .rename_i els pM;simp only[Option.some.injEq,Prod.mk.injEq]at h;obtain⟨rfl,rfl⟩:=h;obtain⟨g2,g3,g4⟩:=hc;obtain⟨hv,hr⟩:=hi.aal Y0;have hu:=hg.bX (w:=w) YO;have aK:=hg.sizeOf (w:=w) bJ;have tK:=hg.zero (w:=w) bJ
      obtain⟨gh,hf,oG,_,hl,bu,iH⟩:=ED (w:=w) (X:=X) (μ:=μ) (sz:=te.size) ps (parts.toList.map fun p=>(p.1,a.eval p.2)) 0 els ((Array.range (len * te.size)).map ((if len * te.size=0 then #[] else te.zero.cells)[· % (if len * te.size=0 then #[] else te.zero.cells).size]!)) pM hv
       (fun i p v h1 h2=>hr i p v h1 h2) (by simp[g2])
      have hn:¬ len * te.size > 2 ^ 24:=by omega
      have e0:∀ f:Nat->Value,(Array.range 0).map f = #[]:=fun f=>by apply Array.ext<;>simp
      have kR:gh.size=len * te.size:=by rw[oG];simp
      have hlen:els.length=len:=by omega
      obtain⟨ax,aB⟩:=hi.iW (Mv:=Mv) (bQ.alloc w (.cells gh q))
      have bt:(Instr.buildSlice t len (parts.map fun p=>(p.1,a.eval p.2))).run P w = .ok (.slice (some ⟨w.heap.size,0,none⟩) len len) (w.alloc (.cells gh q)):=by
       by_cases h0:len * te.size=0
       .simp only[h0,if_true,e0]at hf;simp only[Instr.buildSlice,Sem.run_bind,hu,YQ,Result.andThen_ok,aK,hn,if_false,h0,if_true,Sem.run_pure,e0];simp[hf,newRow]
       .simp only[h0,if_false]at hf;simp only[Instr.buildSlice,Sem.run_bind,hu,YQ,Result.andThen_ok,aK,hn,if_false,h0,Sem.run_pure,tK];simp[hf,newRow]
      have fL:len<=maxLen:=by
       have:len<=len * te.size:=Nat.le_mul_of_pos_right _ g3;unfold maxLen;omega
      refine⟨.slice (some ⟨w.heap.size,0,none⟩) len len,_,by simp[execOp,bt],ax,.d ?_,aB⟩;by_cases h0:len=0
      .subst h0;obtain rfl:=List.eq_nil_of_length_eq_zero hlen;exact .empty (by simp) fL
      .refine .sl (sz:=te.size) (f:=fun i j=>gh.getD (i * te.size+j) undef) (by simp) hlen (Nat.le_refl _) fL (B4 hi) bu g3 (by omega) (fun i j cz hj=>?_) fun i j el c h1 h2=>?_
       .have Yv:i * te.size+j < gh.size:=by
         rw[kR];have:(i+1) * te.size<=len * te.size:=Nat.mul_le_mul_right _ cz;rw[Nat.add_mul]at this;omega
        rw[Nat.zero_add];exact B3 w _ q (by simp[Array.getD_eq_getD_getElem?,Yv])
       .obtain⟨u,ZU,bq⟩:=iH i j el c h1 h2;rw[Nat.zero_add]at ZU;rw[Array.getD_eq_getD_getElem?,ZU];exact bq.ev aB
     .cases h
    .cases h
   .cases h
  .cases h
 .rename_i t l c d;split at h
  .rename_i tt YO;split at h
   .rename_i q YQ;split at h
    .rename_i te k1 n k2 m bJ hl bL;simp only[Option.some.injEq,Prod.mk.injEq]at h;obtain⟨rfl,rfl⟩:=h;obtain⟨h0,h1,h2,h3,hz,kU⟩:=hc;have el:a.eval l = .int k1 n:=(hi.eval hl).scalar;have ec:a.eval c = .int k2 m:=(hi.eval bL).scalar;obtain⟨hu,i0,gN,c6,ZQ,ic,_⟩:=hg q te bJ;have ht:=(hg t tt YO).1;rw[YQ]at ht;have bt:=run_make (P:=P) w t q i0 te.zero ht gN ic k1 k2 n m h0 h1 (by rw[ZQ];exact h2) h3;rw[c6]at bt;have aK:=size_madeCells te.zero.cells (m.toNat * te.size);obtain⟨ax,aB⟩:=hi.iW (Mv:=Mv) (bQ.alloc w (.cells (madeCells te.zero.cells (m.toNat * te.size)) q));refine⟨.slice (some ⟨w.heap.size,0,none⟩) n.toNat m.toNat,_,by simp[execOp,el,ec,bt],ax,.d ?_,aB⟩;by_cases hn0:n.toNat=0
     .rw[show aad te n.toNat=[] by rw[hn0];rfl,hn0];exact .empty (by simp) (by unfold maxLen;omega)
     .have lM:=qz (w:=w) (X:=XX X μ) te.zero
      have bR:te.zero.cells.size=te.size:=by rw[lM.1,kU]
      have q8:∀ i j,i < n.toNat->j < te.size->i * te.size+j < m.toNat * te.size:=fun i j cz hj=>by
       have:(i+1) * te.size<=m.toNat * te.size:=Nat.mul_le_mul_right _ (by omega);rw[Nat.add_mul]at this;omega
      refine .sl (sz:=te.size) (f:=fun i j=>(madeCells te.zero.cells (m.toNat * te.size)).getD (i * te.size+j) undef) (by simp) (by simp[aad]) (by omega) (by unfold maxLen;omega) (B4 hi) (fun el aJ=>by rw[List.eq_of_mem_replicate aJ,kU]) hz (by omega) (fun i j cz hj=>?_) fun i j el d aJ hd=>?_
      .rw[Nat.zero_add];exact B3 w _ q (by simp[Array.getD_eq_getD_getElem?,aK,q8 i j cz hj])
      .unfold aad at aJ;rw[List.getElem?_replicate]at aJ;split at aJ
       .rename_i Yv;obtain rfl:=Option.some.inj aJ
        have hj:j < te.size:=by rw[<- kU];exact (List.getElem?_eq_some_iff.1 hd).1
        have hjc:j < te.zero.cells.size:=by omega
        have hb:=q8 i j Yv hj
        have pW:(i * te.size+j) % te.size=j:=by rw[Nat.mul_comm,Nat.mul_add_mod,Nat.mod_eq_of_lt hj]
        have hv:(madeCells te.zero.cells (m.toNat * te.size)).getD (i * te.size+j) undef=te.zero.cells[j]:=by
         simp[Array.getD_eq_getD_getElem?,madeCells,hb,bR,pW];exact getElem!_pos te.zero.cells j hjc
        rw[hv];exact (lM.2 j _ d (by simp[hjc]) hd).ev aB
       .cases aJ
    .cases h
   .cases h
  .cases h
 .cases h
variable {ops:Array Oper} {db:List Nat}
def jV (P:Program) (T:Ty) (Mv:Nat->Prop) (G:Yt) (N:Fr) (db:List Nat) (i:Nat) (o:Oper) (σ af:St):Prop:=
 cZ N o/\o.guard=none/\((db.contains i=true/\∃ c y,iS T G σ.env o=some (c,y)/\c/\af=⟨aw σ.env o.dst (.d y),σ.H⟩)\/
  (db.contains i=false/\kindOf o.op≠9/\∃ x H',Ex P T Mv G o σ.env σ.H x H'/\af=⟨aw σ.env o.dst x,H'⟩))
theorem jV.ok (hg:Good P T) {o:Oper} {i:Nat} {af:St} (h:jV P T Mv G N db i o σ af) (hi:In w X G μ N a σ) (ho:ops[i]? = some o) {Q:Exit->Act->World->Prop} {K:Act->World->Prop}
  (hk:∀ w' ak a',In w' X G ak N a' af->Ev Mv w μ w' ak->K a' w'):wpOpIn (wd N.ro) 0 P ops Q i K a w:=by
 obtain⟨hd,YL,h⟩:=h
 have dt:∀ d,o.dst=some d->d < N.n:=fun d e=>by unfold cZ at hd;rw[e]at hd;exact hd
 rcases h with⟨_,c,y,h1,h2,rfl⟩ | ⟨_,h9,x,H',h1,rfl⟩
 .unfold wpOpIn;simp only[ho];rw[o9 hi (fU YL),if_pos rfl];refine x7 (fun c e=>by simp[iS,e]at h1) ?_;obtain⟨v,w',hr,ax,Zt,aB⟩:=D2 (Mv:=Mv) hg hi h1 h2;unfold Oper.wp;rw[hr];exact hk _ μ _ (ax.put Zt dt) aB
 .exact qq hg ⟨hd,.inl ⟨fU YL,h1.to⟩⟩ hi ho hk
def pq (db:List Nat) (ops:Array Oper) (i j:Nat) (oi oj:Oper):Bool:=oi.apart ops oj && (db.contains i || db.contains j || abk (kindOf oi.op) (kindOf oj.op))
theorem EJ {i j:Nat} {oi oj:Oper} (hc:pq db ops i j oi oj=true) {σ ay Y6:St} (h1:jV P T Mv G N db i oi σ ay) (h2:jV P T Mv G N db j oj ay Y6) :
  ∃ dy,jV P T Mv G N db j oj σ dy/\jV P T Mv G N db i oi dy Y6:=by
 simp only[pq,Bool.and_eq_true]at hc;obtain⟨YU,eR⟩:=hc;obtain⟨di,gi,h1⟩:=h1;obtain⟨dj,gj,h2⟩:=h2;have cC:∀ v,dz oj.op (aw σ.env oi.dst v) σ.env:=fun v t ht=>(eG YU (e:=σ.env) (v:=v)).1 t (fB ht);have cN:∀ v,dz oi.op σ.env (aw σ.env oj.dst v):=fun v t ht=>((eG YU (e:=σ.env) (v:=v)).2.1 t (fB ht)).symm;have aG:=(eG YU (e:=σ.env) (v:=bX)).2.2
 rcases h1 with⟨bi,c,y,e1,c1,rfl⟩ | ⟨bi,k1,x,H',e1,rfl⟩
 .rcases h2 with⟨bj,c',z,e2,c2,rfl⟩ | ⟨bj,k2,z,H2,e2,rfl⟩
  .rw[iy (cC _)]at e2;refine⟨⟨aw σ.env oj.dst (.d z),σ.H⟩,⟨dj,gj,.inl ⟨bj,c',z,e2,c2,rfl⟩⟩,di,gi,.inl ⟨bi,c,y,?_,c1,?_⟩⟩
   .rw[<- iy (cN _)];exact e1
   .rw[Zk aG]
  .refine⟨⟨aw σ.env oj.dst z,H2⟩,⟨dj,gj,.inr ⟨bj,k2,z,H2,e2.congr k2 (cC _),rfl⟩⟩,di,gi,.inl ⟨bi,c,y,?_,c1,?_⟩⟩
   .rw[<- iy (cN _)];exact e1
   .rw[Zk aG]
 .rcases h2 with⟨bj,c',z,e2,c2,rfl⟩ | ⟨bj,k2,z,H2,e2,rfl⟩
  .rw[iy (cC _)]at e2;refine⟨⟨aw σ.env oj.dst (.d z),σ.H⟩,⟨dj,gj,.inl ⟨bj,c',z,e2,c2,rfl⟩⟩,di,gi,.inr ⟨bi,k1,x,H',e1.congr k1 (cN _),?_⟩⟩;rw[Zk aG]
  .rw[bi,bj]at eR
   have bL:fI ops oi oj=true:=by simp only[fI,Bool.and_eq_true];exact⟨YU,by simpa using eR⟩
   obtain⟨H3,f1,f2⟩:=qM (N:=N) bL ⟨di,.inl ⟨fU gi,e1⟩⟩ ⟨dj,.inl ⟨fU gj,e2⟩⟩ k1 k2
   have un:∀ {o:Oper} {e:Env} {H H':Heap} {x:AV},o.guard=none->Sx P T Mv G N ops o e H x H'->Ex P T Mv G o e H x H':=fun YL h=>by
    rcases h.2 with⟨_,h⟩ | ⟨hw,_⟩
    .exact h
    .rw[fU YL]at hw;cases hw
   refine⟨⟨aw σ.env oj.dst z,H3⟩,⟨dj,gj,.inr ⟨bj,k2,z,H3,un gj f1,rfl⟩⟩,di,gi,.inr ⟨bi,k1,x,H2,un gi f2,?_⟩⟩;rw[Zk aG]
def rQ (P:Program) (T:Ty) (Mv:Nat->Prop) (G:Yt) (N:Fr) (db:List Nat) (ops:Array Oper):List Nat->St->St->Prop
 | [],σ,af=>σ=af
 | i :: l,σ,af=>∃ o,ops[i]? = some o/\∃ ay,jV P T Mv G N db i o σ ay/\rQ P T Mv G N db ops l ay af
theorem U3 {p:Nat} {op:Oper} (hp:ops[p]? = some op):∀ (l1:List Nat) {l2:List Nat} {σ af:St},(∀ q∈l1,∀ oq,ops[q]? = some oq->pq db ops q p oq op=true)->rQ P T Mv G N db ops (l1 ++ p :: l2) σ af->rQ P T Mv G N db ops (p :: (l1 ++ l2)) σ af:=by
 intro l1
 induction l1 with
 | nil=>intro l2 σ af _ h;exact h
 | cons q l1 ih=>
  intro l2 σ af bu h;obtain⟨oq,hq,ay,s1,rest⟩:=h;obtain⟨o',Y9,Y6,s2,nC⟩:=ih (fun q' fP=>bu q' (by simp[fP])) rest;rw[hp]at Y9;obtain rfl:=Option.some.inj Y9;obtain⟨dy,f1,f2⟩:=EJ (bu q (by simp) oq hq) s1 s2;exact⟨op,hp,dy,f1,oq,hq,Y6,f2,nC⟩
def ug (db:List Nat) (ord:List Nat) (ops:Array Oper):Bool:=
 let t:=tb ops
 ord.length == ops.size && (ord.all fun i=>decide (i < ops.size)) && ((List.range ops.size).all fun i=>ord.contains i) && decide ord.Nodup &&
 ((List.range ops.size).all fun j=>match ops[j]? with
  | some oj=>oj.after.all fun e=>!Region.binds .any e || e.on < j
  | none=>true) &&
 go t ord
where
 go (t:List Nat):List Nat->Bool
 | []=>true
 | a :: l=>(l.all fun b=>match ops[a]?,ops[b]? with
  | some oa,some ob=>(oa.after.all fun e=>!Region.binds .any e || !(e.on == b)) && ((t.getD b 0).testBit a || pq db ops a b oa ob)
  | _,_=>true) && go t l
def yg (db:List Nat) (ops:Array Oper) (a b:Nat):Prop:=∀ oa ob,ops[a]? = some oa->ops[b]? = some ob->
 (∀ e∈oa.after,Region.binds .any e=true->e.on≠b)/\(((tb ops).getD b 0).testBit a=true\/pq db ops a b oa ob=true)
theorem HN:∀ {l:List Nat},ug.go db ops (tb ops) l=true->l.Pairwise (yg db ops)
 | [],_=>.nil
 | a :: l,h=>by
  simp only[ug.go,Bool.and_eq_true]at h;refine .cons (fun b hb oa ob np nq=>?_) (HN h.2);have:=List.all_eq_true.1 h.1 b hb;simp only[np,nq,Bool.and_eq_true,Bool.or_eq_true]at this;refine⟨fun e he mX heq=>?_,this.2⟩;have h1:=Array.all_eq_true_iff_forall_mem.1 this.1 e he;simp[mX,heq]at h1
theorem Ks (hg:Good P T) (Yv:∀ j oj,ops[j]? = some oj->∀ e∈oj.after,Region.binds .any e=true->e.on < j) {Q:Exit->St->Prop} {w0:World} {eX:Mu} {aX:St} (hQ:Q .normal aX):∀ (n:Nat) (R:List Nat) (listed:Array Bool) (w:World) (μ:Mu) (a:Act) (σ:St),R.length=n->R.Nodup->
  (∀ j,j∈R↔j < ops.size/\listed.getD j true=false)->listed.size=ops.size->R.Pairwise (yg db ops)->
  (∀ j oj,ops[j]? = some oj->listed.getD j false=true->∀ e∈oj.after,Region.binds .any e=true->listed.getD e.on false=true)->rQ P T Mv G N db ops R σ aX->In w X G μ N a σ->Ev Mv w0 eX w μ->
  wpAnyIn (wd N.ro) 0 P .any ops (After Mv X G N w0 eX Q) n listed a w:=by
 intro n
 induction n with
 | zero=>
  intro R listed w μ a σ hl _ hR aK _ _ bt hi aB;have:R=[]:=List.eq_nil_of_length_eq_zero hl;subst this
  have hr:Region.ready .any ops listed=[]:=by
   apply List.eq_nil_iff_forall_not_mem.2;intro j hj;obtain⟨h1,o,ho,_⟩:=mem_ready.1 hj;exact absurd ((hR j).2 ⟨(Array.getElem?_eq_some_iff.1 ho).1,h1⟩) (by simp)
  have:σ=aX:=bt;subst this;exact⟨hr,μ,σ,hQ,hi,aB⟩
 | succ n ih=>
  intro R listed w μ a σ hl fj hR aK eL gr bt hi aB;refine⟨fun hr=>?_,fun i lD=>?_⟩
  .cases R with
   | nil=>simp at hl
   | cons j R=>
    obtain⟨gu,fY⟩:=(hR j).1 (by simp)
    have ba:ops[j]? = some ops[j]:=by simp[gu]
    have hjr:j∈Region.ready .any ops listed:=by
     refine mem_ready.2 ⟨fY,ops[j],ba,fun e he hb=>?_⟩;have abx:=Yv j ops[j] ba e he hb
     have bU:e.on < ops.size:=by omega
     have aG:e.on ∉ (j :: R):=by
      intro hm
      rcases List.mem_cons.1 hm with h | h
      .omega
      .exact ((List.pairwise_cons.1 eL).1 _ h ops[j] ops[e.on] ba (by simp[bU])).1 e he hb rfl
     have:=mt (hR e.on).2 aG
     have ZF:e.on < listed.size:=by omega
     simp only[bU,true_and,Array.getD_eq_getD_getElem?]at this ⊢;simp[ZF]at this ⊢;exact this
    rw[hr]at hjr;cases hjr
  .obtain⟨cE,oi,YI,bu⟩:=mem_ready.1 lD;have lB:i∈R:=(hR i).2 ⟨(Array.getElem?_eq_some_iff.1 YI).1,cE⟩;obtain⟨R1,R2,rfl⟩:=List.append_of_mem lB
   have lz:=U3 (P:=P) (T:=T) (Mv:=Mv) (G:=G) (N:=N) (db:=db) YI R1 (fun q hq oq hoq=>by
    have nt:yg db ops q i:=(List.pairwise_append.1 eL).2.2 q hq i (by simp)
    rcases (nt oq oi hoq YI).2 with h | h
    .exfalso;have hlq:=sc Yv gr i i oi (Nat.le_refl _) YI bu q h;have e7:=((hR q).1 (by simp[hq])).2
     have lI:q < listed.size:=by have:=(Array.getElem?_eq_some_iff.1 hoq).1;omega
     simp[Array.getD_eq_getD_getElem?,lI]at hlq e7;rw[hlq]at e7;cases e7
    .exact h) bt
   obtain⟨o',Y9,ay,hstep,bx⟩:=lz;rw[YI]at Y9;obtain rfl:=Option.some.inj Y9;refine hstep.ok hg hi YI fun w' ak a' ax aao=>?_
   have lG:(R1 ++ R2).Nodup:=by
    have:=fj;rw[List.nodup_append]at this ⊢;obtain⟨g1,g2,g3⟩:=this;exact⟨g1,(List.nodup_cons.1 g2).2,fun x hx y hy=>g3 x hx y (by simp[hy])⟩
   have lC:i ∉ R1 ++ R2:=by
    have:=fj;rw[List.nodup_append]at this;obtain⟨g1,g2,g3⟩:=this;intro hm
    rcases List.mem_append.1 hm with h | h
    .exact g3 i h i (by simp) rfl
    .exact (List.nodup_cons.1 g2).1 h
   refine ih (R1 ++ R2) _ w' ak a' ay (by simp at hl ⊢;omega) lG (fun j=>?_) (by simpa using aK) ?_ ?_ bx ax (aB.trans aao)
   .by_cases cI:j=i
    .subst cI
     have ZF:j < listed.size:=by rw[aK];exact (Array.getElem?_eq_some_iff.1 YI).1
     simp[ZF];simpa using lC
    .rw[getD_set_ne true (Ne.symm cI)];rw[<- hR j];simp[cI]
   .rw[List.pairwise_append]at eL ⊢;obtain⟨g1,g2,g3⟩:=eL;exact⟨g1,(List.pairwise_cons.1 g2).2,fun x hx y hy=>g3 x hx y (by simp[hy])⟩
   .intro j oj ba cQ e he hb;by_cases cI:j=i
    .subst cI;rw[YI]at ba;obtain rfl:=Option.some.inj ba;exact getD_set_true (bu e he hb)
    .rw[getD_set_ne false (Ne.symm cI)]at cQ;exact getD_set_true (gr j oj ba cQ e he hb)
def xQ (P:Program) (T:Ty) (Mv:Nat->Prop) (G:Yt) (N:Fr) (db:List Nat) (i:Nat) (o:Oper) (σ:St) (K:St->Prop):Prop:=cZ N o/\o.guard=none/\
 if db.contains i=true then (match iS T G σ.env o with
  | some (c,y)=>c/\K ⟨aw σ.env o.dst (.d y),σ.H⟩
  | none=>False)
 else kindOf o.op≠9/\match YK o.op with
  | some c=>aaj P G c σ.env o.dst σ.H [] [] K
  | none=>oY T G Mv o σ [] K
def nI (P:Program) (T:Ty) (Mv:Nat->Prop) (G:Yt) (N:Fr) (db:List Nat) (K:St->Prop):List (Nat×Oper)->St->Prop
 | [],σ=>K σ
 | (i,o) :: rest,σ=>xQ P T Mv G N db i o σ (nI P T Mv G N db K rest)
theorem VP {K:St->Prop}:∀ (l:List Nat) (σ:St),(∀ i∈l,i < ops.size)->nI P T Mv G N db K (YA ops l) σ->∃ aX,K aX/\rQ P T Mv G N db ops l σ aX:=by
 intro l
 induction l with
 | nil=>intro σ _ h;exact⟨σ,h,rfl⟩
 | cons i l ih=>
  intro σ hl h;have hi:=hl i (by simp)
  have ho:ops[i]? = some ops[i]:=by simp[hi]
  simp only[YA,ho]at h;generalize ops[i]=o at ho h;simp only[nI,xQ]at h;obtain⟨hd,YL,h⟩:=h
  have fin:∀ ay,jV P T Mv G N db i o σ ay->nI P T Mv G N db K (YA ops l) ay->∃ aX,K aX/\rQ P T Mv G N db ops (i :: l) σ aX:=fun ay hs h1=>by
   obtain⟨aX,hk,hr⟩:=ih ay (fun j hj=>hl j (by simp[hj])) h1;exact⟨aX,hk,o,ho,ay,hs,hr⟩
  split at h
  .rename_i hb;split at h
   .rename_i c y hw;obtain⟨hc,h⟩:=h;exact fin _ ⟨hd,YL,.inl ⟨hb,c,y,hw,hc,rfl⟩⟩ h
   .exact h.elim
  .rename_i hb
   have hb:db.contains i=false:=by simpa using hb
   obtain⟨hk,h⟩:=h;split at h
   .rename_i c hc;obtain⟨y,g,ds,ht,hp,dR,h⟩:=h;refine fin _ ⟨hd,YL,.inr ⟨hb,hk,.d y,σ.H,?_,rfl⟩⟩ h;unfold Ex;simp only[hc];exact⟨y,⟨g,_,ht,.inl ⟨ds,rfl,hp⟩⟩,rfl,trivial⟩
   .rename_i hc;unfold oY at h;split at h
    .rename_i hw;split at h
     .rename_i c x ay h1;obtain⟨bL,dR,h⟩:=h;have he:=abX hk h1;obtain⟨e,H⟩:=σ;obtain⟨e1,H1⟩:=ay;dsimp only at he;subst he;refine fin _ ⟨hd,YL,.inr ⟨hb,hk,x,H1,?_,rfl⟩⟩ h;unfold Ex;simp only[hc];rw[if_pos hw];exact⟨c,h1,bL⟩
     .exact h.elim
    .rename_i hw;split at h
     .rename_i c x h1;obtain⟨bL,dR,h⟩:=h;refine fin _ ⟨hd,YL,.inr ⟨hb,hk,x,σ.H,?_,rfl⟩⟩ h;unfold Ex;simp only[hc];rw[if_neg hw];exact⟨c,h1,bL,trivial⟩
     .exact h.elim
theorem J0 (hg:Good P T) (hm:P.follows .mixedOrders=true) (db:List Nat) (ord:List Nat) {id:Nat} (bp:ug db ord ops=true) {Q:Exit->St->Prop} {σ:St} (h:nI P T Mv G N db (fun af=>Q .normal af) (YA ops ord) σ):AW P Mv X G N (.region id ops true) Q σ:=fun w μ a hi=>by
 unfold ug at bp;simp only[Bool.and_eq_true]at bp;obtain⟨⟨⟨⟨⟨h1,h2⟩,h3⟩,h4⟩,h5⟩,h6⟩:=bp
 have hlen:ord.length=ops.size:=by simpa using h1
 have Yv:∀ i∈ord,i < ops.size:=fun i hi=>by simpa using List.all_eq_true.1 h2 i hi
 have bu:∀ i,i < ops.size->i∈ord:=fun i hi=>by simpa using List.all_eq_true.1 h3 i (List.mem_range.2 hi)
 have fj:ord.Nodup:=by simpa using h4
 have nc:∀ j oj,ops[j]? = some oj->∀ e∈oj.after,Region.binds .any e=true->e.on < j:=fun j oj ba e he hb=>by
  have:=List.all_eq_true.1 h5 j (List.mem_range.2 (Array.getElem?_eq_some_iff.1 ba).1);simp only[ba]at this;have:=Array.all_eq_true_iff_forall_mem.1 this e he;simpa[hb]using this
 obtain⟨aX,hQ,bt⟩:=VP ord σ Yv h;refine wpIn_region_any hm ?_;obtain⟨ax,aB⟩:=hi.iW (Mv:=Mv) (bQ.drew w);refine Ks hg nc hQ ops.size ord _ w.drew μ a σ hlen fj (fun j=>?_) (by simp) (HN h6) ?_ bt ax aB
 .constructor
  .intro hj;have:=Yv j hj;simp[Array.getD_eq_getD_getElem?,this]
  .intro hj;exact bu j hj.1
 .intro j oj ba cQ;have hj:=(Array.getElem?_eq_some_iff.1 ba).1;simp[Array.getD_eq_getD_getElem?,hj]at cQ
theorem JW (hg:Good P T) (hm:P.follows .mixedOrders=true) (db:List Nat) (ord:List Nat) {id:Nat} (bp:ug db ord ops=true) {Q:Exit->St->Prop} {σ:St}
  (h:∀ K:St->Prop,(∀ τ:St,Q .normal τ->K τ)->nI P T Mv G N db K (YA ops ord) σ):AW P Mv X G N (.region id ops true) Q σ:=J0 hg hm db ord bp (h _ fun _ h=>h)
theorem CO {K:St->Prop} {i:Nat} {l:List Nat} {o:Oper} (ho:ops[i]? = some o) (h:∀ K':St->Prop,(∀ τ,nI P T Mv G N db K (YA ops l) τ->K' τ)->xQ P T Mv G N db i o σ K'):nI P T Mv G N db K (YA ops (i :: l)) σ:=by
 have:YA ops (i :: l)=(i,o) :: YA ops l:=by simp[YA,ho]
 rw[this];exact h _ fun _ h=>h
theorem VO {K:St->Prop} (h:K σ):nI P T Mv G N db K (YA ops []) σ:=h
end
attribute [simp] xQ iS
end Go.Av
namespace Go.Av
def GL:Op->Bool
 | .insert _ _ _ _=>true
 | _=>false
def xx (G:Yt) (e:Env) (o:Op) (r:Nat):Prop:=match o with
 | .insert _ m _ _=>aT G e m=some (.mp r)
 | _=>False
def rY (G:Yt) (fp:List (Nat×Nat)) (e:Env) (i:Nat) (o:Op):Prop:=match fp.lookup i with
 | some r=>if GL o=true then xx G e o r else oV G e o r
 | none=>True
section
variable {P:Program} {T:Ty} {Mv X:Nat->Prop} {G:Yt} {N:Fr} {ops:Array Oper} {fp:List (Nat×Nat)} {cn:List Nat}
theorem Ex.Wf {o:Oper} {e:Env} {H H':Heap} {x:AV} {r:Nat} (ht:xx G e o.op r) (h:Ex P T Mv G o e H x H') :
  ∃ u,H'=gd H r u/\∀ H2,H2 r=H r->Ex P T Mv G o e H2 x (gd H2 r u):=by
 obtain⟨dst,op,type,pos,after,guard⟩:=o;dsimp only at ht;cases op<;>simp only[xx]at ht
 case insert t m k v=>
  unfold Ex at h;simp only[YK,dk,if_true]at h;obtain⟨c,h1,h3⟩:=h
  cases dst with
  | some d=>simp[wr]at h1
  | none=>
   simp only[wr,ht]at h1;split at h1
   .rename_i q key y hm hk hv;simp only[Option.some.injEq,AV.mp.injEq]at hm;subst hm;split at h1
    .rename_i ty ents hr;split at h1
     .rename_i c' ZO hp;simp only[Option.some.injEq,Prod.mk.injEq,St.mk.injEq,true_and]at h1;obtain⟨rfl,rfl,rfl⟩:=h1;refine⟨some (.mp ty ZO),rfl,fun H2 h2=>?_⟩;unfold Ex;simp only[YK,dk,if_true];exact⟨_,by simp only[wr,ht,hk,hv,h2,hr,hp];rfl,h3⟩
     .cases h1
    .cases h1
   .cases h1
theorem Ex.rY {o:Oper} {e:Env} {H H':Heap} {x:AV} {r i:Nat} (hr:fp.lookup i=some r) (ht:Av.rY G fp e i o.op) (h:Ex P T Mv G o e H x H') :
  ∃ u,H'=gd H r u/\∀ H2,H2 r=H r->Ex P T Mv G o e H2 x (gd H2 r u):=by
 unfold Av.rY at ht;simp only[hr]at ht;split at ht
 .exact h.Wf ht
 .exact h.uL ht
theorem Ex.call {o:Oper} {e:Env} {H H':Heap} {x:AV} (hn:YK o.op≠none) (h:Ex P T Mv G o e H x H'):H'=H:=by
 cases hc:YK o.op with
 | none=>exact absurd hc hn
 | some c=>
  unfold Ex at h;simp only[hc]at h;exact h.choose_spec.2.2
def Dn (P:Program) (T:Ty) (Mv:Nat->Prop) (G:Yt) (N:Fr) (ops:Array Oper) (fp:List (Nat×Nat)) (cn:List Nat) (cl:List (Nat×AV)) (i:Nat) (o:Oper) (σ af:St):Prop:=
 kindOf o.op≠9/\(∃ x H',Sx P T Mv G N ops o σ.env σ.H x H'/\af=⟨aw σ.env o.dst x,H'⟩/\(YK o.op≠none->fc ops σ.env o=some true->cl.lookup i=some x)/\(cn.contains i=true->fc ops σ.env o=some true->YK o.op≠none/\∀ H2,Ex P T Mv G o σ.env H2 x H2))/\(fc ops σ.env o=some true->rY G fp σ.env i o.op)
theorem Dn.to {cl:List (Nat×AV)} {i:Nat} {o:Oper} {σ af:St} (h:Dn P T Mv G N ops fp cn cl i o σ af):qp P T Mv G N ops o σ af:=by
 obtain⟨hk,⟨x,H',hs,e,_,_⟩,_⟩:=h;exact (nD hk).2 ⟨x,H',hs,e⟩
variable {cl:List (Nat×AV)}
def yN (P:Program) (G:Yt) (cl:List (Nat×AV)) (i:Nat) (c:Call) (σ:St) (dst:Option Tmp) (next:St->Prop):Prop:=∃ y,cl.lookup i=some (.d y)/\(∀ H2,sg P G ⟨σ.env,H2⟩ c y)/\next ⟨aw σ.env dst (.d y),σ.H⟩
theorem yN.data {i:Nat} {c:Call} {σ:St} {g:FuncId} {xs:List AV} {ds dh:List D} {y:D} {dst:Option Tmp} {next:St->Prop} (hc:ao P G g ds y) (bO:cl.lookup i=some (.d y)) (ht:ZC G σ.env c=some (g,xs)) (hx:ZM xs=some dh) (hle:D.le.go dh ds) (h:next ⟨aw σ.env dst (.d y),σ.H⟩):yN P G cl i c σ dst next:=
 ⟨y,bO,fun _=>⟨g,xs,ht,.inl ⟨dh,jZ hx,hc.lR hle⟩⟩,h⟩
def Jk (P:Program) (T:Ty) (Mv:Nat->Prop) (G:Yt) (N:Fr) (ops:Array Oper) (fp:List (Nat×Nat)) (cn:List Nat) (cl:List (Nat×AV)) (i:Nat) (o:Oper) (σ:St) (K:St->Prop):Prop:=cZ N o/\kindOf o.op≠9/\match fc ops σ.env o with
 | some b=>if b=true then rY G fp σ.env i o.op/\(match YK o.op with
  | some c=>yN P G cl i c σ o.dst K
  | none=>cn.contains i=false/\aaK T G Mv o σ K) else K ⟨aw σ.env o.dst bX,σ.H⟩
 | none=>False
theorem ab1 (κ:Value) (p:Value×D) (l:List (Value×D)):hU κ (p :: l)=if dT κ p.1=true then some p.2 else hU κ l:=by
 unfold hU;rw[List.find?_cons];cases h:dT κ p.1<;>rfl
theorem Eg {d:TypeDesc} {κ k:Value} {x:D} (Bs:eE d κ=true) (hk:eE d k=true):∀ (l:List (Value×D)),(∀ p∈l,eE d p.1=true)->hU κ (jv k x l)=if dT κ k=true then some x else hU κ l
 | [],_=>ab1 κ (k,x) []
 | p :: l,hp=>by
  have pY:=hp p (by simp);have ih:=Eg Bs hk (x:=x) l fun q hq=>hp q (by simp[hq])
  have e:jv k x (p :: l)=if dT k p.1 then (k,x) :: l else p :: jv k x l:=by
   unfold jv;rw[List.findIdx?_cons]
   cases h:dT k p.1 with
   | true=>simp
   | false=>
    simp only[Bool.false_eq_true,if_false];cases List.findIdx? (fun p=>dT k p.1) l<;>simp
  rw[e];by_cases h:dT k p.1=true
  .rw[if_pos h];have fz:=tQ hk pY h;rw[ab1,ab1,fz];dsimp only;split<;>rfl
  .rw[if_neg h,ab1,ab1,ih];by_cases h3:dT κ p.1=true
   .have:¬ dT κ k=true:=fun h2=>by
     have e1:=tQ Bs pY h3;have e2:=tQ Bs hk h2;rw[e2]at h;exact h h3
    rw[if_neg this,if_pos h3,if_neg this]
   .rw[if_neg h3,if_neg h3]
attribute [simp] Jk rY GL xx
end
end Go.Av
namespace Go.Av
def Kf (P:Program) (t:TypeId) (name:String) (g:FuncId):Prop:=∀ (v:Value) (w:World),(invoke (.fn (.method name) #[]) #[.iface t v]).run P w = .ok (.enter g #[v]) w
def GK:Op->Option (Operand×String)
 | .call { callee:=.invoke r name,args:=az,argTypes:=_ }=>if az.isEmpty then some (r,name) else none
 | _=>none
def iN (P:Program) (T:Ty) (Mv X:Nat->Prop) (G:Yt) (N:Fr) (ops:Array Oper) (o:Oper) (σ:St) (K:St->Prop):Prop:=cZ N o/\match fc ops σ.env o with
 | some b=>if b=true then (match GK o.op with
  | some (r,name)=>∃ t x g,aT G σ.env r=some (.d (.bg t x))/\Kf P t name g/\YR P Mv X G N g [.d x] σ o.dst K
  | none=>Z3 P T Mv X G N o σ K) else K ⟨aw σ.env o.dst bX,σ.H⟩
 | none=>False
section
variable {P:Program} {T:Ty} {Mv X:Nat->Prop} {G:Yt} {N:Fr} {w:World} {μ:Mu} {a:Act} {σ:St}
attribute [simp] iN GK Z3
end
