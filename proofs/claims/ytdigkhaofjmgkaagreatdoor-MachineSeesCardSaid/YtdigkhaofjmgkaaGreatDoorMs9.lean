/- Parts. -/
import Derived.Test.YtdigkhaofjmgkaaGreatDoorMs8
set_option linter.unusedSectionVars false
set_option linter.unusedSimpArgs false
set_option linter.unusedVariables false
namespace Go.Av
theorem Aq {p q:Prop} (h:p) (k:q):p/\q:=⟨h,k⟩
section
variable {P:Program} {Mv X:Nat->Prop} {G:ao} {N:Fr} {σ τ fz:St} {p:Prop}
theorem aq (l ns:List Nat) {id:Nat} {ops:Array Oper} {y:Code} {Q:Exit->St->Prop} (k:AW P Mv X G N y Q fz)
  (hM:∀ r,ns.contains r=false->Mv r:=by first | exact fun _ _=>trivial | exact cK rfl)
  (h:∀ K':St->Prop,K' τ->sxf P (aaQ P) Mv X G N ops K' ops.toList σ:=by
   intro K' af;repeat (refine sxn fun K2 aa=>?_;simp;(repeat (refine⟨by omega,?_⟩));refine aa _ ?_;clear aa K2)
   exact sxz af)
  (hn:τ.norm l ns=fz:=by simp;rfl):AW P Mv X G N (.seq (.region id ops false) y) Q σ:=
 rg l ns hM fun K hK=>h K (hK _ (hn ▸ k))
theorem rgq (q:p) (l ns:List Nat) {id:Nat} {ops:Array Oper} {y:Code} {Q:Exit->St->Prop} (k:AW P Mv X G N y Q fz)
  (hM:∀ r,ns.contains r=false->Mv r:=by first | exact fun _ _=>trivial | exact cK rfl)
  (h:p->∀ K':St->Prop,K' τ->sxf P (aaQ P) Mv X G N ops K' ops.toList σ:=by
   intro q K' af;repeat (refine sxn fun K2 aa=>?_;simp[q];(repeat (refine⟨by omega,?_⟩));refine aa _ ?_;clear aa K2)
   exact sxz af)
  (hn:p->τ.norm l ns=fz:=by intro q;simp[q];rfl):AW P Mv X G N (.seq (.region id ops false) y) Q σ:=
 rg l ns hM fun K hK=>h q K (hK _ (hn q ▸ k))
theorem aR (q:p) {g:FuncId} {ds:List D} {yd:D} (hc:ar P G g ds yd) (l ns:List Nat) {id:Nat} {ops:Array Oper} {y:Code} {Q:Exit->St->Prop} (k:AW P Mv X G N y Q fz)
  (hM:∀ r,ns.contains r=false->Mv r:=by first | exact fun _ _=>trivial | exact cK rfl)
  (h:p->ar P G g ds yd->∀ K':St->Prop,K' τ->sxf P (aaQ P) Mv X G N ops K' ops.toList σ:=by
   intro q hc K' af;(repeat (refine sxn fun K2 aa=>?_;simp[q];(repeat (refine⟨by omega,?_⟩));refine aa _ ?_;clear aa K2));refine sxn fun K2 aa=>?_;simp[q];refine aaT.data hc (by simp;rfl) (by first | exact D.aaE _ | simp[aaA,List.map_map,Function.comp_def,D.le,D.le.go,D.le_refl,D.aaE,q]) ?_;refine aa _ ?_;clear aa K2;simp only[aD,cu];repeat (refine sxn fun K2 aa=>?_;simp[q];(repeat (refine⟨by omega,?_⟩));refine aa _ ?_;clear aa K2)
   exact sxz af)
  (hn:p->τ.norm l ns=fz:=by intro q;simp[q];rfl):AW P Mv X G N (.seq (.region id ops false) y) Q σ:=
 rg l ns hM fun K hK=>h q hc K (hK _ (hn q ▸ k))
theorem rgm (q:p) {fx:List Nat} {g:FuncId} {xs:List AV} {aaO ek:List (Nat×Row)} {yv:AV} (hc:MC P G fx g xs (ak aaO) yv (ak ek)) (l ns:List Nat) {id:Nat} {ops:Array Oper} {y:Code} {Q:Exit->St->Prop} (k:AW P Mv X G N y Q fz)
  (hM:∀ r,ns.contains r=false->Mv r:=by first | exact fun _ _=>trivial | exact cK rfl)
  (h:p->MC P G fx g xs (ak aaO) yv (ak ek)->∀ K':St->Prop,K' τ->sxf P (aaQ P) Mv X G N ops K' ops.toList σ:=by
   intro q hc K' af;(repeat (refine sxn fun K2 aa=>?_;simp[q];(repeat (refine⟨by omega,?_⟩));refine aa _ ?_;clear aa K2));refine sxn fun K2 aa=>?_;simp[q];refine aaT.mc hc (by simp[q]) (by simp[q]) (by simp[q]) (by simp[q]) ?_;simp[q];refine aa _ ?_;clear aa K2;repeat (refine sxn fun K2 aa=>?_;simp[q];(repeat (refine⟨by omega,?_⟩));refine aa _ ?_;clear aa K2)
   exact sxz af)
  (hn:p->τ.norm l ns=fz:=by intro q;simp[q];rfl):AW P Mv X G N (.seq (.region id ops false) y) Q σ:=
 rg l ns hM fun K hK=>h q hc K (hK _ (hn q ▸ k))
theorem zX (q:p) (l ns:List Nat) {id:Nat} {ops:Array Oper} {y:Code} {Q:Exit->St->Prop} (k:AW P Mv X G N y Q fz)
  (hm:P.follows .mixedOrders=true:=by kernel_rfl) (bJ:adq ops=true:=by kernel_rfl)
  (hM:∀ r,ns.contains r=false->Mv r:=by first | exact fun _ _=>trivial | exact cK rfl)
  (h:p->∀ K':St->Prop,K' τ->kX P (aaQ P) Mv G N ops K' ops.toList σ:=by
   intro q K' af;repeat (refine cH fun K2 aa=>?_;simp[q];(repeat (refine⟨by omega,?_⟩));refine aa _ ?_;clear aa K2)
   exact jh af)
  (hn:p->τ.norm l ns=fz:=by intro q;simp[q];rfl):AW P Mv X G N (.seq (.region id ops true) y) Q σ:=
 l6 (aay _) hm l ns hM bJ fun K hK=>h q K (hK _ (hn q ▸ k))
theorem Wh (q:p) {g:FuncId} {ds:List D} {yd:D} (hc:ar P G g ds yd) (l ns:List Nat) {id:Nat} {ops:Array Oper} {y:Code} {Q:Exit->St->Prop} (k:AW P Mv X G N y Q fz)
  (hm:P.follows .mixedOrders=true:=by kernel_rfl) (bJ:adq ops=true:=by kernel_rfl)
  (hM:∀ r,ns.contains r=false->Mv r:=by first | exact fun _ _=>trivial | exact cK rfl)
  (h:p->ar P G g ds yd->∀ K':St->Prop,K' τ->kX P (aaQ P) Mv G N ops K' ops.toList σ:=by
   intro q hc K' af;(repeat (refine cH fun K2 aa=>?_;simp[q];(repeat (refine⟨by omega,?_⟩));refine aa _ ?_;clear aa K2));refine cH fun K2 aa=>?_;simp[q];refine gp.data hc (by simp;rfl) (by simp;rfl) (by first | exact D.aaE _ | simp[aaA,List.map_map,Function.comp_def,D.le,D.le.go,D.le_refl,D.aaE,q]) ?_;refine aa _ ?_;clear aa K2;simp only[aD,cu];repeat (refine cH fun K2 aa=>?_;simp[q];(repeat (refine⟨by omega,?_⟩));refine aa _ ?_;clear aa K2)
   exact jh af)
  (hn:p->τ.norm l ns=fz:=by intro q;simp[q];rfl):AW P Mv X G N (.seq (.region id ops true) y) Q σ:=
 l6 (aay _) hm l ns hM bJ fun K hK=>h q hc K (hK _ (hn q ▸ k))
theorem reK (q:p) {K0:St->Prop} {y:Code} {Q Q2:Exit->St->Prop} (hk:∀ aw,AW P Mv X G N y Q2 aw->K0 aw) (l ns:List Nat) {id:Nat} {ops:Array Oper} (k:AW P Mv X G N y Q2 fz)
  (hq:∀ τ,K0 τ->Q .normal τ:=by exact fun _ h=>h)
  (hM:∀ r,ns.contains r=false->Mv r:=by first | exact fun _ _=>trivial | exact cK rfl)
  (h:p->∀ K':St->Prop,K' τ->sxf P (aaQ P) Mv X G N ops K' ops.toList σ:=by
   intro q K' af;repeat (refine sxn fun K2 aa=>?_;simp[q];(repeat (refine⟨by omega,?_⟩));refine aa _ ?_;clear aa K2)
   exact sxz af)
  (hn:p->τ.norm l ns=fz:=by intro q;simp[q];rfl):AW P Mv X G N (.region id ops false) Q σ:=
 abl (aay _) fun K hK=>h q K (hK _ (hq _ (hk _ (AW.norm l ns hM (hn q ▸ k)))))
theorem al (l ns:List Nat) {id:Nat} {ops:Array Oper} {y:Code} {Q:Exit->St->Prop} (k:AW P Mv X G N y Q fz)
  (hM:∀ r,ns.contains r=false->Mv r:=by first | exact fun _ _=>trivial | exact cK rfl)
  (h:∀ K':St->Prop,K' τ->sxf P (aaQ P) Mv X G N ops K' ops.toList σ:=by
   intro K' af;repeat (refine sxn fun K2 aa=>?_;simp[qf];(repeat (refine⟨by omega,?_⟩));refine aa _ ?_;clear aa K2)
   exact sxz af)
  (hn:τ.norm l ns=fz:=by simp[qf];rfl):AW P Mv X G N (.seq (.region id ops false) y) Q σ:=
 rg l ns hM fun K hK=>h K (hK _ (hn ▸ k))
theorem dv {g:FuncId} {ds:List D} {yd:D} (hc:ar P G g ds yd) (l ns:List Nat) {id:Nat} {ops:Array Oper} {y:Code} {Q:Exit->St->Prop} (k:AW P Mv X G N y Q fz)
  (hM:∀ r,ns.contains r=false->Mv r:=by first | exact fun _ _=>trivial | exact cK rfl)
  (h:ar P G g ds yd->∀ K':St->Prop,K' τ->sxf P (aaQ P) Mv X G N ops K' ops.toList σ:=by
   intro hc K' af;(repeat (refine sxn fun K2 aa=>?_;simp[qf];(repeat (refine⟨by omega,?_⟩));refine aa _ ?_;clear aa K2));refine sxn fun K2 aa=>?_;simp[qf];refine aaT.data hc (by simp;rfl) (by first | exact D.aaE _ | simp[aaA,List.map_map,Function.comp_def,D.le,D.le.go,D.le_refl,D.aaE,qf]) ?_;refine aa _ ?_;clear aa K2;simp only[aD,cu];repeat (refine sxn fun K2 aa=>?_;simp[qf];(repeat (refine⟨by omega,?_⟩));refine aa _ ?_;clear aa K2)
   exact sxz af)
  (hn:τ.norm l ns=fz:=by simp[qf];rfl):AW P Mv X G N (.seq (.region id ops false) y) Q σ:=
 rg l ns hM fun K hK=>h hc K (hK _ (hn ▸ k))
theorem ab6 {fx:List Nat} {g:FuncId} {xs:List AV} {aaO ek:List (Nat×Row)} {yv:AV} (hc:MC P G fx g xs (ak aaO) yv (ak ek)) (l ns:List Nat) {id:Nat} {ops:Array Oper} {y:Code} {Q:Exit->St->Prop} (k:AW P Mv X G N y Q fz)
  (hM:∀ r,ns.contains r=false->Mv r:=by first | exact fun _ _=>trivial | exact cK rfl)
  (h:MC P G fx g xs (ak aaO) yv (ak ek)->∀ K':St->Prop,K' τ->sxf P (aaQ P) Mv X G N ops K' ops.toList σ:=by
   intro hc K' af;(repeat (refine sxn fun K2 aa=>?_;simp[qf];(repeat (refine⟨by omega,?_⟩));refine aa _ ?_;clear aa K2));refine sxn fun K2 aa=>?_;simp[qf];refine aaT.mc hc (by simp[qf]) (by simp[qf]) (by simp[qf]) (by simp[qf]) ?_;simp[qf];refine aa _ ?_;clear aa K2;repeat (refine sxn fun K2 aa=>?_;simp[qf];(repeat (refine⟨by omega,?_⟩));refine aa _ ?_;clear aa K2)
   exact sxz af)
  (hn:τ.norm l ns=fz:=by simp[qf];rfl):AW P Mv X G N (.seq (.region id ops false) y) Q σ:=
 rg l ns hM fun K hK=>h hc K (hK _ (hn ▸ k))
theorem fv (l ns:List Nat) {id:Nat} {ops:Array Oper} {y:Code} {Q:Exit->St->Prop} (k:AW P Mv X G N y Q fz)
  (hm:P.follows .mixedOrders=true:=by kernel_rfl) (bJ:adq ops=true:=by kernel_rfl)
  (hM:∀ r,ns.contains r=false->Mv r:=by first | exact fun _ _=>trivial | exact cK rfl)
  (h:∀ K':St->Prop,K' τ->kX P (aaQ P) Mv G N ops K' ops.toList σ:=by
   intro K' af;repeat (refine cH fun K2 aa=>?_;simp[qf];(repeat (refine⟨by omega,?_⟩));refine aa _ ?_;clear aa K2)
   exact jh af)
  (hn:τ.norm l ns=fz:=by simp[qf];rfl):AW P Mv X G N (.seq (.region id ops true) y) Q σ:=
 l6 (aay _) hm l ns hM bJ fun K hK=>h K (hK _ (hn ▸ k))
theorem uN {g:FuncId} {ds:List D} {yd:D} (hc:ar P G g ds yd) (l ns:List Nat) {id:Nat} {ops:Array Oper} {y:Code} {Q:Exit->St->Prop} (k:AW P Mv X G N y Q fz)
  (hm:P.follows .mixedOrders=true:=by kernel_rfl) (bJ:adq ops=true:=by kernel_rfl)
  (hM:∀ r,ns.contains r=false->Mv r:=by first | exact fun _ _=>trivial | exact cK rfl)
  (h:ar P G g ds yd->∀ K':St->Prop,K' τ->kX P (aaQ P) Mv G N ops K' ops.toList σ:=by
   intro hc K' af;(repeat (refine cH fun K2 aa=>?_;simp[qf];(repeat (refine⟨by omega,?_⟩));refine aa _ ?_;clear aa K2));refine cH fun K2 aa=>?_;simp[qf];refine gp.data hc (by simp;rfl) (by simp;rfl) (by first | exact D.aaE _ | simp[aaA,List.map_map,Function.comp_def,D.le,D.le.go,D.le_refl,D.aaE,qf]) ?_;refine aa _ ?_;clear aa K2;simp only[aD,cu];repeat (refine cH fun K2 aa=>?_;simp[qf];(repeat (refine⟨by omega,?_⟩));refine aa _ ?_;clear aa K2)
   exact jh af)
  (hn:τ.norm l ns=fz:=by simp[qf];rfl):AW P Mv X G N (.seq (.region id ops true) y) Q σ:=
 l6 (aay _) hm l ns hM bJ fun K hK=>h hc K (hK _ (hn ▸ k))
theorem cT {K0:St->Prop} {y:Code} {Q Q2:Exit->St->Prop} (hk:∀ aw,AW P Mv X G N y Q2 aw->K0 aw) (l ns:List Nat) {id:Nat} {ops:Array Oper} (k:AW P Mv X G N y Q2 fz)
  (hq:∀ τ,K0 τ->Q .normal τ:=by exact fun _ h=>h)
  (hM:∀ r,ns.contains r=false->Mv r:=by first | exact fun _ _=>trivial | exact cK rfl)
  (h:∀ K':St->Prop,K' τ->sxf P (aaQ P) Mv X G N ops K' ops.toList σ:=by
   intro K' af;repeat (refine sxn fun K2 aa=>?_;simp[qf];(repeat (refine⟨by omega,?_⟩));refine aa _ ?_;clear aa K2)
   exact sxz af)
  (hn:τ.norm l ns=fz:=by simp[qf];rfl):AW P Mv X G N (.region id ops false) Q σ:=
 abl (aay _) fun K hK=>h K (hK _ (hq _ (hk _ (AW.norm l ns hM (hn ▸ k)))))
end
end Go.Av
namespace Go.Av
section
variable {P:Program} {Mv X:Nat->Prop} {G:ao} {N:Fr} {σ τ:St} {p:Prop}
theorem cG {id:Nat} {ops:Array Oper} {Q:Exit->St->Prop} (k:Q .normal τ)
  (h:∀ K':St->Prop,K' τ->sxf P (aaQ P) Mv X G N ops K' ops.toList σ:=by
   intro K' af;repeat (refine sxn fun K2 aa=>?_;simp;(repeat (refine⟨by omega,?_⟩));refine aa _ ?_;clear aa K2)
   exact sxz af):AW P Mv X G N (.region id ops false) Q σ:=
 abl (aay _) fun K hK=>h K (hK _ k)
theorem bO (q:p) {id:Nat} {ops:Array Oper} {Q:Exit->St->Prop} (k:Q .normal τ)
  (h:p->∀ K':St->Prop,K' τ->sxf P (aaQ P) Mv X G N ops K' ops.toList σ:=by
   intro q K' af;repeat (refine sxn fun K2 aa=>?_;simp[q];(repeat (refine⟨by omega,?_⟩));refine aa _ ?_;clear aa K2)
   exact sxz af):AW P Mv X G N (.region id ops false) Q σ:=
 abl (aay _) fun K hK=>h q K (hK _ k)
theorem xm {id:Nat} {ops:Array Oper} {Q:Exit->St->Prop} (k:Q .normal τ)
  (h:∀ K':St->Prop,K' τ->sxf P (aaQ P) Mv X G N ops K' ops.toList σ:=by
   intro K' af;repeat (refine sxn fun K2 aa=>?_;simp[qf];(repeat (refine⟨by omega,?_⟩));refine aa _ ?_;clear aa K2)
   exact sxz af):AW P Mv X G N (.region id ops false) Q σ:=
 abl (aay _) fun K hK=>h K (hK _ k)
theorem dV (r:Nat) {c:Code} {Q:Exit->St->Prop} (k:AW P Mv X G N c Q τ) (hM:Mv r:=by first | trivial | decide) (hn:σ.nH r=τ:=by simp;rfl):AW P Mv X G N c Q σ:=
 AW.imp (aB.nH r hM) (hn ▸ k)
theorem aa1 (q:p) (r:Nat) {c:Code} {Q:Exit->St->Prop} (k:AW P Mv X G N c Q τ) (hM:Mv r:=by first | trivial | decide) (hn:p->σ.nH r=τ:=by intro q;simp[q];rfl):AW P Mv X G N c Q σ:=
 AW.imp (aB.nH r hM) (hn q ▸ k)
theorem gG {Q:Exit->St->Prop} (h:Q .ret σ:=by simp[D.le,D.le.go,aaA,D.le_refl,D.aaE]):AW P Mv X G N .ret Q σ:=bn h
theorem aG (q:p) {Q:Exit->St->Prop} (h:p->Q .ret σ:=by intro q;simp[D.le,D.le.go,aaA,D.le_refl,D.aaE,q]):AW P Mv X G N .ret Q σ:=bn (h q)
theorem aa2 {e:Env} {H:Heap} {l:List (Nat×AV)} {rows:List (Nat×Row)} (hm:∀ r,(rows.map (·.1)).contains r=false->Mv r:=by first | exact fun _ _=>trivial | exact cK rfl)
  (he:∀ p∈l,(e p.1).map (AV.tr (dD (rows.map (·.1))) (abk (rows.map (·.1))))=some p.2:=by simp)
  (hH:∀ p∈rows,(H p.1).map (Row.tr (dD (rows.map (·.1))) (abk (rows.map (·.1))))=ak rows p.1:=by simp):aB Mv X G N ⟨e,H⟩ ⟨lst l,ak rows⟩:=aB.dK hm he hH
theorem aX (q:p) {e:Env} {H:Heap} {l:List (Nat×AV)} {rows:List (Nat×Row)} (hm:∀ r,(rows.map (·.1)).contains r=false->Mv r:=by first | exact fun _ _=>trivial | exact cK rfl)
  (he:p->∀ p∈l,(e p.1).map (AV.tr (dD (rows.map (·.1))) (abk (rows.map (·.1))))=some p.2:=by intro q;simp[q])
  (hH:p->∀ p∈rows,(H p.1).map (Row.tr (dD (rows.map (·.1))) (abk (rows.map (·.1))))=ak rows p.1:=by intro q;simp[q]):aB Mv X G N ⟨e,H⟩ ⟨lst l,ak rows⟩:=aB.dK hm (he q) (hH q)
end
end Go.Av
namespace Go.Av
def ky (T:Ty) (G:ao) (e:Env) (o:Oper):Option (Prop×D):=match o.op,o.dst with
 | .box _ x,some _=>match (bf G e x).bind gl with
  | some cs=>match iI cs with
   | some ds=>some (True,.ip ds)
   | none=>none
  | none=>none
 | .buildSlice t len parts,some _=>match T t with
  | some tt=>match tt.desc with
   | .slice q=>match T q,jG G e parts.toList with
    | some te,some ps=>match ad0 te.size 0 ps with
     | some els=>some (ps.length=len/\0 < te.size/\len * te.size<=16777216,.sl none els)
     | none=>none
    | _,_=>none
   | _=>none
  | none=>none
 | .makeSlice t l c,some _=>match T t with
  | some tt=>match tt.desc with
   | .slice q=>match T q,bf G e l,bf G e c with
    | some te,some (.d (.v (.int _ n))),some (.d (.v (.int _ m)))=>some (0<=n/\n<=m/\te.bytes * m<=281474976710656/\m<=9223372036854775807/\0 < te.size/\(ab9 te.zero).length=te.size,.sl none (mz te n.toNat))
    | _,_,_=>none
   | _=>none
  | none=>none
 | _,_=>none
section
variable {P:Program} {T:Ty} {Mv X:Nat->Prop} {G:ao} {N:Fr} {w:World} {μ:Mu} {a:Act} {σ:St}
theorem j5 {o:Oper} {e e':Env} (h:fA o.op e e'):ky T G e o=ky T G e' o:=by
 obtain⟨dst,op,type,pos,after,guard⟩:=o;unfold fA at h;dsimp only at h;unfold ky
 cases op<;>try rfl
 case box t x=>
  cases dst with
  | none=>rfl
  | some d=>
   dsimp only;rw[abj (x:=x) fun t ht=>h t (by simp[Op.operands,ht])]
 case buildSlice t n ps=>
  cases dst with
  | none=>rfl
  | some d=>
   dsimp only;rw[yf (l:=ps.toList) fun t ht=>h t (by simpa[Op.operands]using ht)]
 case makeSlice t x y=>
  cases dst with
  | none=>rfl
  | some d=>
   dsimp only;rw[abj (x:=x) fun t ht=>h t (by simp[Op.operands,ht]),abj (x:=y) fun t ht=>h t (by simp[Op.operands,ht])]
theorem DU (hi:In w X G μ N a σ):¬ XX X μ w.heap.size:=by
 rintro (h | h)
 .exact Nat.lt_irrefl _ (hi.aY.fits _ h)
 .exact Nat.lt_irrefl _ (hi.aY.jj h)
theorem DT (w:World) (cur:Array Value) (t:TypeId) {o:Nat} {v:Value} (h:cur[o]? = some v):(w.alloc (.cells cur t)).cell? ⟨w.heap.size,o,none⟩=some v:=by
 rw[cell_of_row _ w.heap.size o cur t (0,0) (by simpa using heap_alloc_new w (.cells cur t))];exact h
theorem Ga (hg:Good P T) (hi:In w X G μ N a σ) {o:Oper} {c:Prop} {y:D} (h:ky T G σ.env o=some (c,y)) (hc:c) :
  ∃ v w',(execOp a.eval o).run P w = .ok (.value v) w'/\In w' X G μ N a σ/\RV w' X μ v (.d y)/\Ev Mv w μ w' μ:=by
 obtain⟨dst,op,type,pos,after,guard⟩:=o;unfold ky at h;dsimp only at h;split at h
 .rename_i t x d;split at h
  .rename_i cs hcs;obtain⟨z,hz,he⟩:=Option.bind_eq_some_iff.1 hcs;split at h
   .rename_i ds jo;simp only[Option.some.injEq,Prod.mk.injEq]at h;obtain⟨rfl,rfl⟩:=h;have hp:=aeN (hi.eval hz) he;rw[lF jo]at hp;obtain⟨aF,aJ⟩:=hi.j7 (Mv:=Mv) (bY.alloc w (.cells (a.eval x).cells t));refine⟨.pointer (some ⟨w.heap.size,0,none⟩),_,by simp[execOp,Instr.box,newVar,newRow],aF,.d (.ip (f:=fun j=>(a.eval x).cells.getD j undef) (DU hi) (by simp) (fun j hj=>?_) fun j c hj=>?_),aJ⟩
    .have ay:j < (a.eval x).cells.size:=by rw[hp.size];simpa using hj
     exact DT w _ t (by simp[Array.getD_eq_getD_getElem?,ay])
    .have ay:j < (a.eval x).cells.size:=by rw[hp.size];simpa using (List.getElem?_eq_some_iff.1 hj).1
     have:=(hp.at_ j _ (.d c) (Array.getElem?_eq_getElem ay) (by rw[List.getElem?_map,hj];rfl)).data;rw[Array.getD_eq_getD_getElem?,Array.getElem?_eq_getElem ay];exact this.ev aJ
   .cases h
  .cases h
 .rename_i t len parts d;split at h
  .rename_i tt cJ;split at h
   .rename_i q cN;split at h
    .rename_i te ps cg dB;split at h
     .rename_i els rG;simp only[Option.some.injEq,Prod.mk.injEq]at h;obtain⟨rfl,rfl⟩:=h;obtain⟨g2,g3,g4⟩:=hc;obtain⟨hv,hr⟩:=hi.jG dB;have hu:=hg.cC (w:=w) cJ;have aK:=hg.sizeOf (w:=w) cg;have wO:=hg.zero (w:=w) cg
      obtain⟨acD,hf,qn,_,hl,bB,jv⟩:=Gv (w:=w) (X:=X) (μ:=μ) (sz:=te.size) ps (parts.toList.map fun p=>(p.1,a.eval p.2)) 0 els ((Array.range (len * te.size)).map ((if len * te.size=0 then #[] else te.zero.cells)[· % (if len * te.size=0 then #[] else te.zero.cells).size]!)) rG hv
       (fun i p v h1 h2=>hr i p v h1 h2) (by simp[g2])
      have hn:¬ len * te.size > 2 ^ 24:=by omega
      have e0:∀ f:Nat->Value,(Array.range 0).map f = #[]:=fun f=>by apply Array.ext<;>simp
      have nT:acD.size=len * te.size:=by rw[qn];simp
      have hlen:els.length=len:=by omega
      obtain⟨aF,aJ⟩:=hi.j7 (Mv:=Mv) (bY.alloc w (.cells acD q))
      have bR:(Instr.buildSlice t len (parts.map fun p=>(p.1,a.eval p.2))).run P w = .ok (.slice (some ⟨w.heap.size,0,none⟩) len len) (w.alloc (.cells acD q)):=by
       by_cases h0:len * te.size=0
       .simp only[h0,if_true,e0]at hf;simp only[Instr.buildSlice,Sem.run_bind,hu,cN,Result.andThen_ok,aK,hn,if_false,h0,if_true,Sem.run_pure,e0];simp[hf,newRow]
       .simp only[h0,if_false]at hf;simp only[Instr.buildSlice,Sem.run_bind,hu,cN,Result.andThen_ok,aK,hn,if_false,h0,Sem.run_pure,wO];simp[hf,newRow]
      have acN:len<=maxLen:=by
       have:len<=len * te.size:=Nat.le_mul_of_pos_right _ g3;unfold maxLen;omega
      refine⟨.slice (some ⟨w.heap.size,0,none⟩) len len,_,by simp[execOp,bR],aF,.d ?_,aJ⟩;by_cases h0:len=0
      .subst h0;obtain rfl:=List.eq_nil_of_length_eq_zero hlen;exact .empty (by simp) acN
      .refine .sl (sz:=te.size) (f:=fun i j=>acD.getD (i * te.size+j) undef) (by simp) hlen (Nat.le_refl _) acN (DU hi) bB g3 (by omega) (fun i j hi' hj=>?_) fun i j el c h1 h2=>?_
       .have ay:i * te.size+j < acD.size:=by
         rw[nT];have:(i+1) * te.size<=len * te.size:=Nat.mul_le_mul_right _ hi';rw[Nat.add_mul]at this;omega
        rw[Nat.zero_add];exact DT w _ q (by simp[Array.getD_eq_getD_getElem?,ay])
       .obtain⟨u,kN,bC⟩:=jv i j el c h1 h2;rw[Nat.zero_add]at kN;rw[Array.getD_eq_getD_getElem?,kN];exact bC.ev aJ
     .cases h
    .cases h
   .cases h
  .cases h
 .rename_i t l c d;split at h
  .rename_i tt cJ;split at h
   .rename_i q cN;split at h
    .rename_i te k1 n k2 m cg hl bW;simp only[Option.some.injEq,Prod.mk.injEq]at h;obtain⟨rfl,rfl⟩:=h;obtain⟨h0,h1,h2,h3,hz,pn⟩:=hc;have el:a.eval l = .int k1 n:=(hi.eval hl).scalar;have ec:a.eval c = .int k2 m:=(hi.eval bW).scalar;obtain⟨hu,i0,js,eJ,eF,hz0,_⟩:=hg q te cg;have ht:=(hg t tt cJ).1;rw[cN]at ht;have bR:=run_make (P:=P) w t q i0 te.zero ht js hz0 k1 k2 n m h0 h1 (by rw[eF];exact h2) h3;rw[eJ]at bR;have aK:=size_madeCells te.zero.cells (m.toNat * te.size);obtain⟨aF,aJ⟩:=hi.j7 (Mv:=Mv) (bY.alloc w (.cells (madeCells te.zero.cells (m.toNat * te.size)) q));refine⟨.slice (some ⟨w.heap.size,0,none⟩) n.toNat m.toNat,_,by simp[execOp,el,ec,bR],aF,.d ?_,aJ⟩;by_cases o9:n.toNat=0
     .rw[show mz te n.toNat=[] by rw[o9];rfl,o9];exact .empty (by simp) (by unfold maxLen;omega)
     .have hzc:=u5 (w:=w) (X:=XX X μ) te.zero
      have hcs:te.zero.cells.size=te.size:=by rw[hzc.1,pn]
      have tM:∀ i j,i < n.toNat->j < te.size->i * te.size+j < m.toNat * te.size:=fun i j hi' hj=>by
       have:(i+1) * te.size<=m.toNat * te.size:=Nat.mul_le_mul_right _ (by omega);rw[Nat.add_mul]at this;omega
      refine .sl (sz:=te.size) (f:=fun i j=>(madeCells te.zero.cells (m.toNat * te.size)).getD (i * te.size+j) undef) (by simp) (by simp[mz]) (by omega) (by unfold maxLen;omega) (DU hi) (fun el hel=>by rw[List.eq_of_mem_replicate hel,pn]) hz (by omega) (fun i j hi' hj=>?_) fun i j el d hel hd=>?_
      .rw[Nat.zero_add];exact DT w _ q (by simp[Array.getD_eq_getD_getElem?,aK,tM i j hi' hj])
      .unfold mz at hel;rw[List.getElem?_replicate]at hel;split at hel
       .rename_i ay;obtain rfl:=Option.some.inj hel
        have hj:j < te.size:=by rw[<- pn];exact (List.getElem?_eq_some_iff.1 hd).1
        have we:j < te.zero.cells.size:=by omega
        have hb:=tM i j ay hj
        have gY:(i * te.size+j) % te.size=j:=by rw[Nat.mul_comm,Nat.mul_add_mod,Nat.mod_eq_of_lt hj]
        have hv:(madeCells te.zero.cells (m.toNat * te.size)).getD (i * te.size+j) undef=te.zero.cells[j]:=by
         simp[Array.getD_eq_getD_getElem?,madeCells,hb,hcs,gY];exact getElem!_pos te.zero.cells j we
        rw[hv];exact (hzc.2 j _ d (by simp[we]) hd).ev aJ
       .cases hel
    .cases h
   .cases h
  .cases h
 .cases h
variable {ops:Array Oper} {db:List Nat}
def lD (P:Program) (T:Ty) (Mv:Nat->Prop) (G:ao) (N:Fr) (db:List Nat) (i:Nat) (o:Oper) (σ aw:St):Prop:=
 abF N o/\o.guard=none/\((db.contains i=true/\∃ c y,ky T G σ.env o=some (c,y)/\c/\aw=⟨aD σ.env o.dst (.d y),σ.H⟩)\/
  (db.contains i=false/\kindOf o.op≠9/\∃ x H',Ex P T Mv G o σ.env σ.H x H'/\aw=⟨aD σ.env o.dst x,H'⟩))
theorem lD.ok (hg:Good P T) {o:Oper} {i:Nat} {aw:St} (h:lD P T Mv G N db i o σ aw) (hi:In w X G μ N a σ) (ho:ops[i]? = some o) {Q:Exit->Act->World->Prop} {K:Act->World->Prop}
  (hk:∀ w' ax a',In w' X G ax N a' aw->Ev Mv w μ w' ax->K a' w'):wpOpIn (wd N.ro) 0 P ops Q i K a w:=by
 obtain⟨hd,hgu,h⟩:=h
 have gL:∀ d,o.dst=some d->d < N.n:=fun d e=>by unfold abF at hd;rw[e]at hd;exact hd
 rcases h with⟨_,c,y,h1,h2,rfl⟩ | ⟨_,h9,x,H',h1,rfl⟩
 .unfold wpOpIn;simp only[ho];rw[sT hi (ik hgu),if_pos rfl];refine wpR (fun c e=>by simp[ky,e]at h1) ?_;obtain⟨v,w',hr,aF,ft,aJ⟩:=Ga (Mv:=Mv) hg hi h1 h2;unfold Oper.wp;rw[hr];exact hk _ μ _ (aF.put ft gL) aJ
 .exact uW hg ⟨hd,.inl ⟨ik hgu,h1.to⟩⟩ hi ho hk
def ad9 (db:List Nat) (ops:Array Oper) (i j:Nat) (oi oj:Oper):Bool:=oi.apart ops oj && (db.contains i || db.contains j || pr (kindOf oi.op) (kindOf oj.op))
theorem Gw {i j:Nat} {oi oj:Oper} (hc:ad9 db ops i j oi oj=true) {σ aI eL:St} (h1:lD P T Mv G N db i oi σ aI) (h2:lD P T Mv G N db j oj aI eL) :
  ∃ e6,lD P T Mv G N db j oj σ e6/\lD P T Mv G N db i oi e6 eL:=by
 simp only[ad9,Bool.and_eq_true]at hc;obtain⟨eX,fX⟩:=hc;obtain⟨di,gi,h1⟩:=h1;obtain⟨dj,gj,h2⟩:=h2;have agj:∀ v,fA oj.op (aD σ.env oi.dst v) σ.env:=fun v t ht=>(ace eX (e:=σ.env) (v:=v)).1 t (iF ht);have eT:∀ v,fA oi.op σ.env (aD σ.env oj.dst v):=fun v t ht=>((ace eX (e:=σ.env) (v:=v)).2.1 t (iF ht)).symm;have aO:=(ace eX (e:=σ.env) (v:=cC)).2.2
 rcases h1 with⟨bi,c,y,e1,c1,rfl⟩ | ⟨bi,k1,x,H',e1,rfl⟩
 .rcases h2 with⟨bj,c',z,e2,c2,rfl⟩ | ⟨bj,k2,z,H2,e2,rfl⟩
  .rw[j5 (agj _)]at e2;refine⟨⟨aD σ.env oj.dst (.d z),σ.H⟩,⟨dj,gj,.inl ⟨bj,c',z,e2,c2,rfl⟩⟩,di,gi,.inl ⟨bi,c,y,?_,c1,?_⟩⟩
   .rw[<- j5 (eT _)];exact e1
   .rw[fG aO]
  .refine⟨⟨aD σ.env oj.dst z,H2⟩,⟨dj,gj,.inr ⟨bj,k2,z,H2,e2.congr k2 (agj _),rfl⟩⟩,di,gi,.inl ⟨bi,c,y,?_,c1,?_⟩⟩
   .rw[<- j5 (eT _)];exact e1
   .rw[fG aO]
 .rcases h2 with⟨bj,c',z,e2,c2,rfl⟩ | ⟨bj,k2,z,H2,e2,rfl⟩
  .rw[j5 (agj _)]at e2;refine⟨⟨aD σ.env oj.dst (.d z),σ.H⟩,⟨dj,gj,.inl ⟨bj,c',z,e2,c2,rfl⟩⟩,di,gi,.inr ⟨bi,k1,x,H',e1.congr k1 (eT _),?_⟩⟩;rw[fG aO]
  .rw[bi,bj]at fX
   have bW:acf ops oi oj=true:=by simp only[acf,Bool.and_eq_true];exact⟨eX,by simpa using fX⟩
   obtain⟨H3,f1,f2⟩:=aes (N:=N) bW ⟨di,.inl ⟨ik gi,e1⟩⟩ ⟨dj,.inl ⟨ik gj,e2⟩⟩ k1 k2
   have un:∀ {o:Oper} {e:Env} {H H':Heap} {x:AV},o.guard=none->Sx P T Mv G N ops o e H x H'->Ex P T Mv G o e H x H':=fun hgu h=>by
    rcases h.2 with⟨_,h⟩ | ⟨hw,_⟩
    .exact h
    .rw[ik hgu]at hw;cases hw
   refine⟨⟨aD σ.env oj.dst z,H3⟩,⟨dj,gj,.inr ⟨bj,k2,z,H3,un gj f1,rfl⟩⟩,di,gi,.inr ⟨bi,k1,x,H2,un gi f2,?_⟩⟩;rw[fG aO]
def uQ (P:Program) (T:Ty) (Mv:Nat->Prop) (G:ao) (N:Fr) (db:List Nat) (ops:Array Oper):List Nat->St->St->Prop
 | [],σ,aw=>σ=aw
 | i :: l,σ,aw=>∃ o,ops[i]? = some o/\∃ aI,lD P T Mv G N db i o σ aI/\uQ P T Mv G N db ops l aI aw
theorem WO {p:Nat} {op:Oper} (hp:ops[p]? = some op):∀ (l1:List Nat) {l2:List Nat} {σ aw:St},(∀ q∈l1,∀ oq,ops[q]? = some oq->ad9 db ops q p oq op=true)->uQ P T Mv G N db ops (l1 ++ p :: l2) σ aw->uQ P T Mv G N db ops (p :: (l1 ++ l2)) σ aw:=by
 intro l1
 induction l1 with
 | nil=>intro l2 σ aw _ h;exact h
 | cons q l1 ih=>
  intro l2 σ aw bB h;obtain⟨oq,hq,aI,s1,rest⟩:=h;obtain⟨o',eO,eL,s2,py⟩:=ih (fun q' hq'=>bB q' (by simp[hq'])) rest;rw[hp]at eO;obtain rfl:=Option.some.inj eO;obtain⟨e6,f1,f2⟩:=Gw (bB q (by simp) oq hq) s1 s2;exact⟨op,hp,e6,f1,oq,hq,eL,f2,py⟩
def uF (db:List Nat) (ord:List Nat) (ops:Array Oper):Bool:=
 let t:=tb ops
 ord.length == ops.size && (ord.all fun i=>decide (i < ops.size)) && ((List.range ops.size).all fun i=>ord.contains i) && decide ord.Nodup &&
 ((List.range ops.size).all fun j=>match ops[j]? with
  | some oj=>oj.after.all fun e=>!Region.binds .any e || e.on < j
  | none=>true) &&
 go t ord
where
 go (t:List Nat):List Nat->Bool
 | []=>true
 | a :: l=>(l.all fun b=>match ops[a]?,ops[b]? with
  | some oa,some ob=>(oa.after.all fun e=>!Region.binds .any e || !(e.on == b)) && ((t.getD b 0).testBit a || ad9 db ops a b oa ob)
  | _,_=>true) && go t l
def AM (db:List Nat) (ops:Array Oper) (a b:Nat):Prop:=∀ oa ob,ops[a]? = some oa->ops[b]? = some ob->
 (∀ e∈oa.after,Region.binds .any e=true->e.on≠b)/\(((tb ops).getD b 0).testBit a=true\/ad9 db ops a b oa ob=true)
theorem JG:∀ {l:List Nat},uF.go db ops (tb ops) l=true->l.Pairwise (AM db ops)
 | [],_=>.nil
 | a :: l,h=>by
  simp only[uF.go,Bool.and_eq_true]at h;refine .cons (fun b hb oa ob pb hob=>?_) (JG h.2);have:=List.all_eq_true.1 h.1 b hb;simp only[pb,hob,Bool.and_eq_true,Bool.or_eq_true]at this;refine⟨fun e he oS heq=>?_,this.2⟩;have h1:=Array.all_eq_true_iff_forall_mem.1 this.1 e he;simp[oS,heq]at h1
theorem Mh (hg:Good P T) (ay:∀ j oj,ops[j]? = some oj->∀ e∈oj.after,Region.binds .any e=true->e.on < j) {Q:Exit->St->Prop} {w0:World} {gm:Mu} {σn:St} (hQ:Q .normal σn):∀ (n:Nat) (R:List Nat) (listed:Array Bool) (w:World) (μ:Mu) (a:Act) (σ:St),R.length=n->R.Nodup->
  (∀ j,j∈R↔j < ops.size/\listed.getD j true=false)->listed.size=ops.size->R.Pairwise (AM db ops)->
  (∀ j oj,ops[j]? = some oj->listed.getD j false=true->∀ e∈oj.after,Region.binds .any e=true->listed.getD e.on false=true)->uQ P T Mv G N db ops R σ σn->In w X G μ N a σ->Ev Mv w0 gm w μ->
  wpAnyIn (wd N.ro) 0 P .any ops (After Mv X G N w0 gm Q) n listed a w:=by
 intro n
 induction n with
 | zero=>
  intro R listed w μ a σ hl _ hR aK _ _ bR hi aJ;have:R=[]:=List.eq_nil_of_length_eq_zero hl;subst this
  have hr:Region.ready .any ops listed=[]:=by
   apply List.eq_nil_iff_forall_not_mem.2;intro j hj;obtain⟨h1,o,ho,_⟩:=mem_ready.1 hj;exact absurd ((hR j).2 ⟨(Array.getElem?_eq_some_iff.1 ho).1,h1⟩) (by simp)
  have:σ=σn:=bR;subst this;exact⟨hr,μ,σ,hQ,hi,aJ⟩
 | succ n ih=>
  intro R listed w μ a σ hl fe hR aK fL acJ bR hi aJ;refine⟨fun hr=>?_,fun i nc=>?_⟩
  .cases R with
   | nil=>simp at hl
   | cons j R=>
    obtain⟨ia,hj2⟩:=(hR j).1 (by simp)
    have bw:ops[j]? = some ops[j]:=by simp[ia]
    have jN:j∈Region.ready .any ops listed:=by
     refine mem_ready.2 ⟨hj2,ops[j],bw,fun e he hb=>?_⟩;have qj:=ay j ops[j] bw e he hb
     have aaZ:e.on < ops.size:=by omega
     have aO:e.on ∉ (j :: R):=by
      intro hm
      rcases List.mem_cons.1 hm with h | h
      .omega
      .exact ((List.pairwise_cons.1 fL).1 _ h ops[j] ops[e.on] bw (by simp[aaZ])).1 e he hb rfl
     have:=mt (hR e.on).2 aO
     have gX:e.on < listed.size:=by omega
     simp only[aaZ,true_and,Array.getD_eq_getD_getElem?]at this ⊢;simp[gX]at this ⊢;exact this
    rw[hr]at jN;cases jN
  .obtain⟨cO,oi,b5,bB⟩:=mem_ready.1 nc;have na:i∈R:=(hR i).2 ⟨(Array.getElem?_eq_some_iff.1 b5).1,cO⟩;obtain⟨R1,R2,rfl⟩:=List.append_of_mem na
   have mZ:=WO (P:=P) (T:=T) (Mv:=Mv) (G:=G) (N:=N) (db:=db) b5 R1 (fun q hq oq jR=>by
    have pc:AM db ops q i:=(List.pairwise_append.1 fL).2.2 q hq i (by simp)
    rcases (pc oq oi jR b5).2 with h | h
    .exfalso;have jO:=vl ay acJ i i oi (Nat.le_refl _) b5 bB q h;have dY:=((hR q).1 (by simp[hq])).2
     have nh:q < listed.size:=by have:=(Array.getElem?_eq_some_iff.1 jR).1;omega
     simp[Array.getD_eq_getD_getElem?,nh]at jO dY;rw[jO]at dY;cases dY
    .exact h) bR
   obtain⟨o',eO,aI,hstep,bt⟩:=mZ;rw[b5]at eO;obtain rfl:=Option.some.inj eO;refine hstep.ok hg hi b5 fun w' ax a' aF iP=>?_
   have nd:(R1 ++ R2).Nodup:=by
    have:=fe;rw[List.nodup_append]at this ⊢;obtain⟨g1,g2,g3⟩:=this;exact⟨g1,(List.nodup_cons.1 g2).2,fun x hx y hy=>g3 x hx y (by simp[hy])⟩
   have ady:i ∉ R1 ++ R2:=by
    have:=fe;rw[List.nodup_append]at this;obtain⟨g1,g2,g3⟩:=this;intro hm
    rcases List.mem_append.1 hm with h | h
    .exact g3 i h i (by simp) rfl
    .exact (List.nodup_cons.1 g2).1 h
   refine ih (R1 ++ R2) _ w' ax a' aI (by simp at hl ⊢;omega) nd (fun j=>?_) (by simpa using aK) ?_ ?_ bt aF (aJ.trans iP)
   .by_cases hji:j=i
    .subst hji
     have gX:j < listed.size:=by rw[aK];exact (Array.getElem?_eq_some_iff.1 b5).1
     simp[gX];simpa using ady
    .rw[getD_set_ne true (Ne.symm hji)];rw[<- hR j];simp[hji]
   .rw[List.pairwise_append]at fL ⊢;obtain⟨g1,g2,g3⟩:=fL;exact⟨g1,(List.pairwise_cons.1 g2).2,fun x hx y hy=>g3 x hx y (by simp[hy])⟩
   .intro j oj bw dH e he hb;by_cases hji:j=i
    .subst hji;rw[b5]at bw;obtain rfl:=Option.some.inj bw;exact getD_set_true (bB e he hb)
    .rw[getD_set_ne false (Ne.symm hji)]at dH;exact getD_set_true (acJ j oj bw dH e he hb)
def Ai (P:Program) (T:Ty) (Mv:Nat->Prop) (G:ao) (N:Fr) (db:List Nat) (i:Nat) (o:Oper) (σ:St) (K:St->Prop):Prop:=abF N o/\o.guard=none/\
 if db.contains i=true then (match ky T G σ.env o with
  | some (c,y)=>c/\K ⟨aD σ.env o.dst (.d y),σ.H⟩
  | none=>False)
 else kindOf o.op≠9/\match cz o.op with
  | some c=>mM P G c σ.env o.dst σ.H [] [] K
  | none=>qJ T G Mv o σ [] K
def sxb (P:Program) (T:Ty) (Mv:Nat->Prop) (G:ao) (N:Fr) (db:List Nat) (K:St->Prop):List (Nat×Oper)->St->Prop
 | [],σ=>K σ
 | (i,o) :: rest,σ=>Ai P T Mv G N db i o σ (sxb P T Mv G N db K rest)
theorem agO {K:St->Prop}:∀ (l:List Nat) (σ:St),(∀ i∈l,i < ops.size)->sxb P T Mv G N db K (aaV ops l) σ->∃ σn,K σn/\uQ P T Mv G N db ops l σ σn:=by
 intro l
 induction l with
 | nil=>intro σ _ h;exact⟨σ,h,rfl⟩
 | cons i l ih=>
  intro σ hl h;have hi:=hl i (by simp)
  have ho:ops[i]? = some ops[i]:=by simp[hi]
  simp only[aaV,ho]at h;generalize ops[i]=o at ho h;simp only[sxb,Ai]at h;obtain⟨hd,hgu,h⟩:=h
  have fin:∀ aI,lD P T Mv G N db i o σ aI->sxb P T Mv G N db K (aaV ops l) aI->∃ σn,K σn/\uQ P T Mv G N db ops (i :: l) σ σn:=fun aI hs h1=>by
   obtain⟨σn,hk,hr⟩:=ih aI (fun j hj=>hl j (by simp[hj])) h1;exact⟨σn,hk,o,ho,aI,hs,hr⟩
  split at h
  .rename_i hb;split at h
   .rename_i c y hw;obtain⟨hc,h⟩:=h;exact fin _ ⟨hd,hgu,.inl ⟨hb,c,y,hw,hc,rfl⟩⟩ h
   .exact h.elim
  .rename_i hb
   have hb:db.contains i=false:=by simpa using hb
   obtain⟨hk,h⟩:=h;split at h
   .rename_i c hc;obtain⟨y,g,ds,ht,hp,abL,h⟩:=h;refine fin _ ⟨hd,hgu,.inr ⟨hb,hk,.d y,σ.H,?_,rfl⟩⟩ h;unfold Ex;simp only[hc];exact⟨y,⟨g,_,ht,.inl ⟨ds,rfl,hp⟩⟩,rfl,trivial⟩
   .rename_i hc;unfold qJ at h;split at h
    .rename_i hw;split at h
     .rename_i c x aI h1;obtain⟨bW,abL,h⟩:=h;have he:=aeP hk h1;obtain⟨e,H⟩:=σ;obtain⟨e1,H1⟩:=aI;dsimp only at he;subst he;refine fin _ ⟨hd,hgu,.inr ⟨hb,hk,x,H1,?_,rfl⟩⟩ h;unfold Ex;simp only[hc];rw[if_pos hw];exact⟨c,h1,bW⟩
     .exact h.elim
    .rename_i hw;split at h
     .rename_i c x h1;obtain⟨bW,abL,h⟩:=h;refine fin _ ⟨hd,hgu,.inr ⟨hb,hk,x,σ.H,?_,rfl⟩⟩ h;unfold Ex;simp only[hc];rw[if_neg hw];exact⟨c,h1,bW,trivial⟩
     .exact h.elim
theorem Fg (hg:Good P T) (hm:P.follows .mixedOrders=true) (db:List Nat) (ord:List Nat) {id:Nat} (bJ:uF db ord ops=true) {Q:Exit->St->Prop} {σ:St} (h:sxb P T Mv G N db (fun aw=>Q .normal aw) (aaV ops ord) σ):AW P Mv X G N (.region id ops true) Q σ:=fun w μ a hi=>by
 unfold uF at bJ;simp only[Bool.and_eq_true]at bJ;obtain⟨⟨⟨⟨⟨h1,h2⟩,h3⟩,h4⟩,h5⟩,h6⟩:=bJ
 have hlen:ord.length=ops.size:=by simpa using h1
 have ay:∀ i∈ord,i < ops.size:=fun i hi=>by simpa using List.all_eq_true.1 h2 i hi
 have bB:∀ i,i < ops.size->i∈ord:=fun i hi=>by simpa using List.all_eq_true.1 h3 i (List.mem_range.2 hi)
 have fe:ord.Nodup:=by simpa using h4
 have adV:∀ j oj,ops[j]? = some oj->∀ e∈oj.after,Region.binds .any e=true->e.on < j:=fun j oj bw e he hb=>by
  have:=List.all_eq_true.1 h5 j (List.mem_range.2 (Array.getElem?_eq_some_iff.1 bw).1);simp only[bw]at this;have:=Array.all_eq_true_iff_forall_mem.1 this e he;simpa[hb]using this
 obtain⟨σn,hQ,bR⟩:=agO ord σ ay h;refine wpIn_region_any hm ?_;obtain⟨aF,aJ⟩:=hi.j7 (Mv:=Mv) (bY.drew w);refine Mh hg adV hQ ops.size ord _ w.drew μ a σ hlen fe (fun j=>?_) (by simp) (JG h6) ?_ bR aF aJ
 .constructor
  .intro hj;have:=ay j hj;simp[Array.getD_eq_getD_getElem?,this]
  .intro hj;exact bB j hj.1
 .intro j oj bw dH;have hj:=(Array.getElem?_eq_some_iff.1 bw).1;simp[Array.getD_eq_getD_getElem?,hj]at dH
theorem sY (hg:Good P T) (hm:P.follows .mixedOrders=true) (db:List Nat) (ord:List Nat) (l ns:List Nat) (hM:∀ r,ns.contains r=false->Mv r) {id:Nat} (bJ:uF db ord ops=true) {y:Code} {Q:Exit->St->Prop} {σ:St}
  (h:∀ K:St->Prop,(∀ τ:St,AW P Mv X G N y Q (τ.norm l ns)->K τ)->sxb P T Mv G N db K (aaV ops ord) σ):AW P Mv X G N (.seq (.region id ops true) y) Q σ:=
 adP (Fg hg hm db ord bJ (h _ fun _ h=>h.norm l ns hM))
theorem LU (hg:Good P T) (hm:P.follows .mixedOrders=true) (db:List Nat) (ord:List Nat) {id:Nat} (bJ:uF db ord ops=true) {Q:Exit->St->Prop} {σ:St}
  (h:∀ K:St->Prop,(∀ τ:St,Q .normal τ->K τ)->sxb P T Mv G N db K (aaV ops ord) σ):AW P Mv X G N (.region id ops true) Q σ:=Fg hg hm db ord bJ (h _ fun _ h=>h)
theorem pE {K:St->Prop} {i:Nat} {l:List Nat} {o:Oper} (ho:ops[i]? = some o) (h:∀ K':St->Prop,(∀ τ,sxb P T Mv G N db K (aaV ops l) τ->K' τ)->Ai P T Mv G N db i o σ K'):sxb P T Mv G N db K (aaV ops (i :: l)) σ:=by
 have:aaV ops (i :: l)=(i,o) :: aaV ops l:=by simp[aaV,ho]
 rw[this];exact h _ fun _ h=>h
theorem sR {K:St->Prop} (h:K σ):sxb P T Mv G N db K (aaV ops []) σ:=h
end
attribute [simp] Ai ky
end Go.Av
namespace Go.Av
def It:Op->Bool
 | .insert _ _ _ _=>true
 | _=>false
def zO (G:ao) (e:Env) (o:Op) (r:Nat):Prop:=match o with
 | .insert _ m _ _=>bf G e m=some (.mp r)
 | _=>False
def uY (G:ao) (fp:List (Nat×Nat)) (e:Env) (i:Nat) (o:Op):Prop:=match fp.lookup i with
 | some r=>if It o=true then zO G e o r else qH G e o r
 | none=>True
section
variable {P:Program} {T:Ty} {Mv X:Nat->Prop} {G:ao} {N:Fr} {ops:Array Oper} {fp:List (Nat×Nat)} {cn:List Nat}
theorem Ex.X0 {o:Oper} {e:Env} {H H':Heap} {x:AV} {r:Nat} (ht:zO G e o.op r) (h:Ex P T Mv G o e H x H') :
  ∃ u,H'=acB H r u/\∀ H2,H2 r=H r->Ex P T Mv G o e H2 x (acB H2 r u):=by
 obtain⟨dst,op,type,pos,after,guard⟩:=o;dsimp only at ht;cases op<;>simp only[zO]at ht
 case insert t m k v=>
  unfold Ex at h;simp only[cz,eD,if_true]at h;obtain⟨c,h1,h3⟩:=h
  cases dst with
  | some d=>simp[wr]at h1
  | none=>
   simp only[wr,ht]at h1;split at h1
   .rename_i q key y hm hk hv;simp only[Option.some.injEq,AV.mp.injEq]at hm;subst hm;split at h1
    .rename_i ty ents hr;split at h1
     .rename_i c' iL hp;simp only[Option.some.injEq,Prod.mk.injEq,St.mk.injEq,true_and]at h1;obtain⟨rfl,rfl,rfl⟩:=h1;refine⟨some (.mp ty iL),rfl,fun H2 h2=>?_⟩;unfold Ex;simp only[cz,eD,if_true];exact⟨_,by simp only[wr,ht,hk,hv,h2,hr,hp];rfl,h3⟩
     .cases h1
    .cases h1
   .cases h1
theorem Ex.uY {o:Oper} {e:Env} {H H':Heap} {x:AV} {r i:Nat} (hr:fp.lookup i=some r) (ht:Av.uY G fp e i o.op) (h:Ex P T Mv G o e H x H') :
  ∃ u,H'=acB H r u/\∀ H2,H2 r=H r->Ex P T Mv G o e H2 x (acB H2 r u):=by
 unfold Av.uY at ht;simp only[hr]at ht;split at ht
 .exact h.X0 ht
 .exact h.xG ht
theorem Ex.call {o:Oper} {e:Env} {H H':Heap} {x:AV} (hn:cz o.op≠none) (h:Ex P T Mv G o e H x H'):H'=H:=by
 cases hc:cz o.op with
 | none=>exact absurd hc hn
 | some c=>
  unfold Ex at h;simp only[hc]at h;exact h.choose_spec.2.2
def Fu (P:Program) (T:Ty) (Mv:Nat->Prop) (G:ao) (N:Fr) (ops:Array Oper) (fp:List (Nat×Nat)) (cn:List Nat) (cl:List (Nat×AV)) (i:Nat) (o:Oper) (σ aw:St):Prop:=
 kindOf o.op≠9/\(∃ x H',Sx P T Mv G N ops o σ.env σ.H x H'/\aw=⟨aD σ.env o.dst x,H'⟩/\(cz o.op≠none->fQ ops σ.env o=some true->cl.lookup i=some x)/\(cn.contains i=true->fQ ops σ.env o=some true->cz o.op≠none/\∀ H2,Ex P T Mv G o σ.env H2 x H2))/\(fQ ops σ.env o=some true->uY G fp σ.env i o.op)
theorem Fu.to {cl:List (Nat×AV)} {i:Nat} {o:Oper} {σ aw:St} (h:Fu P T Mv G N ops fp cn cl i o σ aw):sP P T Mv G N ops o σ aw:=by
 obtain⟨hk,⟨x,H',hs,e,_,_⟩,_⟩:=h;exact (pA hk).2 ⟨x,H',hs,e⟩
variable {cl:List (Nat×AV)}
def Bb (P:Program) (G:ao) (cl:List (Nat×AV)) (i:Nat) (c:Call) (σ:St) (dst:Option Tmp) (next:St->Prop):Prop:=∃ y,cl.lookup i=some (.d y)/\(∀ H2,vn P G ⟨σ.env,H2⟩ c y)/\next ⟨aD σ.env dst (.d y),σ.H⟩
theorem Bb.data {i:Nat} {c:Call} {σ:St} {g:FuncId} {xs:List AV} {ds ef:List D} {y:D} {dst:Option Tmp} {next:St->Prop} (hc:ar P G g ds y) (hcl:cl.lookup i=some (.d y)) (ht:tgt G σ.env c=some (g,xs)) (hx:iI xs=some ef) (hle:D.le.go ef ds) (h:next ⟨aD σ.env dst (.d y),σ.H⟩):Bb P G cl i c σ dst next:=
 ⟨y,hcl,fun _=>⟨g,xs,ht,.inl ⟨ef,lF hx,hc.nw hle⟩⟩,h⟩
def Lb (P:Program) (T:Ty) (Mv:Nat->Prop) (G:ao) (N:Fr) (ops:Array Oper) (fp:List (Nat×Nat)) (cn:List Nat) (cl:List (Nat×AV)) (i:Nat) (o:Oper) (σ:St) (K:St->Prop):Prop:=abF N o/\kindOf o.op≠9/\match fQ ops σ.env o with
 | some b=>if b=true then uY G fp σ.env i o.op/\(match cz o.op with
  | some c=>Bb P G cl i c σ o.dst K
  | none=>cn.contains i=false/\adi T G Mv o σ K) else K ⟨aD σ.env o.dst cC,σ.H⟩
 | none=>False
attribute [simp] Lb uY It zO
end
end Go.Av
namespace Go.Av
def af4 (P:Program) (t:TypeId) (name:String) (g:FuncId):Prop:=∀ (v:Value) (w:World),(invoke (.fn (.method name) #[]) #[.iface t v]).run P w = .ok (.enter g #[v]) w
def Ir:Op->Option (Operand×String)
 | .call { callee:=.invoke r name,args:=az,argTypes:=_ }=>if az.isEmpty then some (r,name) else none
 | _=>none
def Xu (P:Program) (T:Ty) (Mv X:Nat->Prop) (G:ao) (N:Fr) (ops:Array Oper) (o:Oper) (σ:St) (K:St->Prop):Prop:=abF N o/\match fQ ops σ.env o with
 | some b=>if b=true then (match Ir o.op with
  | some (r,name)=>∃ t x g,bf G σ.env r=some (.d (.bA t x))/\af4 P t name g/\aaT P Mv X G N g [.d x] σ o.dst K
  | none=>jH P T Mv X G N o σ K) else K ⟨aD σ.env o.dst cC,σ.H⟩
 | none=>False
section
variable {P:Program} {T:Ty} {Mv X:Nat->Prop} {G:ao} {N:Fr} {w:World} {μ:Mu} {a:Act} {σ:St}
attribute [simp] Xu Ir jH
end
