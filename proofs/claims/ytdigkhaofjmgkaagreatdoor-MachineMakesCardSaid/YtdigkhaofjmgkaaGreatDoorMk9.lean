/-
  Texts that belong together,in one file: Av35,Av43,Av28,Av29,Av30.
-/
import Derived.Test.YtdigkhaofjmgkaaGreatDoorMk8
set_option linter.unusedSectionVars false
set_option linter.unusedSimpArgs false
set_option linter.unusedVariables false
namespace Go.Av
theorem Aq {p q:Prop} (h:p) (k:q):p/\q:=⟨h,k⟩
section
variable {P:Program} {Mv X:Nat->Prop} {G:ao} {N:Fr} {σ τ ff:St} {p:Prop}
theorem aq (l ns:List Nat) {id:Nat} {ops:Array Oper} {y:Code} {Q:Exit->St->Prop} (k:AW P Mv X G N y Q ff)
  (hM:∀ r,ns.contains r=false->Mv r:=by first | exact fun _ _=>trivial | exact cC rfl)
  (h:∀ K':St->Prop,K' τ->sxf P (bQ P) Mv X G N ops K' ops.toList σ:=by
   intro K' af;repeat (refine Z0 fun K2 aa=>?_;simp;(repeat (refine ⟨by omega,?_⟩));refine aa _ ?_;clear aa K2)
   exact Z9 af)
  (hn:τ.norm l ns=ff:=by simp;rfl):AW P Mv X G N (.seq (.region id ops false) y) Q σ:=
 rg l ns hM fun K hK=>h K (hK _ (hn ▸ k))
theorem ZW (q:p) (l ns:List Nat) {id:Nat} {ops:Array Oper} {y:Code} {Q:Exit->St->Prop} (k:AW P Mv X G N y Q ff)
  (hM:∀ r,ns.contains r=false->Mv r:=by first | exact fun _ _=>trivial | exact cC rfl)
  (h:p->∀ K':St->Prop,K' τ->sxf P (bQ P) Mv X G N ops K' ops.toList σ:=by
   intro q K' af;repeat (refine Z0 fun K2 aa=>?_;simp [q];(repeat (refine ⟨by omega,?_⟩));refine aa _ ?_;clear aa K2)
   exact Z9 af)
  (hn:p->τ.norm l ns=ff:=by intro q;simp [q];rfl):AW P Mv X G N (.seq (.region id ops false) y) Q σ:=
 rg l ns hM fun K hK=>h q K (hK _ (hn q ▸ k))
theorem Z6 (q:p) {g:FuncId} {ds:List D} {yd:D} (hc:aw P G g ds yd) (l ns:List Nat) {id:Nat} {ops:Array Oper} {y:Code} {Q:Exit->St->Prop} (k:AW P Mv X G N y Q ff)
  (hM:∀ r,ns.contains r=false->Mv r:=by first | exact fun _ _=>trivial | exact cC rfl)
  (h:p->aw P G g ds yd->∀ K':St->Prop,K' τ->sxf P (bQ P) Mv X G N ops K' ops.toList σ:=by
   intro q hc K' af;(repeat (refine Z0 fun K2 aa=>?_;simp [q];(repeat (refine ⟨by omega,?_⟩));refine aa _ ?_;clear aa K2));refine Z0 fun K2 aa=>?_;simp [q];refine aap.data hc (by simp;rfl) (by first | exact D.bn _ | simp [aB,List.map_map,Function.comp_def,D.le,D.le.go,D.le_refl,D.bn,q]) ?_;refine aa _ ?_;clear aa K2;simp only [Z2,dk];repeat (refine Z0 fun K2 aa=>?_;simp [q];(repeat (refine ⟨by omega,?_⟩));refine aa _ ?_;clear aa K2)
   exact Z9 af)
  (hn:p->τ.norm l ns=ff:=by intro q;simp [q];rfl):AW P Mv X G N (.seq (.region id ops false) y) Q σ:=
 rg l ns hM fun K hK=>h q hc K (hK _ (hn q ▸ k))
theorem Z8 (q:p) {fx:List Nat} {g:FuncId} {xs:List AV} {bJ dT:List (Nat×Row)} {yv:AV} (hc:MC P G fx g xs (ZX bJ) yv (ZX dT)) (l ns:List Nat) {id:Nat} {ops:Array Oper} {y:Code} {Q:Exit->St->Prop} (k:AW P Mv X G N y Q ff)
  (hM:∀ r,ns.contains r=false->Mv r:=by first | exact fun _ _=>trivial | exact cC rfl)
  (h:p->MC P G fx g xs (ZX bJ) yv (ZX dT)->∀ K':St->Prop,K' τ->sxf P (bQ P) Mv X G N ops K' ops.toList σ:=by
   intro q hc K' af;(repeat (refine Z0 fun K2 aa=>?_;simp [q];(repeat (refine ⟨by omega,?_⟩));refine aa _ ?_;clear aa K2));refine Z0 fun K2 aa=>?_;simp [q];refine aap.mc hc (by simp [q]) (by simp [q]) (by simp [q]) (by simp [q]) ?_;simp [q];refine aa _ ?_;clear aa K2;repeat (refine Z0 fun K2 aa=>?_;simp [q];(repeat (refine ⟨by omega,?_⟩));refine aa _ ?_;clear aa K2)
   exact Z9 af)
  (hn:p->τ.norm l ns=ff:=by intro q;simp [q];rfl):AW P Mv X G N (.seq (.region id ops false) y) Q σ:=
 rg l ns hM fun K hK=>h q hc K (hK _ (hn q ▸ k))
theorem zJ (q:p) (l ns:List Nat) {id:Nat} {ops:Array Oper} {y:Code} {Q:Exit->St->Prop} (k:AW P Mv X G N y Q ff)
  (hm:P.follows .mixedOrders=true:=by kernel_rfl) (hok:l5 ops=true:=by kernel_rfl)
  (hM:∀ r,ns.contains r=false->Mv r:=by first | exact fun _ _=>trivial | exact cC rfl)
  (h:p->∀ K':St->Prop,K' τ->kB P (bQ P) Mv G N ops K' ops.toList σ:=by
   intro q K' af;repeat (refine fo fun K2 aa=>?_;simp [q];(repeat (refine ⟨by omega,?_⟩));refine aa _ ?_;clear aa K2)
   exact kZ af)
  (hn:p->τ.norm l ns=ff:=by intro q;simp [q];rfl):AW P Mv X G N (.seq (.region id ops true) y) Q σ:=
 nO (ZZ _) hm l ns hM hok fun K hK=>h q K (hK _ (hn q ▸ k))
theorem zI (q:p) {g:FuncId} {ds:List D} {yd:D} (hc:aw P G g ds yd) (l ns:List Nat) {id:Nat} {ops:Array Oper} {y:Code} {Q:Exit->St->Prop} (k:AW P Mv X G N y Q ff)
  (hm:P.follows .mixedOrders=true:=by kernel_rfl) (hok:l5 ops=true:=by kernel_rfl)
  (hM:∀ r,ns.contains r=false->Mv r:=by first | exact fun _ _=>trivial | exact cC rfl)
  (h:p->aw P G g ds yd->∀ K':St->Prop,K' τ->kB P (bQ P) Mv G N ops K' ops.toList σ:=by
   intro q hc K' af;(repeat (refine fo fun K2 aa=>?_;simp [q];(repeat (refine ⟨by omega,?_⟩));refine aa _ ?_;clear aa K2));refine fo fun K2 aa=>?_;simp [q];refine iT.data hc (by simp;rfl) (by simp;rfl) (by first | exact D.bn _ | simp [aB,List.map_map,Function.comp_def,D.le,D.le.go,D.le_refl,D.bn,q]) ?_;refine aa _ ?_;clear aa K2;simp only [Z2,dk];repeat (refine fo fun K2 aa=>?_;simp [q];(repeat (refine ⟨by omega,?_⟩));refine aa _ ?_;clear aa K2)
   exact kZ af)
  (hn:p->τ.norm l ns=ff:=by intro q;simp [q];rfl):AW P Mv X G N (.seq (.region id ops true) y) Q σ:=
 nO (ZZ _) hm l ns hM hok fun K hK=>h q hc K (hK _ (hn q ▸ k))
theorem reK (q:p) {K0:St->Prop} {y:Code} {Q Q2:Exit->St->Prop} (hk:∀ ar,AW P Mv X G N y Q2 ar->K0 ar) (l ns:List Nat) {id:Nat} {ops:Array Oper} (k:AW P Mv X G N y Q2 ff)
  (hq:∀ τ,K0 τ->Q .normal τ:=by exact fun _ h=>h)
  (hM:∀ r,ns.contains r=false->Mv r:=by first | exact fun _ _=>trivial | exact cC rfl)
  (h:p->∀ K':St->Prop,K' τ->sxf P (bQ P) Mv X G N ops K' ops.toList σ:=by
   intro q K' af;repeat (refine Z0 fun K2 aa=>?_;simp [q];(repeat (refine ⟨by omega,?_⟩));refine aa _ ?_;clear aa K2)
   exact Z9 af)
  (hn:p->τ.norm l ns=ff:=by intro q;simp [q];rfl):AW P Mv X G N (.region id ops false) Q σ:=
 aaG (ZZ _) fun K hK=>h q K (hK _ (hq _ (hk _ (AW.norm l ns hM (hn q ▸ k)))))
theorem al (l ns:List Nat) {id:Nat} {ops:Array Oper} {y:Code} {Q:Exit->St->Prop} (k:AW P Mv X G N y Q ff)
  (hM:∀ r,ns.contains r=false->Mv r:=by first | exact fun _ _=>trivial | exact cC rfl)
  (h:∀ K':St->Prop,K' τ->sxf P (bQ P) Mv X G N ops K' ops.toList σ:=by
   intro K' af;repeat (refine Z0 fun K2 aa=>?_;simp [qf];(repeat (refine ⟨by omega,?_⟩));refine aa _ ?_;clear aa K2)
   exact Z9 af)
  (hn:τ.norm l ns=ff:=by simp [qf];rfl):AW P Mv X G N (.seq (.region id ops false) y) Q σ:=
 rg l ns hM fun K hK=>h K (hK _ (hn ▸ k))
theorem aaF {g:FuncId} {ds:List D} {yd:D} (hc:aw P G g ds yd) (l ns:List Nat) {id:Nat} {ops:Array Oper} {y:Code} {Q:Exit->St->Prop} (k:AW P Mv X G N y Q ff)
  (hM:∀ r,ns.contains r=false->Mv r:=by first | exact fun _ _=>trivial | exact cC rfl)
  (h:aw P G g ds yd->∀ K':St->Prop,K' τ->sxf P (bQ P) Mv X G N ops K' ops.toList σ:=by
   intro hc K' af;(repeat (refine Z0 fun K2 aa=>?_;simp [qf];(repeat (refine ⟨by omega,?_⟩));refine aa _ ?_;clear aa K2));refine Z0 fun K2 aa=>?_;simp [qf];refine aap.data hc (by simp;rfl) (by first | exact D.bn _ | simp [aB,List.map_map,Function.comp_def,D.le,D.le.go,D.le_refl,D.bn,qf]) ?_;refine aa _ ?_;clear aa K2;simp only [Z2,dk];repeat (refine Z0 fun K2 aa=>?_;simp [qf];(repeat (refine ⟨by omega,?_⟩));refine aa _ ?_;clear aa K2)
   exact Z9 af)
  (hn:τ.norm l ns=ff:=by simp [qf];rfl):AW P Mv X G N (.seq (.region id ops false) y) Q σ:=
 rg l ns hM fun K hK=>h hc K (hK _ (hn ▸ k))
theorem abi {fx:List Nat} {g:FuncId} {xs:List AV} {bJ dT:List (Nat×Row)} {yv:AV} (hc:MC P G fx g xs (ZX bJ) yv (ZX dT)) (l ns:List Nat) {id:Nat} {ops:Array Oper} {y:Code} {Q:Exit->St->Prop} (k:AW P Mv X G N y Q ff)
  (hM:∀ r,ns.contains r=false->Mv r:=by first | exact fun _ _=>trivial | exact cC rfl)
  (h:MC P G fx g xs (ZX bJ) yv (ZX dT)->∀ K':St->Prop,K' τ->sxf P (bQ P) Mv X G N ops K' ops.toList σ:=by
   intro hc K' af;(repeat (refine Z0 fun K2 aa=>?_;simp [qf];(repeat (refine ⟨by omega,?_⟩));refine aa _ ?_;clear aa K2));refine Z0 fun K2 aa=>?_;simp [qf];refine aap.mc hc (by simp [qf]) (by simp [qf]) (by simp [qf]) (by simp [qf]) ?_;simp [qf];refine aa _ ?_;clear aa K2;repeat (refine Z0 fun K2 aa=>?_;simp [qf];(repeat (refine ⟨by omega,?_⟩));refine aa _ ?_;clear aa K2)
   exact Z9 af)
  (hn:τ.norm l ns=ff:=by simp [qf];rfl):AW P Mv X G N (.seq (.region id ops false) y) Q σ:=
 rg l ns hM fun K hK=>h hc K (hK _ (hn ▸ k))
theorem fP (l ns:List Nat) {id:Nat} {ops:Array Oper} {y:Code} {Q:Exit->St->Prop} (k:AW P Mv X G N y Q ff)
  (hm:P.follows .mixedOrders=true:=by kernel_rfl) (hok:l5 ops=true:=by kernel_rfl)
  (hM:∀ r,ns.contains r=false->Mv r:=by first | exact fun _ _=>trivial | exact cC rfl)
  (h:∀ K':St->Prop,K' τ->kB P (bQ P) Mv G N ops K' ops.toList σ:=by
   intro K' af;repeat (refine fo fun K2 aa=>?_;simp [qf];(repeat (refine ⟨by omega,?_⟩));refine aa _ ?_;clear aa K2)
   exact kZ af)
  (hn:τ.norm l ns=ff:=by simp [qf];rfl):AW P Mv X G N (.seq (.region id ops true) y) Q σ:=
 nO (ZZ _) hm l ns hM hok fun K hK=>h K (hK _ (hn ▸ k))
theorem rU {g:FuncId} {ds:List D} {yd:D} (hc:aw P G g ds yd) (l ns:List Nat) {id:Nat} {ops:Array Oper} {y:Code} {Q:Exit->St->Prop} (k:AW P Mv X G N y Q ff)
  (hm:P.follows .mixedOrders=true:=by kernel_rfl) (hok:l5 ops=true:=by kernel_rfl)
  (hM:∀ r,ns.contains r=false->Mv r:=by first | exact fun _ _=>trivial | exact cC rfl)
  (h:aw P G g ds yd->∀ K':St->Prop,K' τ->kB P (bQ P) Mv G N ops K' ops.toList σ:=by
   intro hc K' af;(repeat (refine fo fun K2 aa=>?_;simp [qf];(repeat (refine ⟨by omega,?_⟩));refine aa _ ?_;clear aa K2));refine fo fun K2 aa=>?_;simp [qf];refine iT.data hc (by simp;rfl) (by simp;rfl) (by first | exact D.bn _ | simp [aB,List.map_map,Function.comp_def,D.le,D.le.go,D.le_refl,D.bn,qf]) ?_;refine aa _ ?_;clear aa K2;simp only [Z2,dk];repeat (refine fo fun K2 aa=>?_;simp [qf];(repeat (refine ⟨by omega,?_⟩));refine aa _ ?_;clear aa K2)
   exact kZ af)
  (hn:τ.norm l ns=ff:=by simp [qf];rfl):AW P Mv X G N (.seq (.region id ops true) y) Q σ:=
 nO (ZZ _) hm l ns hM hok fun K hK=>h hc K (hK _ (hn ▸ k))
theorem dv {K0:St->Prop} {y:Code} {Q Q2:Exit->St->Prop} (hk:∀ ar,AW P Mv X G N y Q2 ar->K0 ar) (l ns:List Nat) {id:Nat} {ops:Array Oper} (k:AW P Mv X G N y Q2 ff)
  (hq:∀ τ,K0 τ->Q .normal τ:=by exact fun _ h=>h)
  (hM:∀ r,ns.contains r=false->Mv r:=by first | exact fun _ _=>trivial | exact cC rfl)
  (h:∀ K':St->Prop,K' τ->sxf P (bQ P) Mv X G N ops K' ops.toList σ:=by
   intro K' af;repeat (refine Z0 fun K2 aa=>?_;simp [qf];(repeat (refine ⟨by omega,?_⟩));refine aa _ ?_;clear aa K2)
   exact Z9 af)
  (hn:τ.norm l ns=ff:=by simp [qf];rfl):AW P Mv X G N (.region id ops false) Q σ:=
 aaG (ZZ _) fun K hK=>h K (hK _ (hq _ (hk _ (AW.norm l ns hM (hn ▸ k)))))
end
end Go.Av
namespace Go.Av
section
variable {P:Program} {Mv X:Nat->Prop} {G:ao} {N:Fr} {σ τ:St} {p:Prop}
theorem cI {id:Nat} {ops:Array Oper} {Q:Exit->St->Prop} (k:Q .normal τ)
  (h:∀ K':St->Prop,K' τ->sxf P (bQ P) Mv X G N ops K' ops.toList σ:=by
   intro K' af;repeat (refine Z0 fun K2 aa=>?_;simp;(repeat (refine ⟨by omega,?_⟩));refine aa _ ?_;clear aa K2)
   exact Z9 af):AW P Mv X G N (.region id ops false) Q σ:=
 aaG (ZZ _) fun K hK=>h K (hK _ k)
theorem reQ (q:p) {id:Nat} {ops:Array Oper} {Q:Exit->St->Prop} (k:Q .normal τ)
  (h:p->∀ K':St->Prop,K' τ->sxf P (bQ P) Mv X G N ops K' ops.toList σ:=by
   intro q K' af;repeat (refine Z0 fun K2 aa=>?_;simp [q];(repeat (refine ⟨by omega,?_⟩));refine aa _ ?_;clear aa K2)
   exact Z9 af):AW P Mv X G N (.region id ops false) Q σ:=
 aaG (ZZ _) fun K hK=>h q K (hK _ k)
theorem wX {id:Nat} {ops:Array Oper} {Q:Exit->St->Prop} (k:Q .normal τ)
  (h:∀ K':St->Prop,K' τ->sxf P (bQ P) Mv X G N ops K' ops.toList σ:=by
   intro K' af;repeat (refine Z0 fun K2 aa=>?_;simp [qf];(repeat (refine ⟨by omega,?_⟩));refine aa _ ?_;clear aa K2)
   exact Z9 af):AW P Mv X G N (.region id ops false) Q σ:=
 aaG (ZZ _) fun K hK=>h K (hK _ k)
theorem dX (r:Nat) {c:Code} {Q:Exit->St->Prop} (k:AW P Mv X G N c Q τ) (hM:Mv r:=by first | trivial | decide) (hn:σ.na r=τ:=by simp;rfl):AW P Mv X G N c Q σ:=
 AW.imp (Z1.na r hM) (hn ▸ k)
theorem ck (q:p) (r:Nat) {c:Code} {Q:Exit->St->Prop} (k:AW P Mv X G N c Q τ) (hM:Mv r:=by first | trivial | decide) (hn:p->σ.na r=τ:=by intro q;simp [q];rfl):AW P Mv X G N c Q σ:=
 AW.imp (Z1.na r hM) (hn q ▸ k)
theorem gm {Q:Exit->St->Prop} (h:Q .ret σ:=by simp [D.le,D.le.go,aB,D.le_refl,D.bn]):AW P Mv X G N .ret Q σ:=bk h
theorem aK (q:p) {Q:Exit->St->Prop} (h:p->Q .ret σ:=by intro q;simp [D.le,D.le.go,aB,D.le_refl,D.bn,q]):AW P Mv X G N .ret Q σ:=bk (h q)
theorem cw {e:Env} {H:Heap} {l:List (Nat×AV)} {rows:List (Nat×Row)} (hm:∀ r,(rows.map (·.1)).contains r=false->Mv r:=by first | exact fun _ _=>trivial | exact cC rfl)
  (he:∀ p∈l,(e p.1).map (AV.tr (du (rows.map (·.1))) (dt (rows.map (·.1))))=some p.2:=by simp)
  (hH:∀ p∈rows,(H p.1).map (Row.tr (du (rows.map (·.1))) (dt (rows.map (·.1))))=ZX rows p.1:=by simp):Z1 Mv X G N ⟨e,H⟩ ⟨aX l,ZX rows⟩:=Z1.dK hm he hH
theorem aU (q:p) {e:Env} {H:Heap} {l:List (Nat×AV)} {rows:List (Nat×Row)} (hm:∀ r,(rows.map (·.1)).contains r=false->Mv r:=by first | exact fun _ _=>trivial | exact cC rfl)
  (he:p->∀ p∈l,(e p.1).map (AV.tr (du (rows.map (·.1))) (dt (rows.map (·.1))))=some p.2:=by intro q;simp [q])
  (hH:p->∀ p∈rows,(H p.1).map (Row.tr (du (rows.map (·.1))) (dt (rows.map (·.1))))=ZX rows p.1:=by intro q;simp [q]):Z1 Mv X G N ⟨e,H⟩ ⟨aX l,ZX rows⟩:=Z1.dK hm (he q) (hH q)
end
end Go.Av
namespace Go.Av
def ke (T:Ty) (G:ao) (e:Env) (o:Oper):Option (Prop×D):=match o.op,o.dst with
 | .box _ x,some _=>match (bd G e x).bind fS with
  | some cs=>match iq cs with
   | some ds=>some (True,.ip ds)
   | none=>none
  | none=>none
 | .buildSlice t len parts,some _=>match T t with
  | some tt=>match tt.desc with
   | .slice q=>match T q,jq G e parts.toList with
    | some te,some ps=>match o9 te.size 0 ps with
     | some els=>some (ps.length=len/\0 < te.size/\len * te.size<=16777216,.sl none els)
     | none=>none
    | _,_=>none
   | _=>none
  | none=>none
 | .makeSlice t l c,some _=>match T t with
  | some tt=>match tt.desc with
   | .slice q=>match T q,bd G e l,bd G e c with
    | some te,some (.d (.v (.int _ n))),some (.d (.v (.int _ m)))=>some (0<=n/\n<=m/\te.bytes * m<=281474976710656/\m<=9223372036854775807/\0 < te.size/\(gB te.zero).length=te.size,.sl none (lz te n.toNat))
    | _,_,_=>none
   | _=>none
  | none=>none
 | _,_=>none
section
variable {P:Program} {T:Ty} {Mv X:Nat->Prop} {G:ao} {N:Fr} {w:World} {μ:Mu} {a:Act} {σ:St}
theorem jO {o:Oper} {e e':Env} (h:fg o.op e e'):ke T G e o=ke T G e' o:=by
 obtain ⟨dst,op,type,pos,after,guard⟩:=o;unfold fg at h;dsimp only at h;unfold ke
 cases op<;>try rfl
 case box t x=>
  cases dst with
  | none=>rfl
  | some d=>
   dsimp only;rw [aaH (x:=x) fun t ht=>h t (by simp [Op.operands,ht])]
 case buildSlice t n ps=>
  cases dst with
  | none=>rfl
  | some d=>
   dsimp only;rw [xR (l:=ps.toList) fun t ht=>h t (by simpa [Op.operands] using ht)]
 case makeSlice t x y=>
  cases dst with
  | none=>rfl
  | some d=>
   dsimp only;rw [aaH (x:=x) fun t ht=>h t (by simp [Op.operands,ht]),aaH (x:=y) fun t ht=>h t (by simp [Op.operands,ht])]
theorem DR (hi:In w X G μ N a σ):¬ XX X μ w.heap.size:=by
 rintro (h | h)
 .exact Nat.lt_irrefl _ (hi.aS.fits _ h)
 .exact Nat.lt_irrefl _ (hi.aS.iS h)
theorem DQ (w:World) (cur:Array Value) (t:TypeId) {o:Nat} {v:Value} (h:cur[o]? = some v):(w.alloc (.cells cur t)).cell? ⟨w.heap.size,o,none⟩=some v:=by
 rw [cell_of_row _ w.heap.size o cur t (0,0) (by simpa using heap_alloc_new w (.cells cur t))];exact h
theorem F4 (hg:Good P T) (hi:In w X G μ N a σ) {o:Oper} {c:Prop} {y:D} (h:ke T G σ.env o=some (c,y)) (hc:c) :
  ∃ v w',(execOp a.eval o).run P w = .ok (.value v) w'/\In w' X G μ N a σ/\RV w' X μ v (.d y)/\Ev Mv w μ w' μ:=by
 obtain ⟨dst,op,type,pos,after,guard⟩:=o;unfold ke at h;dsimp only at h;split at h
 .rename_i t x d;split at h
  .rename_i cs bW;obtain ⟨z,hz,he⟩:=Option.bind_eq_some_iff.1 bW;split at h
   .rename_i ds iZ;simp only [Option.some.injEq,Prod.mk.injEq] at h;obtain ⟨rfl,rfl⟩:=h;have hp:=ui (hi.eval hz) he;rw [k7 iZ] at hp;obtain ⟨aC,aG⟩:=hi.jR (Mv:=Mv) (bU.alloc w (.cells (a.eval x).cells t));refine ⟨.pointer (some ⟨w.heap.size,0,none⟩),_,by simp [execOp,Instr.box,newVar,newRow],aC,.d (.ip (f:=fun j=>(a.eval x).cells.getD j undef) (DR hi) (by simp) (fun j hj=>?_) fun j c hj=>?_),aG⟩
    .have ax:j < (a.eval x).cells.size:=by rw [hp.size];simpa using hj
     exact DQ w _ t (by simp [Array.getD_eq_getD_getElem?,ax])
    .have ax:j < (a.eval x).cells.size:=by rw [hp.size];simpa using (List.getElem?_eq_some_iff.1 hj).1
     have:=(hp.at_ j _ (.d c) (Array.getElem?_eq_getElem ax) (by rw [List.getElem?_map,hj];rfl)).data;rw [Array.getD_eq_getD_getElem?,Array.getElem?_eq_getElem ax];exact this.ev aG
   .cases h
  .cases h
 .rename_i t len parts d;split at h
  .rename_i tt htt;split at h
   .rename_i q cE;split at h
    .rename_i te ps b9 hps;split at h
     .rename_i els qU;simp only [Option.some.injEq,Prod.mk.injEq] at h;obtain ⟨rfl,rfl⟩:=h;obtain ⟨g2,g3,g4⟩:=hc;obtain ⟨hv,hr⟩:=hi.jq hps;have hu:=hg.cu (w:=w) htt;have aI:=hg.sizeOf (w:=w) b9;have wg:=hg.zero (w:=w) b9
      obtain ⟨abK,hf,pK,_,hl,bx,je⟩:=Gr (w:=w) (X:=X) (μ:=μ) (sz:=te.size) ps (parts.toList.map fun p=>(p.1,a.eval p.2)) 0 els ((Array.range (len * te.size)).map ((if len * te.size=0 then #[] else te.zero.cells)[· % (if len * te.size=0 then #[] else te.zero.cells).size]!)) qU hv
       (fun i p v h1 h2=>hr i p v h1 h2) (by simp [g2])
      have hn:¬ len * te.size > 2 ^ 24:=by omega
      have e0:∀ f:Nat->Value,(Array.range 0).map f = #[]:=fun f=>by apply Array.ext<;>simp
      have nr:abK.size=len * te.size:=by rw [pK];simp
      have hlen:els.length=len:=by omega
      obtain ⟨aC,aG⟩:=hi.jR (Mv:=Mv) (bU.alloc w (.cells abK q))
      have bK:(Instr.buildSlice t len (parts.map fun p=>(p.1,a.eval p.2))).run P w = .ok (.slice (some ⟨w.heap.size,0,none⟩) len len) (w.alloc (.cells abK q)):=by
       by_cases h0:len * te.size=0
       .simp only [h0,if_true,e0] at hf;simp only [Instr.buildSlice,Sem.run_bind,hu,cE,Result.andThen_ok,aI,hn,if_false,h0,if_true,Sem.run_pure,e0];simp [hf,newRow]
       .simp only [h0,if_false] at hf;simp only [Instr.buildSlice,Sem.run_bind,hu,cE,Result.andThen_ok,aI,hn,if_false,h0,Sem.run_pure,wg];simp [hf,newRow]
      have ab6:len<=maxLen:=by
       have:len<=len * te.size:=Nat.le_mul_of_pos_right _ g3;unfold maxLen;omega
      refine ⟨.slice (some ⟨w.heap.size,0,none⟩) len len,_,by simp [execOp,bK],aC,.d ?_,aG⟩;by_cases h0:len=0
      .subst h0;obtain rfl:=List.eq_nil_of_length_eq_zero hlen;exact .empty (by simp) ab6
      .refine .sl (sz:=te.size) (f:=fun i j=>abK.getD (i * te.size+j) undef) (by simp) hlen (Nat.le_refl _) ab6 (DR hi) bx g3 (by omega) (fun i j da hj=>?_) fun i j el c h1 h2=>?_
       .have ax:i * te.size+j < abK.size:=by
         rw [nr];have:(i+1) * te.size<=len * te.size:=Nat.mul_le_mul_right _ da;rw [Nat.add_mul] at this;omega
        rw [Nat.zero_add];exact DQ w _ q (by simp [Array.getD_eq_getD_getElem?,ax])
       .obtain ⟨u,hu',bz⟩:=je i j el c h1 h2;rw [Nat.zero_add] at hu';rw [Array.getD_eq_getD_getElem?,hu'];exact bz.ev aG
     .cases h
    .cases h
   .cases h
  .cases h
 .rename_i t l c d;split at h
  .rename_i tt htt;split at h
   .rename_i q cE;split at h
    .rename_i te k1 n k2 m b9 hl hcc;simp only [Option.some.injEq,Prod.mk.injEq] at h;obtain ⟨rfl,rfl⟩:=h;obtain ⟨h0,h1,h2,h3,hz,oR⟩:=hc;have el:a.eval l = .int k1 n:=(hi.eval hl).scalar;have ec:a.eval c = .int k2 m:=(hi.eval hcc).scalar;obtain ⟨hu,i0,jc,hs0,hb0,j0,_⟩:=hg q te b9;have ht:=(hg t tt htt).1;rw [cE] at ht;have bK:=run_make (P:=P) w t q i0 te.zero ht jc j0 k1 k2 n m h0 h1 (by rw [hb0];exact h2) h3;rw [hs0] at bK;have aI:=size_madeCells te.zero.cells (m.toNat * te.size);obtain ⟨aC,aG⟩:=hi.jR (Mv:=Mv) (bU.alloc w (.cells (madeCells te.zero.cells (m.toNat * te.size)) q));refine ⟨.slice (some ⟨w.heap.size,0,none⟩) n.toNat m.toNat,_,by simp [execOp,el,ec,bK],aC,.d ?_,aG⟩;by_cases hn0:n.toNat=0
     .rw [show lz te n.toNat=[] by rw [hn0];rfl,hn0];exact .empty (by simp) (by unfold maxLen;omega)
     .have oQ:=aea (w:=w) (X:=XX X μ) te.zero
      have bW:te.zero.cells.size=te.size:=by rw [oQ.1,oR]
      have adQ:∀ i j,i < n.toNat->j < te.size->i * te.size+j < m.toNat * te.size:=fun i j da hj=>by
       have:(i+1) * te.size<=m.toNat * te.size:=Nat.mul_le_mul_right _ (by omega);rw [Nat.add_mul] at this;omega
      refine .sl (sz:=te.size) (f:=fun i j=>(madeCells te.zero.cells (m.toNat * te.size)).getD (i * te.size+j) undef) (by simp) (by simp [lz]) (by omega) (by unfold maxLen;omega) (DR hi) (fun el ba=>by rw [List.eq_of_mem_replicate ba,oR]) hz (by omega) (fun i j da hj=>?_) fun i j el d ba hd=>?_
      .rw [Nat.zero_add];exact DQ w _ q (by simp [Array.getD_eq_getD_getElem?,aI,adQ i j da hj])
      .unfold lz at ba;rw [List.getElem?_replicate] at ba;split at ba
       .rename_i ax;obtain rfl:=Option.some.inj ba
        have hj:j < te.size:=by rw [<- oR];exact (List.getElem?_eq_some_iff.1 hd).1
        have vy:j < te.zero.cells.size:=by omega
        have hb:=adQ i j ax hj
        have kN:(i * te.size+j) % te.size=j:=by rw [Nat.mul_comm,Nat.mul_add_mod,Nat.mod_eq_of_lt hj]
        have hv:(madeCells te.zero.cells (m.toNat * te.size)).getD (i * te.size+j) undef=te.zero.cells[j]:=by
         simp [Array.getD_eq_getD_getElem?,madeCells,hb,bW,kN];exact getElem!_pos te.zero.cells j vy
        rw [hv];exact (oQ.2 j _ d (by simp [vy]) hd).ev aG
       .cases ba
    .cases h
   .cases h
  .cases h
 .cases h
variable {ops:Array Oper} {db:List Nat}
def acA (P:Program) (T:Ty) (Mv:Nat->Prop) (G:ao) (N:Fr) (db:List Nat) (i:Nat) (o:Oper) (σ ar:St):Prop:=
 eQ N o/\o.guard=none/\((db.contains i=true/\∃ c y,ke T G σ.env o=some (c,y)/\c/\ar=⟨Z2 σ.env o.dst (.d y),σ.H⟩)\/
  (db.contains i=false/\kindOf o.op≠9/\∃ x H',Ex P T Mv G o σ.env σ.H x H'/\ar=⟨Z2 σ.env o.dst x,H'⟩))
theorem acA.ok (hg:Good P T) {o:Oper} {i:Nat} {ar:St} (h:acA P T Mv G N db i o σ ar) (hi:In w X G μ N a σ) (ho:ops[i]? = some o) {Q:Exit->Act->World->Prop} {K:Act->World->Prop}
  (hk:∀ w' au a',In w' X G au N a' ar->Ev Mv w μ w' au->K a' w'):wpOpIn (wd N.ro) 0 P ops Q i K a w:=by
 obtain ⟨hd,c8,h⟩:=h
 have gu:∀ d,o.dst=some d->d < N.n:=fun d e=>by unfold eQ at hd;rw [e] at hd;exact hd
 rcases h with ⟨_,c,y,h1,h2,rfl⟩ | ⟨_,h9,x,H',h1,rfl⟩
 .unfold wpOpIn;simp only [ho];rw [r5 hi (af8 c8),if_pos rfl];refine uj (fun c e=>by simp [ke,e] at h1) ?_;obtain ⟨v,w',hr,aC,e9,aG⟩:=F4 (Mv:=Mv) hg hi h1 h2;unfold Oper.wp;rw [hr];exact hk _ μ _ (aC.put e9 gu) aG
 .exact ad8 hg ⟨hd,.inl ⟨af8 c8,h1.to⟩⟩ hi ho hk
def qu (db:List Nat) (ops:Array Oper) (i j:Nat) (oi oj:Oper):Bool:=oi.apart ops oj && (db.contains i || db.contains j || oU (kindOf oi.op) (kindOf oj.op))
theorem Gs {i j:Nat} {oi oj:Oper} (hc:qu db ops i j oi oj=true) {σ aH eu:St} (h1:acA P T Mv G N db i oi σ aH) (h2:acA P T Mv G N db j oj aH eu) :
  ∃ eT,acA P T Mv G N db j oj σ eT/\acA P T Mv G N db i oi eT eu:=by
 simp only [qu,Bool.and_eq_true] at hc;obtain ⟨eJ,fH⟩:=hc;obtain ⟨di,gi,h1⟩:=h1;obtain ⟨dj,gj,h2⟩:=h2;have dV:∀ v,fg oj.op (Z2 σ.env oi.dst v) σ.env:=fun v t ht=>(abn eJ (e:=σ.env) (v:=v)).1 t (il ht);have eG:∀ v,fg oi.op σ.env (Z2 σ.env oj.dst v):=fun v t ht=>((abn eJ (e:=σ.env) (v:=v)).2.1 t (il ht)).symm;have aL:=(abn eJ (e:=σ.env) (v:=cu)).2.2
 rcases h1 with ⟨bi,c,y,e1,c1,rfl⟩ | ⟨bi,k1,x,H',e1,rfl⟩
 .rcases h2 with ⟨bj,c',z,e2,c2,rfl⟩ | ⟨bj,k2,z,H2,e2,rfl⟩
  .rw [jO (dV _)] at e2;refine ⟨⟨Z2 σ.env oj.dst (.d z),σ.H⟩,⟨dj,gj,.inl ⟨bj,c',z,e2,c2,rfl⟩⟩,di,gi,.inl ⟨bi,c,y,?_,c1,?_⟩⟩
   .rw [<- jO (eG _)];exact e1
   .rw [fm aL]
  .refine ⟨⟨Z2 σ.env oj.dst z,H2⟩,⟨dj,gj,.inr ⟨bj,k2,z,H2,e2.congr k2 (dV _),rfl⟩⟩,di,gi,.inl ⟨bi,c,y,?_,c1,?_⟩⟩
   .rw [<- jO (eG _)];exact e1
   .rw [fm aL]
 .rcases h2 with ⟨bj,c',z,e2,c2,rfl⟩ | ⟨bj,k2,z,H2,e2,rfl⟩
  .rw [jO (dV _)] at e2;refine ⟨⟨Z2 σ.env oj.dst (.d z),σ.H⟩,⟨dj,gj,.inl ⟨bj,c',z,e2,c2,rfl⟩⟩,di,gi,.inr ⟨bi,k1,x,H',e1.congr k1 (eG _),?_⟩⟩;rw [fm aL]
  .rw [bi,bj] at fH
   have hcc:abo ops oi oj=true:=by simp only [abo,Bool.and_eq_true];exact ⟨eJ,by simpa using fH⟩
   obtain ⟨H3,f1,f2⟩:=adN (N:=N) hcc ⟨di,.inl ⟨af8 gi,e1⟩⟩ ⟨dj,.inl ⟨af8 gj,e2⟩⟩ k1 k2
   have un:∀ {o:Oper} {e:Env} {H H':Heap} {x:AV},o.guard=none->Sx P T Mv G N ops o e H x H'->Ex P T Mv G o e H x H':=fun c8 h=>by
    rcases h.2 with ⟨_,h⟩ | ⟨hw,_⟩
    .exact h
    .rw [af8 c8] at hw;cases hw
   refine ⟨⟨Z2 σ.env oj.dst z,H3⟩,⟨dj,gj,.inr ⟨bj,k2,z,H3,un gj f1,rfl⟩⟩,di,gi,.inr ⟨bi,k1,x,H2,un gi f2,?_⟩⟩;rw [fm aL]
def tT (P:Program) (T:Ty) (Mv:Nat->Prop) (G:ao) (N:Fr) (db:List Nat) (ops:Array Oper):List Nat->St->St->Prop
 | [],σ,ar=>σ=ar
 | i :: l,σ,ar=>∃ o,ops[i]? = some o/\∃ aH,acA P T Mv G N db i o σ aH/\tT P T Mv G N db ops l aH ar
theorem Wf {p:Nat} {op:Oper} (hp:ops[p]? = some op):∀ (l1:List Nat) {l2:List Nat} {σ ar:St},(∀ q∈l1,∀ oq,ops[q]? = some oq->qu db ops q p oq op=true)->tT P T Mv G N db ops (l1 ++ p :: l2) σ ar->tT P T Mv G N db ops (p :: (l1 ++ l2)) σ ar:=by
 intro l1
 induction l1 with
 | nil=>intro l2 σ ar _ h;exact h
 | cons q l1 ih=>
  intro l2 σ ar bx h;obtain ⟨oq,hq,aH,s1,rest⟩:=h;obtain ⟨o',eB,eu,s2,oW⟩:=ih (fun q' hq'=>bx q' (by simp [hq'])) rest;rw [hp] at eB;obtain rfl:=Option.some.inj eB;obtain ⟨eT,f1,f2⟩:=Gs (bx q (by simp) oq hq) s1 s2;exact ⟨op,hp,eT,f1,oq,hq,eu,f2,oW⟩
def tK (db:List Nat) (ord:List Nat) (ops:Array Oper):Bool:=
 let t:=tb ops
 ord.length == ops.size && (ord.all fun i=>decide (i < ops.size)) && ((List.range ops.size).all fun i=>ord.contains i) && decide ord.Nodup &&
 ((List.range ops.size).all fun j=>match ops[j]? with
  | some oj=>oj.after.all fun e=>!Region.binds .any e || e.on < j
  | none=>true) &&
 go t ord
where
 go (t:List Nat):List Nat->Bool
 | []=>true
 | a :: l=>(l.all fun b=>match ops[a]?,ops[b]? with
  | some oa,some ob=>(oa.after.all fun e=>!Region.binds .any e || !(e.on == b)) && ((t.getD b 0).testBit a || qu db ops a b oa ob)
  | _,_=>true) && go t l
def Az (db:List Nat) (ops:Array Oper) (a b:Nat):Prop:=∀ oa ob,ops[a]? = some oa->ops[b]? = some ob->
 (∀ e∈oa.after,Region.binds .any e=true->e.on≠b)/\(((tb ops).getD b 0).testBit a=true\/qu db ops a b oa ob=true)
theorem Jm:∀ {l:List Nat},tK.go db ops (tb ops) l=true->l.Pairwise (Az db ops)
 | [],_=>.nil
 | a :: l,h=>by
  simp only [tK.go,Bool.and_eq_true] at h;refine .cons (fun b hb oa ob oH mB=>?_) (Jm h.2);have:=List.all_eq_true.1 h.1 b hb;simp only [oH,mB,Bool.and_eq_true,Bool.or_eq_true] at this;refine ⟨fun e he hbi heq=>?_,this.2⟩;have h1:=Array.all_eq_true_iff_forall_mem.1 this.1 e he;simp [hbi,heq] at h1
theorem LV (hg:Good P T) (ax:∀ j oj,ops[j]? = some oj->∀ e∈oj.after,Region.binds .any e=true->e.on < j) {Q:Exit->St->Prop} {w0:World} {fT:Mu} {bp:St} (hQ:Q .normal bp):∀ (n:Nat) (R:List Nat) (listed:Array Bool) (w:World) (μ:Mu) (a:Act) (σ:St),R.length=n->R.Nodup->
  (∀ j,j∈R↔j < ops.size/\listed.getD j true=false)->listed.size=ops.size->R.Pairwise (Az db ops)->
  (∀ j oj,ops[j]? = some oj->listed.getD j false=true->∀ e∈oj.after,Region.binds .any e=true->listed.getD e.on false=true)->tT P T Mv G N db ops R σ bp->In w X G μ N a σ->Ev Mv w0 fT w μ->
  wpAnyIn (wd N.ro) 0 P .any ops (After Mv X G N w0 fT Q) n listed a w:=by
 intro n
 induction n with
 | zero=>
  intro R listed w μ a σ hl _ hR aI _ _ bK hi aG;have:R=[]:=List.eq_nil_of_length_eq_zero hl;subst this
  have hr:Region.ready .any ops listed=[]:=by
   apply List.eq_nil_iff_forall_not_mem.2;intro j hj;obtain ⟨h1,o,ho,_⟩:=mem_ready.1 hj;exact absurd ((hR j).2 ⟨(Array.getElem?_eq_some_iff.1 ho).1,h1⟩) (by simp)
  have:σ=bp:=bK;subst this;exact ⟨hr,μ,σ,hQ,hi,aG⟩
 | succ n ih=>
  intro R listed w μ a σ hl eY hR aI hpw abR bK hi aG;refine ⟨fun hr=>?_,fun i my=>?_⟩
  .cases R with
   | nil=>simp at hl
   | cons j R=>
    obtain ⟨hj1,hC⟩:=(hR j).1 (by simp)
    have bq:ops[j]? = some ops[j]:=by simp [hj1]
    have jw:j∈Region.ready .any ops listed:=by
     refine mem_ready.2 ⟨hC,ops[j],bq,fun e he hb=>?_⟩;have pG:=ax j ops[j] bq e he hb
     have aaq:e.on < ops.size:=by omega
     have aL:e.on ∉ (j :: R):=by
      intro hm
      rcases List.mem_cons.1 hm with h | h
      .omega
      .exact ((List.pairwise_cons.1 hpw).1 _ h ops[j] ops[e.on] bq (by simp [aaq])).1 e he hb rfl
     have:=mt (hR e.on).2 aL
     have gL:e.on < listed.size:=by omega
     simp only [aaq,true_and,Array.getD_eq_getD_getElem?] at this ⊢;simp [gL] at this ⊢;exact this
    rw [hr] at jw;cases jw
  .obtain ⟨hi1,oi,hoi,bx⟩:=mem_ready.1 my;have mv:i∈R:=(hR i).2 ⟨(Array.getElem?_eq_some_iff.1 hoi).1,hi1⟩;obtain ⟨R1,R2,rfl⟩:=List.append_of_mem mv
   have mu:=Wf (P:=P) (T:=T) (Mv:=Mv) (G:=G) (N:=N) (db:=db) hoi R1 (fun q hq oq jA=>by
    have oI:Az db ops q i:=(List.pairwise_append.1 hpw).2.2 q hq i (by simp)
    rcases (oI oq oi jA hoi).2 with h | h
    .exfalso;have jx:=uF ax abR i i oi (Nat.le_refl _) hoi bx q h;have e8:=((hR q).1 (by simp [hq])).2
     have mD:q < listed.size:=by have:=(Array.getElem?_eq_some_iff.1 jA).1;omega
     simp [Array.getD_eq_getD_getElem?,mD] at jx e8;rw [jx] at e8;cases e8
    .exact h) bK
   obtain ⟨o',eB,aH,hstep,b5⟩:=mu;rw [hoi] at eB;obtain rfl:=Option.some.inj eB;refine hstep.ok hg hi hoi fun w' au a' aC iz=>?_
   have mz:(R1 ++ R2).Nodup:=by
    have:=eY;rw [List.nodup_append] at this ⊢;obtain ⟨g1,g2,g3⟩:=this;exact ⟨g1,(List.nodup_cons.1 g2).2,fun x hx y hy=>g3 x hx y (by simp [hy])⟩
   have mw:i ∉ R1 ++ R2:=by
    have:=eY;rw [List.nodup_append] at this;obtain ⟨g1,g2,g3⟩:=this;intro hm
    rcases List.mem_append.1 hm with h | h
    .exact g3 i h i (by simp) rfl
    .exact (List.nodup_cons.1 g2).1 h
   refine ih (R1 ++ R2) _ w' au a' aH (by simp at hl ⊢;omega) mz (fun j=>?_) (by simpa using aI) ?_ ?_ b5 aC (aG.trans iz)
   .by_cases hji:j=i
    .subst hji
     have gL:j < listed.size:=by rw [aI];exact (Array.getElem?_eq_some_iff.1 hoi).1
     simp [gL];simpa using mw
    .rw [getD_set_ne true (Ne.symm hji)];rw [<- hR j];simp [hji]
   .rw [List.pairwise_append] at hpw ⊢;obtain ⟨g1,g2,g3⟩:=hpw;exact ⟨g1,(List.pairwise_cons.1 g2).2,fun x hx y hy=>g3 x hx y (by simp [hy])⟩
   .intro j oj bq hlj e he hb;by_cases hji:j=i
    .subst hji;rw [hoi] at bq;obtain rfl:=Option.some.inj bq;exact getD_set_true (bx e he hb)
    .rw [getD_set_ne false (Ne.symm hji)] at hlj;exact getD_set_true (abR j oj bq hlj e he hb)
def z6 (P:Program) (T:Ty) (Mv:Nat->Prop) (G:ao) (N:Fr) (db:List Nat) (i:Nat) (o:Oper) (σ:St) (K:St->Prop):Prop:=eQ N o/\o.guard=none/\
 if db.contains i=true then (match ke T G σ.env o with
  | some (c,y)=>c/\K ⟨Z2 σ.env o.dst (.d y),σ.H⟩
  | none=>False)
 else kindOf o.op≠9/\match cr o.op with
  | some c=>mj P G c σ.env o.dst σ.H [] [] K
  | none=>p7 T G Mv o σ [] K
def nJ (P:Program) (T:Ty) (Mv:Nat->Prop) (G:ao) (N:Fr) (db:List Nat) (K:St->Prop):List (Nat×Oper)->St->Prop
 | [],σ=>K σ
 | (i,o) :: rest,σ=>z6 P T Mv G N db i o σ (nJ P T Mv G N db K rest)
theorem af2 {K:St->Prop}:∀ (l:List Nat) (σ:St),(∀ i∈l,i < ops.size)->nJ P T Mv G N db K (aak ops l) σ->∃ bp,K bp/\tT P T Mv G N db ops l σ bp:=by
 intro l
 induction l with
 | nil=>intro σ _ h;exact ⟨σ,h,rfl⟩
 | cons i l ih=>
  intro σ hl h;have hi:=hl i (by simp)
  have ho:ops[i]? = some ops[i]:=by simp [hi]
  simp only [aak,ho] at h;generalize ops[i]=o at ho h;simp only [nJ,z6] at h;obtain ⟨hd,c8,h⟩:=h
  have fin:∀ aH,acA P T Mv G N db i o σ aH->nJ P T Mv G N db K (aak ops l) aH->∃ bp,K bp/\tT P T Mv G N db ops (i :: l) σ bp:=fun aH hs h1=>by
   obtain ⟨bp,hk,hr⟩:=ih aH (fun j hj=>hl j (by simp [hj])) h1;exact ⟨bp,hk,o,ho,aH,hs,hr⟩
  split at h
  .rename_i hb;split at h
   .rename_i c y hw;obtain ⟨hc,h⟩:=h;exact fin _ ⟨hd,c8,.inl ⟨hb,c,y,hw,hc,rfl⟩⟩ h
   .exact h.elim
  .rename_i hb
   have hb:db.contains i=false:=by simpa using hb
   obtain ⟨hk,h⟩:=h;split at h
   .rename_i c hc;obtain ⟨y,g,ds,ht,hp,e7,h⟩:=h;refine fin _ ⟨hd,c8,.inr ⟨hb,hk,.d y,σ.H,?_,rfl⟩⟩ h;unfold Ex;simp only [hc];exact ⟨y,⟨g,_,ht,.inl ⟨ds,rfl,hp⟩⟩,rfl,trivial⟩
   .rename_i hc;unfold p7 at h;split at h
    .rename_i hw;split at h
     .rename_i c x aH h1;obtain ⟨hcc,e7,h⟩:=h;have he:=ad9 hk h1;obtain ⟨e,H⟩:=σ;obtain ⟨e1,H1⟩:=aH;dsimp only at he;subst he;refine fin _ ⟨hd,c8,.inr ⟨hb,hk,x,H1,?_,rfl⟩⟩ h;unfold Ex;simp only [hc];rw [if_pos hw];exact ⟨c,h1,hcc⟩
     .exact h.elim
    .rename_i hw;split at h
     .rename_i c x h1;obtain ⟨hcc,e7,h⟩:=h;refine fin _ ⟨hd,c8,.inr ⟨hb,hk,x,σ.H,?_,rfl⟩⟩ h;unfold Ex;simp only [hc];rw [if_neg hw];exact ⟨c,h1,hcc,trivial⟩
     .exact h.elim
theorem Fa (hg:Good P T) (hm:P.follows .mixedOrders=true) (db:List Nat) (ord:List Nat) {id:Nat} (hok:tK db ord ops=true) {Q:Exit->St->Prop} {σ:St} (h:nJ P T Mv G N db (fun ar=>Q .normal ar) (aak ops ord) σ):AW P Mv X G N (.region id ops true) Q σ:=fun w μ a hi=>by
 unfold tK at hok;simp only [Bool.and_eq_true] at hok;obtain ⟨⟨⟨⟨⟨h1,h2⟩,h3⟩,h4⟩,h5⟩,h6⟩:=hok
 have hlen:ord.length=ops.size:=by simpa using h1
 have ax:∀ i∈ord,i < ops.size:=fun i hi=>by simpa using List.all_eq_true.1 h2 i hi
 have bx:∀ i,i < ops.size->i∈ord:=fun i hi=>by simpa using List.all_eq_true.1 h3 i (List.mem_range.2 hi)
 have eY:ord.Nodup:=by simpa using h4
 have oA:∀ j oj,ops[j]? = some oj->∀ e∈oj.after,Region.binds .any e=true->e.on < j:=fun j oj bq e he hb=>by
  have:=List.all_eq_true.1 h5 j (List.mem_range.2 (Array.getElem?_eq_some_iff.1 bq).1);simp only [bq] at this;have:=Array.all_eq_true_iff_forall_mem.1 this e he;simpa [hb] using this
 obtain ⟨bp,hQ,bK⟩:=af2 ord σ ax h;refine wpIn_region_any hm ?_;obtain ⟨aC,aG⟩:=hi.jR (Mv:=Mv) (bU.drew w);refine LV hg oA hQ ops.size ord _ w.drew μ a σ hlen eY (fun j=>?_) (by simp) (Jm h6) ?_ bK aC aG
 .constructor
  .intro hj;have:=ax j hj;simp [Array.getD_eq_getD_getElem?,this]
  .intro hj;exact bx j hj.1
 .intro j oj bq hlj;have hj:=(Array.getElem?_eq_some_iff.1 bq).1;simp [Array.getD_eq_getD_getElem?,hj] at hlj
theorem r9 (hg:Good P T) (hm:P.follows .mixedOrders=true) (db:List Nat) (ord:List Nat) (l ns:List Nat) (hM:∀ r,ns.contains r=false->Mv r) {id:Nat} (hok:tK db ord ops=true) {y:Code} {Q:Exit->St->Prop} {σ:St}
  (h:∀ K:St->Prop,(∀ τ:St,AW P Mv X G N y Q (τ.norm l ns)->K τ)->nJ P T Mv G N db K (aak ops ord) σ):AW P Mv X G N (.seq (.region id ops true) y) Q σ:=
 nP (Fa hg hm db ord hok (h _ fun _ h=>h.norm l ns hM))
theorem Lv (hg:Good P T) (hm:P.follows .mixedOrders=true) (db:List Nat) (ord:List Nat) {id:Nat} (hok:tK db ord ops=true) {Q:Exit->St->Prop} {σ:St}
  (h:∀ K:St->Prop,(∀ τ:St,Q .normal τ->K τ)->nJ P T Mv G N db K (aak ops ord) σ):AW P Mv X G N (.region id ops true) Q σ:=Fa hg hm db ord hok (h _ fun _ h=>h)
theorem adl {K:St->Prop} {i:Nat} {l:List Nat} {o:Oper} (ho:ops[i]? = some o) (h:∀ K':St->Prop,(∀ τ,nJ P T Mv G N db K (aak ops l) τ->K' τ)->z6 P T Mv G N db i o σ K'):nJ P T Mv G N db K (aak ops (i :: l)) σ:=by
 have:aak ops (i :: l)=(i,o) :: aak ops l:=by simp [aak,ho]
 rw [this];exact h _ fun _ h=>h
theorem r3 {K:St->Prop} (h:K σ):nJ P T Mv G N db K (aak ops []) σ:=h
end
attribute [simp] z6 ke
end Go.Av
namespace Go.Av
def Ia:Op->Bool
 | .insert _ _ _ _=>true
 | _=>false
def zz (G:ao) (e:Env) (o:Op) (r:Nat):Prop:=match o with
 | .insert _ m _ _=>bd G e m=some (.mp r)
 | _=>False
def ue (G:ao) (fp:List (Nat×Nat)) (e:Env) (i:Nat) (o:Op):Prop:=match fp.lookup i with
 | some r=>if Ia o=true then zz G e o r else p4 G e o r
 | none=>True
section
variable {P:Program} {T:Ty} {Mv X:Nat->Prop} {G:ao} {N:Fr} {ops:Array Oper} {fp:List (Nat×Nat)} {cn:List Nat}
theorem Ex.Xm {o:Oper} {e:Env} {H H':Heap} {x:AV} {r:Nat} (ht:zz G e o.op r) (h:Ex P T Mv G o e H x H') :
  ∃ u,H'=abH H r u/\∀ H2,H2 r=H r->Ex P T Mv G o e H2 x (abH H2 r u):=by
 obtain ⟨dst,op,type,pos,after,guard⟩:=o;dsimp only at ht;cases op<;>simp only [zz] at ht
 case insert t m k v=>
  unfold Ex at h;simp only [cr,aaU,if_true] at h;obtain ⟨c,h1,h3⟩:=h
  cases dst with
  | some d=>simp [wr] at h1
  | none=>
   simp only [wr,ht] at h1;split at h1
   .rename_i q key y hm hk hv;simp only [Option.some.injEq,AV.mp.injEq] at hm;subst hm;split at h1
    .rename_i ty ents hr;split at h1
     .rename_i c' ab9 hp;simp only [Option.some.injEq,Prod.mk.injEq,St.mk.injEq,true_and] at h1;obtain ⟨rfl,rfl,rfl⟩:=h1;refine ⟨some (.mp ty ab9),rfl,fun H2 h2=>?_⟩;unfold Ex;simp only [cr,aaU,if_true];exact ⟨_,by simp only [wr,ht,hk,hv,h2,hr,hp];rfl,h3⟩
     .cases h1
    .cases h1
   .cases h1
theorem Ex.ue {o:Oper} {e:Env} {H H':Heap} {x:AV} {r i:Nat} (hr:fp.lookup i=some r) (ht:Av.ue G fp e i o.op) (h:Ex P T Mv G o e H x H') :
  ∃ u,H'=abH H r u/\∀ H2,H2 r=H r->Ex P T Mv G o e H2 x (abH H2 r u):=by
 unfold Av.ue at ht;simp only [hr] at ht;split at ht
 .exact h.Xm ht
 .exact h.xf ht
theorem Ex.call {o:Oper} {e:Env} {H H':Heap} {x:AV} (hn:cr o.op≠none) (h:Ex P T Mv G o e H x H'):H'=H:=by
 cases hc:cr o.op with
 | none=>exact absurd hc hn
 | some c=>
  unfold Ex at h;simp only [hc] at h;exact h.choose_spec.2.2
def Fo (P:Program) (T:Ty) (Mv:Nat->Prop) (G:ao) (N:Fr) (ops:Array Oper) (fp:List (Nat×Nat)) (cn:List Nat) (cl:List (Nat×AV)) (i:Nat) (o:Oper) (σ ar:St):Prop:=
 kindOf o.op≠9/\(∃ x H',Sx P T Mv G N ops o σ.env σ.H x H'/\ar=⟨Z2 σ.env o.dst x,H'⟩/\(cr o.op≠none->fA ops σ.env o=some true->cl.lookup i=some x)/\(cn.contains i=true->fA ops σ.env o=some true->cr o.op≠none/\∀ H2,Ex P T Mv G o σ.env H2 x H2))/\(fA ops σ.env o=some true->ue G fp σ.env i o.op)
theorem Fo.to {cl:List (Nat×AV)} {i:Nat} {o:Oper} {σ ar:St} (h:Fo P T Mv G N ops fp cn cl i o σ ar):adK P T Mv G N ops o σ ar:=by
 obtain ⟨hk,⟨x,H',hs,e,_,_⟩,_⟩:=h;exact (oY hk).2 ⟨x,H',hs,e⟩
variable {cl:List (Nat×AV)}
def A0 (P:Program) (G:ao) (cl:List (Nat×AV)) (i:Nat) (c:Call) (σ:St) (dst:Option Tmp) (next:St->Prop):Prop:=∃ y,cl.lookup i=some (.d y)/\(∀ H2,uH P G ⟨σ.env,H2⟩ c y)/\next ⟨Z2 σ.env dst (.d y),σ.H⟩
theorem A0.data {i:Nat} {c:Call} {σ:St} {g:FuncId} {xs:List AV} {ds ds':List D} {y:D} {dst:Option Tmp} {next:St->Prop} (hc:aw P G g ds y) (hcl:cl.lookup i=some (.d y)) (ht:tgt G σ.env c=some (g,xs)) (hx:iq xs=some ds') (hle:D.le.go ds' ds) (h:next ⟨Z2 σ.env dst (.d y),σ.H⟩):A0 P G cl i c σ dst next:=
 ⟨y,hcl,fun _=>⟨g,xs,ht,.inl ⟨ds',k7 hx,hc.mR hle⟩⟩,h⟩
def KO (P:Program) (T:Ty) (Mv:Nat->Prop) (G:ao) (N:Fr) (ops:Array Oper) (fp:List (Nat×Nat)) (cn:List Nat) (cl:List (Nat×AV)) (i:Nat) (o:Oper) (σ:St) (K:St->Prop):Prop:=eQ N o/\kindOf o.op≠9/\match fA ops σ.env o with
 | some b=>if b=true then ue G fp σ.env i o.op/\(match cr o.op with
  | some c=>A0 P G cl i c σ o.dst K
  | none=>cn.contains i=false/\lC T G Mv o σ K) else K ⟨Z2 σ.env o.dst cu,σ.H⟩
 | none=>False
attribute [simp] KO ue Ia zz
end
end Go.Av
namespace Go.Av
def LI (P:Program) (t:TypeId) (name:String) (g:FuncId):Prop:=∀ (v:Value) (w:World),(invoke (.fn (.method name) #[]) #[.iface t v]).run P w = .ok (.enter g #[v]) w
def H9:Op->Option (Operand×String)
 | .call { callee:=.invoke r name,args:=az,argTypes:=_ }=>if az.isEmpty then some (r,name) else none
 | _=>none
def WS (P:Program) (T:Ty) (Mv X:Nat->Prop) (G:ao) (N:Fr) (ops:Array Oper) (o:Oper) (σ:St) (K:St->Prop):Prop:=eQ N o/\match fA ops σ.env o with
 | some b=>if b=true then (match H9 o.op with
  | some (r,name)=>∃ t x g,bd G σ.env r=some (.d (.br t x))/\LI P t name g/\aap P Mv X G N g [.d x] σ o.dst K
  | none=>jr P T Mv X G N o σ K) else K ⟨Z2 σ.env o.dst cu,σ.H⟩
 | none=>False
section
variable {P:Program} {T:Ty} {Mv X:Nat->Prop} {G:ao} {N:Fr} {w:World} {μ:Mu} {a:Act} {σ:St}
attribute [simp] WS H9 jr
end
end Go.Av
