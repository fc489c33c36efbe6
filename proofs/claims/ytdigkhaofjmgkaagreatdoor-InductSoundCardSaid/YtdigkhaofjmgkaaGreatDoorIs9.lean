/- Parts. -/
import Derived.Test.YtdigkhaofjmgkaaGreatDoorIs8
set_option linter.unusedSectionVars false
set_option linter.unusedSimpArgs false
set_option linter.unusedVariables false
namespace Go.Av
theorem Aq {p q:Prop} (h:p) (k:q):p/\q:=⟨h,k⟩
section
variable {P:Program} {Mv X:Nat->Prop} {G:YI} {N:Fr} {σ τ ey:St} {p:Prop}
theorem al (l ns:List Nat) {id:Nat} {ops:Array Oper} {y:Code} {Q:Exit->St->Prop} (k:AW P Mv X G N y Q ey)
  (hM:∀ r,ns.contains r=false->Mv r:=by first | exact fun _ _=>trivial | exact cH rfl)
  (h:∀ K':St->Prop,K' τ->fH P (bX P) Mv X G N ops K' ops.toList σ:=by
   intro K' ah;repeat (refine aJ fun K2 aa=>?_;simp;(repeat (refine⟨by omega,?_⟩));refine aa _ ?_;clear aa K2)
   exact YZ ah)
  (hn:τ.norm l ns=ey:=by simp;rfl):AW P Mv X G N (.seq (.region id ops false) y) Q σ:=
 rg l ns hM fun K hK=>h K (hK _ (hn ▸ k))
theorem ab (q:p) (l ns:List Nat) {id:Nat} {ops:Array Oper} {y:Code} {Q:Exit->St->Prop} (k:AW P Mv X G N y Q ey)
  (hM:∀ r,ns.contains r=false->Mv r:=by first | exact fun _ _=>trivial | exact cH rfl)
  (h:p->∀ K':St->Prop,K' τ->fH P (bX P) Mv X G N ops K' ops.toList σ:=by
   intro q K' ah;repeat (refine aJ fun K2 aa=>?_;simp[q];(repeat (refine⟨by omega,?_⟩));refine aa _ ?_;clear aa K2)
   exact YZ ah)
  (hn:p->τ.norm l ns=ey:=by intro q;simp[q];rfl):AW P Mv X G N (.seq (.region id ops false) y) Q σ:=
 rg l ns hM fun K hK=>h q K (hK _ (hn q ▸ k))
theorem aP (q:p) {g:FuncId} {ds:List D} {yd:D} (hc:aq P G g ds yd) (l ns:List Nat) {id:Nat} {ops:Array Oper} {y:Code} {Q:Exit->St->Prop} (k:AW P Mv X G N y Q ey)
  (hM:∀ r,ns.contains r=false->Mv r:=by first | exact fun _ _=>trivial | exact cH rfl)
  (h:p->aq P G g ds yd->∀ K':St->Prop,K' τ->fH P (bX P) Mv X G N ops K' ops.toList σ:=by
   intro q hc K' ah;(repeat (refine aJ fun K2 aa=>?_;simp[q];(repeat (refine⟨by omega,?_⟩));refine aa _ ?_;clear aa K2));refine aJ fun K2 aa=>?_;simp[q];refine bU.data hc (by simp;rfl) (by first | exact D.ba _ | simp[aQ,List.map_map,Function.comp_def,D.le,D.le.go,D.le_refl,D.ba,q]) ?_;refine aa _ ?_;clear aa K2;simp only[au,cw];repeat (refine aJ fun K2 aa=>?_;simp[q];(repeat (refine⟨by omega,?_⟩));refine aa _ ?_;clear aa K2)
   exact YZ ah)
  (hn:p->τ.norm l ns=ey:=by intro q;simp[q];rfl):AW P Mv X G N (.seq (.region id ops false) y) Q σ:=
 rg l ns hM fun K hK=>h q hc K (hK _ (hn q ▸ k))
theorem YT (q:p) {fx:List Nat} {g:FuncId} {xs:List AV} {bg Zs:List (Nat×Row)} {yv:AV} (hc:MC P G fx g xs (YH bg) yv (YH Zs)) (l ns:List Nat) {id:Nat} {ops:Array Oper} {y:Code} {Q:Exit->St->Prop} (k:AW P Mv X G N y Q ey)
  (hM:∀ r,ns.contains r=false->Mv r:=by first | exact fun _ _=>trivial | exact cH rfl)
  (h:p->MC P G fx g xs (YH bg) yv (YH Zs)->∀ K':St->Prop,K' τ->fH P (bX P) Mv X G N ops K' ops.toList σ:=by
   intro q hc K' ah;(repeat (refine aJ fun K2 aa=>?_;simp[q];(repeat (refine⟨by omega,?_⟩));refine aa _ ?_;clear aa K2));refine aJ fun K2 aa=>?_;simp[q];refine bU.mc hc (by simp[q]) (by simp[q]) (by simp[q]) (by simp[q]) ?_;simp[q];refine aa _ ?_;clear aa K2;repeat (refine aJ fun K2 aa=>?_;simp[q];(repeat (refine⟨by omega,?_⟩));refine aa _ ?_;clear aa K2)
   exact YZ ah)
  (hn:p->τ.norm l ns=ey:=by intro q;simp[q];rfl):AW P Mv X G N (.seq (.region id ops false) y) Q σ:=
 rg l ns hM fun K hK=>h q hc K (hK _ (hn q ▸ k))
theorem r3 (q:p) (l ns:List Nat) {id:Nat} {ops:Array Oper} {y:Code} {Q:Exit->St->Prop} (k:AW P Mv X G N y Q ey)
  (hm:P.follows .mixedOrders=true:=by kernel_rfl) (bp:lY ops=true:=by kernel_rfl)
  (hM:∀ r,ns.contains r=false->Mv r:=by first | exact fun _ _=>trivial | exact cH rfl)
  (h:p->∀ K':St->Prop,K' τ->jZ P (bX P) Mv G N ops K' ops.toList σ:=by
   intro q K' ah;repeat (refine e9 fun K2 aa=>?_;simp[q];(repeat (refine⟨by omega,?_⟩));refine aa _ ?_;clear aa K2)
   exact nY ah)
  (hn:p->τ.norm l ns=ey:=by intro q;simp[q];rfl):AW P Mv X G N (.seq (.region id ops true) y) Q σ:=
 mL (aw _) hm l ns hM bp fun K hK=>h q K (hK _ (hn q ▸ k))
theorem UR (q:p) {g:FuncId} {ds:List D} {yd:D} (hc:aq P G g ds yd) (l ns:List Nat) {id:Nat} {ops:Array Oper} {y:Code} {Q:Exit->St->Prop} (k:AW P Mv X G N y Q ey)
  (hm:P.follows .mixedOrders=true:=by kernel_rfl) (bp:lY ops=true:=by kernel_rfl)
  (hM:∀ r,ns.contains r=false->Mv r:=by first | exact fun _ _=>trivial | exact cH rfl)
  (h:p->aq P G g ds yd->∀ K':St->Prop,K' τ->jZ P (bX P) Mv G N ops K' ops.toList σ:=by
   intro q hc K' ah;(repeat (refine e9 fun K2 aa=>?_;simp[q];(repeat (refine⟨by omega,?_⟩));refine aa _ ?_;clear aa K2));refine e9 fun K2 aa=>?_;simp[q];refine hZ.data hc (by simp;rfl) (by simp;rfl) (by first | exact D.ba _ | simp[aQ,List.map_map,Function.comp_def,D.le,D.le.go,D.le_refl,D.ba,q]) ?_;refine aa _ ?_;clear aa K2;simp only[au,cw];repeat (refine e9 fun K2 aa=>?_;simp[q];(repeat (refine⟨by omega,?_⟩));refine aa _ ?_;clear aa K2)
   exact nY ah)
  (hn:p->τ.norm l ns=ey:=by intro q;simp[q];rfl):AW P Mv X G N (.seq (.region id ops true) y) Q σ:=
 mL (aw _) hm l ns hM bp fun K hK=>h q hc K (hK _ (hn q ▸ k))
theorem gJ (q:p) {K0:St->Prop} {y:Code} {Q Q2:Exit->St->Prop} (hk:∀ ag,AW P Mv X G N y Q2 ag->K0 ag) (l ns:List Nat) {id:Nat} {ops:Array Oper} (k:AW P Mv X G N y Q2 ey)
  (hq:∀ τ,K0 τ->Q .normal τ:=by exact fun _ h=>h)
  (hM:∀ r,ns.contains r=false->Mv r:=by first | exact fun _ _=>trivial | exact cH rfl)
  (h:p->∀ K':St->Prop,K' τ->fH P (bX P) Mv X G N ops K' ops.toList σ:=by
   intro q K' ah;repeat (refine aJ fun K2 aa=>?_;simp[q];(repeat (refine⟨by omega,?_⟩));refine aa _ ?_;clear aa K2)
   exact YZ ah)
  (hn:p->τ.norm l ns=ey:=by intro q;simp[q];rfl):AW P Mv X G N (.region id ops false) Q σ:=
 ff (aw _) fun K hK=>h q K (hK _ (hq _ (hk _ (AW.norm l ns hM (hn q ▸ k)))))
theorem aB (l ns:List Nat) {id:Nat} {ops:Array Oper} {y:Code} {Q:Exit->St->Prop} (k:AW P Mv X G N y Q ey)
  (hM:∀ r,ns.contains r=false->Mv r:=by first | exact fun _ _=>trivial | exact cH rfl)
  (h:∀ K':St->Prop,K' τ->fH P (bX P) Mv X G N ops K' ops.toList σ:=by
   intro K' ah;repeat (refine aJ fun K2 aa=>?_;simp[qf];(repeat (refine⟨by omega,?_⟩));refine aa _ ?_;clear aa K2)
   exact YZ ah)
  (hn:τ.norm l ns=ey:=by simp[qf];rfl):AW P Mv X G N (.seq (.region id ops false) y) Q σ:=
 rg l ns hM fun K hK=>h K (hK _ (hn ▸ k))
theorem eu {g:FuncId} {ds:List D} {yd:D} (hc:aq P G g ds yd) (l ns:List Nat) {id:Nat} {ops:Array Oper} {y:Code} {Q:Exit->St->Prop} (k:AW P Mv X G N y Q ey)
  (hM:∀ r,ns.contains r=false->Mv r:=by first | exact fun _ _=>trivial | exact cH rfl)
  (h:aq P G g ds yd->∀ K':St->Prop,K' τ->fH P (bX P) Mv X G N ops K' ops.toList σ:=by
   intro hc K' ah;(repeat (refine aJ fun K2 aa=>?_;simp[qf];(repeat (refine⟨by omega,?_⟩));refine aa _ ?_;clear aa K2));refine aJ fun K2 aa=>?_;simp[qf];refine bU.data hc (by simp;rfl) (by first | exact D.ba _ | simp[aQ,List.map_map,Function.comp_def,D.le,D.le.go,D.le_refl,D.ba,qf]) ?_;refine aa _ ?_;clear aa K2;simp only[au,cw];repeat (refine aJ fun K2 aa=>?_;simp[qf];(repeat (refine⟨by omega,?_⟩));refine aa _ ?_;clear aa K2)
   exact YZ ah)
  (hn:τ.norm l ns=ey:=by simp[qf];rfl):AW P Mv X G N (.seq (.region id ops false) y) Q σ:=
 rg l ns hM fun K hK=>h hc K (hK _ (hn ▸ k))
theorem ld {fx:List Nat} {g:FuncId} {xs:List AV} {bg Zs:List (Nat×Row)} {yv:AV} (hc:MC P G fx g xs (YH bg) yv (YH Zs)) (l ns:List Nat) {id:Nat} {ops:Array Oper} {y:Code} {Q:Exit->St->Prop} (k:AW P Mv X G N y Q ey)
  (hM:∀ r,ns.contains r=false->Mv r:=by first | exact fun _ _=>trivial | exact cH rfl)
  (h:MC P G fx g xs (YH bg) yv (YH Zs)->∀ K':St->Prop,K' τ->fH P (bX P) Mv X G N ops K' ops.toList σ:=by
   intro hc K' ah;(repeat (refine aJ fun K2 aa=>?_;simp[qf];(repeat (refine⟨by omega,?_⟩));refine aa _ ?_;clear aa K2));refine aJ fun K2 aa=>?_;simp[qf];refine bU.mc hc (by simp[qf]) (by simp[qf]) (by simp[qf]) (by simp[qf]) ?_;simp[qf];refine aa _ ?_;clear aa K2;repeat (refine aJ fun K2 aa=>?_;simp[qf];(repeat (refine⟨by omega,?_⟩));refine aa _ ?_;clear aa K2)
   exact YZ ah)
  (hn:τ.norm l ns=ey:=by simp[qf];rfl):AW P Mv X G N (.seq (.region id ops false) y) Q σ:=
 rg l ns hM fun K hK=>h hc K (hK _ (hn ▸ k))
theorem aa9 (l ns:List Nat) {id:Nat} {ops:Array Oper} {y:Code} {Q:Exit->St->Prop} (k:AW P Mv X G N y Q ey)
  (hm:P.follows .mixedOrders=true:=by kernel_rfl) (bp:lY ops=true:=by kernel_rfl)
  (hM:∀ r,ns.contains r=false->Mv r:=by first | exact fun _ _=>trivial | exact cH rfl)
  (h:∀ K':St->Prop,K' τ->jZ P (bX P) Mv G N ops K' ops.toList σ:=by
   intro K' ah;repeat (refine e9 fun K2 aa=>?_;simp[qf];(repeat (refine⟨by omega,?_⟩));refine aa _ ?_;clear aa K2)
   exact nY ah)
  (hn:τ.norm l ns=ey:=by simp[qf];rfl):AW P Mv X G N (.seq (.region id ops true) y) Q σ:=
 mL (aw _) hm l ns hM bp fun K hK=>h K (hK _ (hn ▸ k))
theorem CG {g:FuncId} {ds:List D} {yd:D} (hc:aq P G g ds yd) (l ns:List Nat) {id:Nat} {ops:Array Oper} {y:Code} {Q:Exit->St->Prop} (k:AW P Mv X G N y Q ey)
  (hm:P.follows .mixedOrders=true:=by kernel_rfl) (bp:lY ops=true:=by kernel_rfl)
  (hM:∀ r,ns.contains r=false->Mv r:=by first | exact fun _ _=>trivial | exact cH rfl)
  (h:aq P G g ds yd->∀ K':St->Prop,K' τ->jZ P (bX P) Mv G N ops K' ops.toList σ:=by
   intro hc K' ah;(repeat (refine e9 fun K2 aa=>?_;simp[qf];(repeat (refine⟨by omega,?_⟩));refine aa _ ?_;clear aa K2));refine e9 fun K2 aa=>?_;simp[qf];refine hZ.data hc (by simp;rfl) (by simp;rfl) (by first | exact D.ba _ | simp[aQ,List.map_map,Function.comp_def,D.le,D.le.go,D.le_refl,D.ba,qf]) ?_;refine aa _ ?_;clear aa K2;simp only[au,cw];repeat (refine e9 fun K2 aa=>?_;simp[qf];(repeat (refine⟨by omega,?_⟩));refine aa _ ?_;clear aa K2)
   exact nY ah)
  (hn:τ.norm l ns=ey:=by simp[qf];rfl):AW P Mv X G N (.seq (.region id ops true) y) Q σ:=
 mL (aw _) hm l ns hM bp fun K hK=>h hc K (hK _ (hn ▸ k))
theorem gK {K0:St->Prop} {y:Code} {Q Q2:Exit->St->Prop} (hk:∀ ag,AW P Mv X G N y Q2 ag->K0 ag) (l ns:List Nat) {id:Nat} {ops:Array Oper} (k:AW P Mv X G N y Q2 ey)
  (hq:∀ τ,K0 τ->Q .normal τ:=by exact fun _ h=>h)
  (hM:∀ r,ns.contains r=false->Mv r:=by first | exact fun _ _=>trivial | exact cH rfl)
  (h:∀ K':St->Prop,K' τ->fH P (bX P) Mv X G N ops K' ops.toList σ:=by
   intro K' ah;repeat (refine aJ fun K2 aa=>?_;simp[qf];(repeat (refine⟨by omega,?_⟩));refine aa _ ?_;clear aa K2)
   exact YZ ah)
  (hn:τ.norm l ns=ey:=by simp[qf];rfl):AW P Mv X G N (.region id ops false) Q σ:=
 ff (aw _) fun K hK=>h K (hK _ (hq _ (hk _ (AW.norm l ns hM (hn ▸ k)))))
end
end Go.Av
namespace Go.Av
section
variable {P:Program} {Mv X:Nat->Prop} {G:YI} {N:Fr} {σ τ:St} {p:Prop}
theorem eL {id:Nat} {ops:Array Oper} {Q:Exit->St->Prop} (k:Q .normal τ)
  (h:∀ K':St->Prop,K' τ->fH P (bX P) Mv X G N ops K' ops.toList σ:=by
   intro K' ah;repeat (refine aJ fun K2 aa=>?_;simp;(repeat (refine⟨by omega,?_⟩));refine aa _ ?_;clear aa K2)
   exact YZ ah):AW P Mv X G N (.region id ops false) Q σ:=
 ff (aw _) fun K hK=>h K (hK _ k)
theorem cf (q:p) {id:Nat} {ops:Array Oper} {Q:Exit->St->Prop} (k:Q .normal τ)
  (h:p->∀ K':St->Prop,K' τ->fH P (bX P) Mv X G N ops K' ops.toList σ:=by
   intro q K' ah;repeat (refine aJ fun K2 aa=>?_;simp[q];(repeat (refine⟨by omega,?_⟩));refine aa _ ?_;clear aa K2)
   exact YZ ah):AW P Mv X G N (.region id ops false) Q σ:=
 ff (aw _) fun K hK=>h q K (hK _ k)
theorem x4 {id:Nat} {ops:Array Oper} {Q:Exit->St->Prop} (k:Q .normal τ)
  (h:∀ K':St->Prop,K' τ->fH P (bX P) Mv X G N ops K' ops.toList σ:=by
   intro K' ah;repeat (refine aJ fun K2 aa=>?_;simp[qf];(repeat (refine⟨by omega,?_⟩));refine aa _ ?_;clear aa K2)
   exact YZ ah):AW P Mv X G N (.region id ops false) Q σ:=
 ff (aw _) fun K hK=>h K (hK _ k)
theorem fzB (r:Nat) {c:Code} {Q:Exit->St->Prop} (k:AW P Mv X G N c Q τ) (hM:Mv r:=by first | trivial | decide) (hn:σ.l9 r=τ:=by simp;rfl):AW P Mv X G N c Q σ:=
 AW.imp (aC.l9 r hM) (hn ▸ k)
theorem cq (q:p) (r:Nat) {c:Code} {Q:Exit->St->Prop} (k:AW P Mv X G N c Q τ) (hM:Mv r:=by first | trivial | decide) (hn:p->σ.l9 r=τ:=by intro q;simp[q];rfl):AW P Mv X G N c Q σ:=
 AW.imp (aC.l9 r hM) (hn q ▸ k)
theorem dK {Q:Exit->St->Prop} (h:Q .ret σ:=by simp[D.le,D.le.go,aQ,D.le_refl,D.ba]):AW P Mv X G N .ret Q σ:=b7 h
theorem aV (q:p) {Q:Exit->St->Prop} (h:p->Q .ret σ:=by intro q;simp[D.le,D.le.go,aQ,D.le_refl,D.ba,q]):AW P Mv X G N .ret Q σ:=b7 (h q)
theorem ZH {e:Env} {H:Heap} {l:List (Nat×AV)} {rows:List (Nat×Row)} (hm:∀ r,(rows.map (·.1)).contains r=false->Mv r:=by first | exact fun _ _=>trivial | exact cH rfl)
  (he:∀ p∈l,(e p.1).map (AV.tr (cT (rows.map (·.1))) (Zi (rows.map (·.1))))=some p.2:=by simp)
  (hH:∀ p∈rows,(H p.1).map (Row.tr (cT (rows.map (·.1))) (Zi (rows.map (·.1))))=YH rows p.1:=by simp):aC Mv X G N ⟨e,H⟩ ⟨aZ l,YH rows⟩:=aC.cO hm he hH
theorem bz (q:p) {e:Env} {H:Heap} {l:List (Nat×AV)} {rows:List (Nat×Row)} (hm:∀ r,(rows.map (·.1)).contains r=false->Mv r:=by first | exact fun _ _=>trivial | exact cH rfl)
  (he:p->∀ p∈l,(e p.1).map (AV.tr (cT (rows.map (·.1))) (Zi (rows.map (·.1))))=some p.2:=by intro q;simp[q])
  (hH:p->∀ p∈rows,(H p.1).map (Row.tr (cT (rows.map (·.1))) (Zi (rows.map (·.1))))=YH rows p.1:=by intro q;simp[q]):aC Mv X G N ⟨e,H⟩ ⟨aZ l,YH rows⟩:=aC.cO hm (he q) (hH q)
end
end Go.Av
namespace Go.Av
def iR (T:Ty) (G:YI) (e:Env) (o:Oper):Option (Prop×D):=match o.op,o.dst with
 | .box _ x,some _=>match (aU G e x).bind eU with
  | some cs=>match Z9 cs with
   | some ds=>some (True,.ip ds)
   | none=>none
  | none=>none
 | .buildSlice t len parts,some _=>match T t with
  | some tt=>match tt.desc with
   | .slice q=>match T q,aaG G e parts.toList with
    | some te,some ps=>match og te.size 0 ps with
     | some els=>some (ps.length=len/\0 < te.size/\len * te.size<=16777216,.sl none els)
     | none=>none
    | _,_=>none
   | _=>none
  | none=>none
 | .makeSlice t l c,some _=>match T t with
  | some tt=>match tt.desc with
   | .slice q=>match T q,aU G e l,aU G e c with
    | some te,some (.d (.v (.int _ n))),some (.d (.v (.int _ m)))=>some (0<=n/\n<=m/\te.bytes * m<=281474976710656/\m<=9223372036854775807/\0 < te.size/\(cM te.zero).length=te.size,.sl none (aeM te n.toNat))
    | _,_,_=>none
   | _=>none
  | none=>none
 | _,_=>none
section
variable {P:Program} {T:Ty} {Mv X:Nat->Prop} {G:YI} {N:Fr} {w:World} {μ:Mu} {a:Act} {σ:St}
theorem iB {o:Oper} {e e':Env} (h:dB o.op e e'):iR T G e o=iR T G e' o:=by
 obtain⟨dst,op,type,pos,after,guard⟩:=o;unfold dB at h;dsimp only at h;unfold iR
 cases op<;>try rfl
 case box t x=>
  cases dst with
  | none=>rfl
  | some d=>
   dsimp only;rw[cI (x:=x) fun t ht=>h t (by simp[Op.operands,ht])]
 case buildSlice t n ps=>
  cases dst with
  | none=>rfl
  | some d=>
   dsimp only;rw[vW (l:=ps.toList) fun t ht=>h t (by simpa[Op.operands]using ht)]
 case makeSlice t x y=>
  cases dst with
  | none=>rfl
  | some d=>
   dsimp only;rw[cI (x:=x) fun t ht=>h t (by simp[Op.operands,ht]),cI (x:=y) fun t ht=>h t (by simp[Op.operands,ht])]
theorem Cj (hi:In w X G μ N a σ):¬ XX X μ w.heap.size:=by
 rintro (h | h)
 .exact Nat.lt_irrefl _ (hi.aL.fits _ h)
 .exact Nat.lt_irrefl _ (hi.aL.aal h)
theorem Ci (w:World) (cur:Array Value) (t:TypeId) {o:Nat} {v:Value} (h:cur[o]? = some v):(w.alloc (.cells cur t)).cell? ⟨w.heap.size,o,none⟩=some v:=by
 rw[cell_of_row _ w.heap.size o cur t (0,0) (by simpa using heap_alloc_new w (.cells cur t))];exact h
theorem Ej (hg:Good P T) (hi:In w X G μ N a σ) {o:Oper} {c:Prop} {y:D} (h:iR T G σ.env o=some (c,y)) (hc:c) :
  ∃ v w',(execOp a.eval o).run P w = .ok (.value v) w'/\In w' X G μ N a σ/\RV w' X μ v (.d y)/\Ev Mv w μ w' μ:=by
 obtain⟨dst,op,type,pos,after,guard⟩:=o;unfold iR at h;dsimp only at h;split at h
 .rename_i t x d;split at h
  .rename_i cs bR;obtain⟨z,hz,he⟩:=Option.bind_eq_some_iff.1 bR;split at h
   .rename_i ds hds;simp only[Option.some.injEq,Prod.mk.injEq]at h;obtain⟨rfl,rfl⟩:=h;have hp:=sg (hi.eval hz) he;rw[j9 hds]at hp;obtain⟨ax,aD⟩:=hi.iW (Mv:=Mv) (bT.alloc w (.cells (a.eval x).cells t));refine⟨.pointer (some ⟨w.heap.size,0,none⟩),_,by simp[execOp,Instr.box,newVar,newRow],ax,.d (.ip (f:=fun j=>(a.eval x).cells.getD j undef) (Cj hi) (by simp) (fun j hj=>?_) fun j c hj=>?_),aD⟩
    .have YJ:j < (a.eval x).cells.size:=by rw[hp.size];simpa using hj
     exact Ci w _ t (by simp[Array.getD_eq_getD_getElem?,YJ])
    .have YJ:j < (a.eval x).cells.size:=by rw[hp.size];simpa using (List.getElem?_eq_some_iff.1 hj).1
     have:=(hp.at_ j _ (.d c) (Array.getElem?_eq_getElem YJ) (by rw[List.getElem?_map,hj];rfl)).data;rw[Array.getD_eq_getD_getElem?,Array.getElem?_eq_getElem YJ];exact this.ev aD
   .cases h
  .cases h
 .rename_i t len parts d;split at h
  .rename_i tt b4;split at h
   .rename_i q b5;split at h
    .rename_i te ps bI cF;split at h
     .rename_i els abY;simp only[Option.some.injEq,Prod.mk.injEq]at h;obtain⟨rfl,rfl⟩:=h;obtain⟨g2,g3,g4⟩:=hc;obtain⟨hv,hr⟩:=hi.aaG cF;have hu:=hg.Y2 (w:=w) b4;have aK:=hg.sizeOf (w:=w) bI;have uh:=hg.zero (w:=w) bI
      obtain⟨gu,hf,oT,_,hl,bw,iJ⟩:=EU (w:=w) (X:=X) (μ:=μ) (sz:=te.size) ps (parts.toList.map fun p=>(p.1,a.eval p.2)) 0 els ((Array.range (len * te.size)).map ((if len * te.size=0 then #[] else te.zero.cells)[· % (if len * te.size=0 then #[] else te.zero.cells).size]!)) abY hv
       (fun i p v h1 h2=>hr i p v h1 h2) (by simp[g2])
      have hn:¬ len * te.size > 2 ^ 24:=by omega
      have e0:∀ f:Nat->Value,(Array.range 0).map f = #[]:=fun f=>by apply Array.ext<;>simp
      have kY:gu.size=len * te.size:=by rw[oT];simp
      have hlen:els.length=len:=by omega
      obtain⟨ax,aD⟩:=hi.iW (Mv:=Mv) (bT.alloc w (.cells gu q))
      have bt:(Instr.buildSlice t len (parts.map fun p=>(p.1,a.eval p.2))).run P w = .ok (.slice (some ⟨w.heap.size,0,none⟩) len len) (w.alloc (.cells gu q)):=by
       by_cases h0:len * te.size=0
       .simp only[h0,if_true,e0]at hf;simp only[Instr.buildSlice,Sem.run_bind,hu,b5,Result.andThen_ok,aK,hn,if_false,h0,if_true,Sem.run_pure,e0];simp[hf,newRow]
       .simp only[h0,if_false]at hf;simp only[Instr.buildSlice,Sem.run_bind,hu,b5,Result.andThen_ok,aK,hn,if_false,h0,Sem.run_pure,uh];simp[hf,newRow]
      have fR:len<=maxLen:=by
       have:len<=len * te.size:=Nat.le_mul_of_pos_right _ g3;unfold maxLen;omega
      refine⟨.slice (some ⟨w.heap.size,0,none⟩) len len,_,by simp[execOp,bt],ax,.d ?_,aD⟩;by_cases h0:len=0
      .subst h0;obtain rfl:=List.eq_nil_of_length_eq_zero hlen;exact .empty (by simp) fR
      .refine .sl (sz:=te.size) (f:=fun i j=>gu.getD (i * te.size+j) undef) (by simp) hlen (Nat.le_refl _) fR (Cj hi) bw g3 (by omega) (fun i j cK hj=>?_) fun i j el c h1 h2=>?_
       .have YJ:i * te.size+j < gu.size:=by
         rw[kY];have:(i+1) * te.size<=len * te.size:=Nat.mul_le_mul_right _ cK;rw[Nat.add_mul]at this;omega
        rw[Nat.zero_add];exact Ci w _ q (by simp[Array.getD_eq_getD_getElem?,YJ])
       .obtain⟨u,hu',bq⟩:=iJ i j el c h1 h2;rw[Nat.zero_add]at hu';rw[Array.getD_eq_getD_getElem?,hu'];exact bq.ev aD
     .cases h
    .cases h
   .cases h
  .cases h
 .rename_i t l c d;split at h
  .rename_i tt b4;split at h
   .rename_i q b5;split at h
    .rename_i te k1 n k2 m bI hl YY;simp only[Option.some.injEq,Prod.mk.injEq]at h;obtain⟨rfl,rfl⟩:=h;obtain⟨h0,h1,h2,h3,hz,hzs⟩:=hc;have el:a.eval l = .int k1 n:=(hi.eval hl).scalar;have ec:a.eval c = .int k2 m:=(hi.eval YY).scalar;obtain⟨hu,i0,gY,Zm,hb0,ik,_⟩:=hg q te bI;have ht:=(hg t tt b4).1;rw[b5]at ht;have bt:=run_make (P:=P) w t q i0 te.zero ht gY ik k1 k2 n m h0 h1 (by rw[hb0];exact h2) h3;rw[Zm]at bt;have aK:=size_madeCells te.zero.cells (m.toNat * te.size);obtain⟨ax,aD⟩:=hi.iW (Mv:=Mv) (bT.alloc w (.cells (madeCells te.zero.cells (m.toNat * te.size)) q));refine⟨.slice (some ⟨w.heap.size,0,none⟩) n.toNat m.toNat,_,by simp[execOp,el,ec,bt],ax,.d ?_,aD⟩;by_cases oL:n.toNat=0
     .rw[show aeM te n.toNat=[] by rw[oL];rfl,oL];exact .empty (by simp) (by unfold maxLen;omega)
     .have lW:=qO (w:=w) (X:=XX X μ) te.zero
      have bR:te.zero.cells.size=te.size:=by rw[lW.1,hzs]
      have rp:∀ i j,i < n.toNat->j < te.size->i * te.size+j < m.toNat * te.size:=fun i j cK hj=>by
       have:(i+1) * te.size<=m.toNat * te.size:=Nat.mul_le_mul_right _ (by omega);rw[Nat.add_mul]at this;omega
      refine .sl (sz:=te.size) (f:=fun i j=>(madeCells te.zero.cells (m.toNat * te.size)).getD (i * te.size+j) undef) (by simp) (by simp[aeM]) (by omega) (by unfold maxLen;omega) (Cj hi) (fun el aN=>by rw[List.eq_of_mem_replicate aN,hzs]) hz (by omega) (fun i j cK hj=>?_) fun i j el d aN hd=>?_
      .rw[Nat.zero_add];exact Ci w _ q (by simp[Array.getD_eq_getD_getElem?,aK,rp i j cK hj])
      .unfold aeM at aN;rw[List.getElem?_replicate]at aN;split at aN
       .rename_i YJ;obtain rfl:=Option.some.inj aN
        have hj:j < te.size:=by rw[<- hzs];exact (List.getElem?_eq_some_iff.1 hd).1
        have tv:j < te.zero.cells.size:=by omega
        have hb:=rp i j YJ hj
        have qa:(i * te.size+j) % te.size=j:=by rw[Nat.mul_comm,Nat.mul_add_mod,Nat.mod_eq_of_lt hj]
        have hv:(madeCells te.zero.cells (m.toNat * te.size)).getD (i * te.size+j) undef=te.zero.cells[j]:=by
         simp[Array.getD_eq_getD_getElem?,madeCells,hb,bR,qa];exact getElem!_pos te.zero.cells j tv
        rw[hv];exact (lW.2 j _ d (by simp[tv]) hd).ev aD
       .cases aN
    .cases h
   .cases h
  .cases h
 .cases h
variable {ops:Array Oper} {db:List Nat}
def j5 (P:Program) (T:Ty) (Mv:Nat->Prop) (G:YI) (N:Fr) (db:List Nat) (i:Nat) (o:Oper) (σ ag:St):Prop:=
 c8 N o/\o.guard=none/\((db.contains i=true/\∃ c y,iR T G σ.env o=some (c,y)/\c/\ag=⟨au σ.env o.dst (.d y),σ.H⟩)\/
  (db.contains i=false/\kindOf o.op≠9/\∃ x H',Ex P T Mv G o σ.env σ.H x H'/\ag=⟨au σ.env o.dst x,H'⟩))
theorem j5.ok (hg:Good P T) {o:Oper} {i:Nat} {ag:St} (h:j5 P T Mv G N db i o σ ag) (hi:In w X G μ N a σ) (ho:ops[i]? = some o) {Q:Exit->Act->World->Prop} {K:Act->World->Prop}
  (hk:∀ w' ak a',In w' X G ak N a' ag->Ev Mv w μ w' ak->K a' w'):wpOpIn (wd N.ro) 0 P ops Q i K a w:=by
 obtain⟨hd,bW,h⟩:=h
 have dv:∀ d,o.dst=some d->d < N.n:=fun d e=>by unfold c8 at hd;rw[e]at hd;exact hd
 rcases h with⟨_,c,y,h1,h2,rfl⟩ | ⟨_,h9,x,H',h1,rfl⟩
 .unfold wpOpIn;simp only[ho];rw[abV hi (fZ bW),if_pos rfl];refine yt (fun c e=>by simp[iR,e]at h1) ?_;obtain⟨v,w',hr,ax,eo,aD⟩:=Ej (Mv:=Mv) hg hi h1 h2;unfold Oper.wp;rw[hr];exact hk _ μ _ (ax.put eo dv) aD
 .exact qF hg ⟨hd,.inl ⟨fZ bW,h1.to⟩⟩ hi ho hk
def pD (db:List Nat) (ops:Array Oper) (i j:Nat) (oi oj:Oper):Bool:=oi.apart ops oj && (db.contains i || db.contains j || nO (kindOf oi.op) (kindOf oj.op))
theorem E0 {i j:Nat} {oi oj:Oper} (hc:pD db ops i j oi oj=true) {σ YK dh:St} (h1:j5 P T Mv G N db i oi σ YK) (h2:j5 P T Mv G N db j oj YK dh) :
  ∃ dA,j5 P T Mv G N db j oj σ dA/\j5 P T Mv G N db i oi dA dh:=by
 simp only[pD,Bool.and_eq_true]at hc;obtain⟨ck,eQ⟩:=hc;obtain⟨di,gi,h1⟩:=h1;obtain⟨dj,gj,h2⟩:=h2;have cE:∀ v,dB oj.op (au σ.env oi.dst v) σ.env:=fun v t ht=>(eE ck (e:=σ.env) (v:=v)).1 t (fF ht);have Zj:∀ v,dB oi.op σ.env (au σ.env oj.dst v):=fun v t ht=>((eE ck (e:=σ.env) (v:=v)).2.1 t (fF ht)).symm;have aG:=(eE ck (e:=σ.env) (v:=Y2)).2.2
 rcases h1 with⟨bi,c,y,e1,c1,rfl⟩ | ⟨bi,k1,x,H',e1,rfl⟩
 .rcases h2 with⟨bj,c',z,e2,c2,rfl⟩ | ⟨bj,k2,z,H2,e2,rfl⟩
  .rw[iB (cE _)]at e2;refine⟨⟨au σ.env oj.dst (.d z),σ.H⟩,⟨dj,gj,.inl ⟨bj,c',z,e2,c2,rfl⟩⟩,di,gi,.inl ⟨bi,c,y,?_,c1,?_⟩⟩
   .rw[<- iB (Zj _)];exact e1
   .rw[dR aG]
  .refine⟨⟨au σ.env oj.dst z,H2⟩,⟨dj,gj,.inr ⟨bj,k2,z,H2,e2.congr k2 (cE _),rfl⟩⟩,di,gi,.inl ⟨bi,c,y,?_,c1,?_⟩⟩
   .rw[<- iB (Zj _)];exact e1
   .rw[dR aG]
 .rcases h2 with⟨bj,c',z,e2,c2,rfl⟩ | ⟨bj,k2,z,H2,e2,rfl⟩
  .rw[iB (cE _)]at e2;refine⟨⟨au σ.env oj.dst (.d z),σ.H⟩,⟨dj,gj,.inl ⟨bj,c',z,e2,c2,rfl⟩⟩,di,gi,.inr ⟨bi,k1,x,H',e1.congr k1 (Zj _),?_⟩⟩;rw[dR aG]
  .rw[bi,bj]at eQ
   have YY:fM ops oi oj=true:=by simp only[fM,Bool.and_eq_true];exact⟨ck,by simpa using eQ⟩
   obtain⟨H3,f1,f2⟩:=ab4 (N:=N) YY ⟨di,.inl ⟨fZ gi,e1⟩⟩ ⟨dj,.inl ⟨fZ gj,e2⟩⟩ k1 k2
   have un:∀ {o:Oper} {e:Env} {H H':Heap} {x:AV},o.guard=none->Sx P T Mv G N ops o e H x H'->Ex P T Mv G o e H x H':=fun bW h=>by
    rcases h.2 with⟨_,h⟩ | ⟨hw,_⟩
    .exact h
    .rw[fZ bW]at hw;cases hw
   refine⟨⟨au σ.env oj.dst z,H3⟩,⟨dj,gj,.inr ⟨bj,k2,z,H3,un gj f1,rfl⟩⟩,di,gi,.inr ⟨bi,k1,x,H2,un gi f2,?_⟩⟩;rw[dR aG]
def r6 (P:Program) (T:Ty) (Mv:Nat->Prop) (G:YI) (N:Fr) (db:List Nat) (ops:Array Oper):List Nat->St->St->Prop
 | [],σ,ag=>σ=ag
 | i :: l,σ,ag=>∃ o,ops[i]? = some o/\∃ YK,j5 P T Mv G N db i o σ YK/\r6 P T Mv G N db ops l YK ag
theorem Vm {p:Nat} {op:Oper} (hp:ops[p]? = some op):∀ (l1:List Nat) {l2:List Nat} {σ ag:St},(∀ q∈l1,∀ oq,ops[q]? = some oq->pD db ops q p oq op=true)->r6 P T Mv G N db ops (l1 ++ p :: l2) σ ag->r6 P T Mv G N db ops (p :: (l1 ++ l2)) σ ag:=by
 intro l1
 induction l1 with
 | nil=>intro l2 σ ag _ h;exact h
 | cons q l1 ih=>
  intro l2 σ ag bw h;obtain⟨oq,hq,YK,s1,rest⟩:=h;obtain⟨o',Zq,dh,s2,nQ⟩:=ih (fun q' fT=>bw q' (by simp[fT])) rest;rw[hp]at Zq;obtain rfl:=Option.some.inj Zq;obtain⟨dA,f1,f2⟩:=E0 (bw q (by simp) oq hq) s1 s2;exact⟨op,hp,dA,f1,oq,hq,dh,f2,nQ⟩
def uJ (db:List Nat) (ord:List Nat) (ops:Array Oper):Bool:=
 let t:=tb ops
 ord.length == ops.size && (ord.all fun i=>decide (i < ops.size)) && ((List.range ops.size).all fun i=>ord.contains i) && decide ord.Nodup &&
 ((List.range ops.size).all fun j=>match ops[j]? with
  | some oj=>oj.after.all fun e=>!Region.binds .any e || e.on < j
  | none=>true) &&
 go t ord
where
 go (t:List Nat):List Nat->Bool
 | []=>true
 | a :: l=>(l.all fun b=>match ops[a]?,ops[b]? with
  | some oa,some ob=>(oa.after.all fun e=>!Region.binds .any e || !(e.on == b)) && ((t.getD b 0).testBit a || pD db ops a b oa ob)
  | _,_=>true) && go t l
def yD (db:List Nat) (ops:Array Oper) (a b:Nat):Prop:=∀ oa ob,ops[a]? = some oa->ops[b]? = some ob->
 (∀ e∈oa.after,Region.binds .any e=true->e.on≠b)/\(((tb ops).getD b 0).testBit a=true\/pD db ops a b oa ob=true)
theorem Ie:∀ {l:List Nat},uJ.go db ops (tb ops) l=true->l.Pairwise (yD db ops)
 | [],_=>.nil
 | a :: l,h=>by
  simp only[uJ.go,Bool.and_eq_true]at h;refine .cons (fun b hb oa ob nC nD=>?_) (Ie h.2);have:=List.all_eq_true.1 h.1 b hb;simp only[nC,nD,Bool.and_eq_true,Bool.or_eq_true]at this;refine⟨fun e he hbi heq=>?_,this.2⟩;have h1:=Array.all_eq_true_iff_forall_mem.1 this.1 e he;simp[hbi,heq]at h1
theorem KM (hg:Good P T) (YJ:∀ j oj,ops[j]? = some oj->∀ e∈oj.after,Region.binds .any e=true->e.on < j) {Q:Exit->St->Prop} {w0:World} {eV:Mu} {aY:St} (hQ:Q .normal aY):∀ (n:Nat) (R:List Nat) (listed:Array Bool) (w:World) (μ:Mu) (a:Act) (σ:St),R.length=n->R.Nodup->
  (∀ j,j∈R↔j < ops.size/\listed.getD j true=false)->listed.size=ops.size->R.Pairwise (yD db ops)->
  (∀ j oj,ops[j]? = some oj->listed.getD j false=true->∀ e∈oj.after,Region.binds .any e=true->listed.getD e.on false=true)->r6 P T Mv G N db ops R σ aY->In w X G μ N a σ->Ev Mv w0 eV w μ->
  wpAnyIn (wd N.ro) 0 P .any ops (After Mv X G N w0 eV Q) n listed a w:=by
 intro n
 induction n with
 | zero=>
  intro R listed w μ a σ hl _ hR aK _ _ bt hi aD;have:R=[]:=List.eq_nil_of_length_eq_zero hl;subst this
  have hr:Region.ready .any ops listed=[]:=by
   apply List.eq_nil_iff_forall_not_mem.2;intro j hj;obtain⟨h1,o,ho,_⟩:=mem_ready.1 hj;exact absurd ((hR j).2 ⟨(Array.getElem?_eq_some_iff.1 ho).1,h1⟩) (by simp)
  have:σ=aY:=bt;subst this;exact⟨hr,μ,σ,hQ,hi,aD⟩
 | succ n ih=>
  intro R listed w μ a σ hl ZT hR aK eK gB bt hi aD;refine⟨fun hr=>?_,fun i lM=>?_⟩
  .cases R with
   | nil=>simp at hl
   | cons j R=>
    obtain⟨gC,ZY⟩:=(hR j).1 (by simp)
    have bf:ops[j]? = some ops[j]:=by simp[gC]
    have hjr:j∈Region.ready .any ops listed:=by
     refine mem_ready.2 ⟨ZY,ops[j],bf,fun e he hb=>?_⟩;have oI:=YJ j ops[j] bf e he hb
     have bZ:e.on < ops.size:=by omega
     have aG:e.on ∉ (j :: R):=by
      intro hm
      rcases List.mem_cons.1 hm with h | h
      .omega
      .exact ((List.pairwise_cons.1 eK).1 _ h ops[j] ops[e.on] bf (by simp[bZ])).1 e he hb rfl
     have:=mt (hR e.on).2 aG
     have fv:e.on < listed.size:=by omega
     simp only[bZ,true_and,Array.getD_eq_getD_getElem?]at this ⊢;simp[fv]at this ⊢;exact this
    rw[hr]at hjr;cases hjr
  .obtain⟨bO,oi,bD,bw⟩:=mem_ready.1 lM;have lK:i∈R:=(hR i).2 ⟨(Array.getElem?_eq_some_iff.1 bD).1,bO⟩;obtain⟨R1,R2,rfl⟩:=List.append_of_mem lK
   have lJ:=Vm (P:=P) (T:=T) (Mv:=Mv) (G:=G) (N:=N) (db:=db) bD R1 (fun q hq oq ia=>by
    have nF:yD db ops q i:=(List.pairwise_append.1 eK).2.2 q hq i (by simp)
    rcases (nF oq oi ia bD).2 with h | h
    .exfalso;have hlq:=sw YJ gB i i oi (Nat.le_refl _) bD bw q h;have e6:=((hR q).1 (by simp[hq])).2
     have lS:q < listed.size:=by have:=(Array.getElem?_eq_some_iff.1 ia).1;omega
     simp[Array.getD_eq_getD_getElem?,lS]at hlq e6;rw[hlq]at e6;cases e6
    .exact h) bt
   obtain⟨o',Zq,YK,hstep,YV⟩:=lJ;rw[bD]at Zq;obtain rfl:=Option.some.inj Zq;refine hstep.ok hg hi bD fun w' ak a' ax aaI=>?_
   have lP:(R1 ++ R2).Nodup:=by
    have:=ZT;rw[List.nodup_append]at this ⊢;obtain⟨g1,g2,g3⟩:=this;exact⟨g1,(List.nodup_cons.1 g2).2,fun x hx y hy=>g3 x hx y (by simp[hy])⟩
   have lL:i ∉ R1 ++ R2:=by
    have:=ZT;rw[List.nodup_append]at this;obtain⟨g1,g2,g3⟩:=this;intro hm
    rcases List.mem_append.1 hm with h | h
    .exact g3 i h i (by simp) rfl
    .exact (List.nodup_cons.1 g2).1 h
   refine ih (R1 ++ R2) _ w' ak a' YK (by simp at hl ⊢;omega) lP (fun j=>?_) (by simpa using aK) ?_ ?_ YV ax (aD.trans aaI)
   .by_cases cL:j=i
    .subst cL
     have fv:j < listed.size:=by rw[aK];exact (Array.getElem?_eq_some_iff.1 bD).1
     simp[fv];simpa using lL
    .rw[getD_set_ne true (Ne.symm cL)];rw[<- hR j];simp[cL]
   .rw[List.pairwise_append]at eK ⊢;obtain⟨g1,g2,g3⟩:=eK;exact⟨g1,(List.pairwise_cons.1 g2).2,fun x hx y hy=>g3 x hx y (by simp[hy])⟩
   .intro j oj bf cX e he hb;by_cases cL:j=i
    .subst cL;rw[bD]at bf;obtain rfl:=Option.some.inj bf;exact getD_set_true (bw e he hb)
    .rw[getD_set_ne false (Ne.symm cL)]at cX;exact getD_set_true (gB j oj bf cX e he hb)
def ac5 (P:Program) (T:Ty) (Mv:Nat->Prop) (G:YI) (N:Fr) (db:List Nat) (i:Nat) (o:Oper) (σ:St) (K:St->Prop):Prop:=c8 N o/\o.guard=none/\
 if db.contains i=true then (match iR T G σ.env o with
  | some (c,y)=>c/\K ⟨au σ.env o.dst (.d y),σ.H⟩
  | none=>False)
 else kindOf o.op≠9/\match Y0 o.op with
  | some c=>kc P G c σ.env o.dst σ.H [] [] K
  | none=>pa T G Mv o σ [] K
def nW (P:Program) (T:Ty) (Mv:Nat->Prop) (G:YI) (N:Fr) (db:List Nat) (K:St->Prop):List (Nat×Oper)->St->Prop
 | [],σ=>K σ
 | (i,o) :: rest,σ=>ac5 P T Mv G N db i o σ (nW P T Mv G N db K rest)
theorem V6 {K:St->Prop}:∀ (l:List Nat) (σ:St),(∀ i∈l,i < ops.size)->nW P T Mv G N db K (YP ops l) σ->∃ aY,K aY/\r6 P T Mv G N db ops l σ aY:=by
 intro l
 induction l with
 | nil=>intro σ _ h;exact⟨σ,h,rfl⟩
 | cons i l ih=>
  intro σ hl h;have hi:=hl i (by simp)
  have ho:ops[i]? = some ops[i]:=by simp[hi]
  simp only[YP,ho]at h;generalize ops[i]=o at ho h;simp only[nW,ac5]at h;obtain⟨hd,bW,h⟩:=h
  have fin:∀ YK,j5 P T Mv G N db i o σ YK->nW P T Mv G N db K (YP ops l) YK->∃ aY,K aY/\r6 P T Mv G N db ops (i :: l) σ aY:=fun YK hs h1=>by
   obtain⟨aY,hk,hr⟩:=ih YK (fun j hj=>hl j (by simp[hj])) h1;exact⟨aY,hk,o,ho,YK,hs,hr⟩
  split at h
  .rename_i hb;split at h
   .rename_i c y hw;obtain⟨hc,h⟩:=h;exact fin _ ⟨hd,bW,.inl ⟨hb,c,y,hw,hc,rfl⟩⟩ h
   .exact h.elim
  .rename_i hb
   have hb:db.contains i=false:=by simpa using hb
   obtain⟨hk,h⟩:=h;split at h
   .rename_i c hc;obtain⟨y,g,ds,ht,hp,dN,h⟩:=h;refine fin _ ⟨hd,bW,.inr ⟨hb,hk,.d y,σ.H,?_,rfl⟩⟩ h;unfold Ex;simp only[hc];exact⟨y,⟨g,_,ht,.inl ⟨ds,rfl,hp⟩⟩,rfl,trivial⟩
   .rename_i hc;unfold pa at h;split at h
    .rename_i hw;split at h
     .rename_i c x YK h1;obtain⟨YY,dN,h⟩:=h;have he:=si hk h1;obtain⟨e,H⟩:=σ;obtain⟨e1,H1⟩:=YK;dsimp only at he;subst he;refine fin _ ⟨hd,bW,.inr ⟨hb,hk,x,H1,?_,rfl⟩⟩ h;unfold Ex;simp only[hc];rw[if_pos hw];exact⟨c,h1,YY⟩
     .exact h.elim
    .rename_i hw;split at h
     .rename_i c x h1;obtain⟨YY,dN,h⟩:=h;refine fin _ ⟨hd,bW,.inr ⟨hb,hk,x,σ.H,?_,rfl⟩⟩ h;unfold Ex;simp only[hc];rw[if_neg hw];exact⟨c,h1,YY,trivial⟩
     .exact h.elim
theorem Kk (hg:Good P T) (hm:P.follows .mixedOrders=true) (db:List Nat) (ord:List Nat) {id:Nat} (bp:uJ db ord ops=true) {Q:Exit->St->Prop} {σ:St} (h:nW P T Mv G N db (fun ag=>Q .normal ag) (YP ops ord) σ):AW P Mv X G N (.region id ops true) Q σ:=fun w μ a hi=>by
 unfold uJ at bp;simp only[Bool.and_eq_true]at bp;obtain⟨⟨⟨⟨⟨h1,h2⟩,h3⟩,h4⟩,h5⟩,h6⟩:=bp
 have hlen:ord.length=ops.size:=by simpa using h1
 have YJ:∀ i∈ord,i < ops.size:=fun i hi=>by simpa using List.all_eq_true.1 h2 i hi
 have bw:∀ i,i < ops.size->i∈ord:=fun i hi=>by simpa using List.all_eq_true.1 h3 i (List.mem_range.2 hi)
 have ZT:ord.Nodup:=by simpa using h4
 have abA:∀ j oj,ops[j]? = some oj->∀ e∈oj.after,Region.binds .any e=true->e.on < j:=fun j oj bf e he hb=>by
  have:=List.all_eq_true.1 h5 j (List.mem_range.2 (Array.getElem?_eq_some_iff.1 bf).1);simp only[bf]at this;have:=Array.all_eq_true_iff_forall_mem.1 this e he;simpa[hb]using this
 obtain⟨aY,hQ,bt⟩:=V6 ord σ YJ h;refine wpIn_region_any hm ?_;obtain⟨ax,aD⟩:=hi.iW (Mv:=Mv) (bT.drew w);refine KM hg abA hQ ops.size ord _ w.drew μ a σ hlen ZT (fun j=>?_) (by simp) (Ie h6) ?_ bt ax aD
 .constructor
  .intro hj;have:=YJ j hj;simp[Array.getD_eq_getD_getElem?,this]
  .intro hj;exact bw j hj.1
 .intro j oj bf cX;have hj:=(Array.getElem?_eq_some_iff.1 bf).1;simp[Array.getD_eq_getD_getElem?,hj]at cX
theorem Kg (hg:Good P T) (hm:P.follows .mixedOrders=true) (db:List Nat) (ord:List Nat) {id:Nat} (bp:uJ db ord ops=true) {Q:Exit->St->Prop} {σ:St}
  (h:∀ K:St->Prop,(∀ τ:St,Q .normal τ->K τ)->nW P T Mv G N db K (YP ops ord) σ):AW P Mv X G N (.region id ops true) Q σ:=Kk hg hm db ord bp (h _ fun _ h=>h)
theorem C4 {K:St->Prop} {i:Nat} {l:List Nat} {o:Oper} (ho:ops[i]? = some o) (h:∀ K':St->Prop,(∀ τ,nW P T Mv G N db K (YP ops l) τ->K' τ)->ac5 P T Mv G N db i o σ K'):nW P T Mv G N db K (YP ops (i :: l)) σ:=by
 have:YP ops (i :: l)=(i,o) :: YP ops l:=by simp[YP,ho]
 rw[this];exact h _ fun _ h=>h
theorem V5 {K:St->Prop} (h:K σ):nW P T Mv G N db K (YP ops []) σ:=h
end
attribute [simp] ac5 iR
end Go.Av
namespace Go.Av
def G9:Op->Bool
 | .insert _ _ _ _=>true
 | _=>false
def xW (G:YI) (e:Env) (o:Op) (r:Nat):Prop:=match o with
 | .insert _ m _ _=>aU G e m=some (.mp r)
 | _=>False
def sd (G:YI) (fp:List (Nat×Nat)) (e:Env) (i:Nat) (o:Op):Prop:=match fp.lookup i with
 | some r=>if G9 o=true then xW G e o r else o7 G e o r
 | none=>True
section
variable {P:Program} {T:Ty} {Mv X:Nat->Prop} {G:YI} {N:Fr} {ops:Array Oper} {fp:List (Nat×Nat)} {cn:List Nat}
theorem Ex.Wv {o:Oper} {e:Env} {H H':Heap} {x:AV} {r:Nat} (ht:xW G e o.op r) (h:Ex P T Mv G o e H x H') :
  ∃ u,H'=gp H r u/\∀ H2,H2 r=H r->Ex P T Mv G o e H2 x (gp H2 r u):=by
 obtain⟨dst,op,type,pos,after,guard⟩:=o;dsimp only at ht;cases op<;>simp only[xW]at ht
 case insert t m k v=>
  unfold Ex at h;simp only[Y0,Zr,if_true]at h;obtain⟨c,h1,h3⟩:=h
  cases dst with
  | some d=>simp[wr]at h1
  | none=>
   simp only[wr,ht]at h1;split at h1
   .rename_i q key y hm hk hv;simp only[Option.some.injEq,AV.mp.injEq]at hm;subst hm;split at h1
    .rename_i ty ents hr;split at h1
     .rename_i c' aab hp;simp only[Option.some.injEq,Prod.mk.injEq,St.mk.injEq,true_and]at h1;obtain⟨rfl,rfl,rfl⟩:=h1;refine⟨some (.mp ty aab),rfl,fun H2 h2=>?_⟩;unfold Ex;simp only[Y0,Zr,if_true];exact⟨_,by simp only[wr,ht,hk,hv,h2,hr,hp];rfl,h3⟩
     .cases h1
    .cases h1
   .cases h1
theorem Ex.sd {o:Oper} {e:Env} {H H':Heap} {x:AV} {r i:Nat} (hr:fp.lookup i=some r) (ht:Av.sd G fp e i o.op) (h:Ex P T Mv G o e H x H') :
  ∃ u,H'=gp H r u/\∀ H2,H2 r=H r->Ex P T Mv G o e H2 x (gp H2 r u):=by
 unfold Av.sd at ht;simp only[hr]at ht;split at ht
 .exact h.Wv ht
 .exact h.vb ht
theorem Ex.call {o:Oper} {e:Env} {H H':Heap} {x:AV} (hn:Y0 o.op≠none) (h:Ex P T Mv G o e H x H'):H'=H:=by
 cases hc:Y0 o.op with
 | none=>exact absurd hc hn
 | some c=>
  unfold Ex at h;simp only[hc]at h;exact h.choose_spec.2.2
def DG (P:Program) (T:Ty) (Mv:Nat->Prop) (G:YI) (N:Fr) (ops:Array Oper) (fp:List (Nat×Nat)) (cn:List Nat) (cl:List (Nat×AV)) (i:Nat) (o:Oper) (σ ag:St):Prop:=
 kindOf o.op≠9/\(∃ x H',Sx P T Mv G N ops o σ.env σ.H x H'/\ag=⟨au σ.env o.dst x,H'⟩/\(Y0 o.op≠none->fc ops σ.env o=some true->cl.lookup i=some x)/\(cn.contains i=true->fc ops σ.env o=some true->Y0 o.op≠none/\∀ H2,Ex P T Mv G o σ.env H2 x H2))/\(fc ops σ.env o=some true->sd G fp σ.env i o.op)
theorem DG.to {cl:List (Nat×AV)} {i:Nat} {o:Oper} {σ ag:St} (h:DG P T Mv G N ops fp cn cl i o σ ag):qE P T Mv G N ops o σ ag:=by
 obtain⟨hk,⟨x,H',hs,e,_,_⟩,_⟩:=h;exact (nR hk).2 ⟨x,H',hs,e⟩
variable {cl:List (Nat×AV)}
def za (P:Program) (G:YI) (cl:List (Nat×AV)) (i:Nat) (c:Call) (σ:St) (dst:Option Tmp) (next:St->Prop):Prop:=∃ y,cl.lookup i=some (.d y)/\(∀ H2,sB P G ⟨σ.env,H2⟩ c y)/\next ⟨au σ.env dst (.d y),σ.H⟩
theorem za.data {i:Nat} {c:Call} {σ:St} {g:FuncId} {xs:List AV} {ds dk:List D} {y:D} {dst:Option Tmp} {next:St->Prop} (hc:aq P G g ds y) (bQ:cl.lookup i=some (.d y)) (ht:ZS G σ.env c=some (g,xs)) (hx:Z9 xs=some dk) (hle:D.le.go dk ds) (h:next ⟨au σ.env dst (.d y),σ.H⟩):za P G cl i c σ dst next:=
 ⟨y,bQ,fun _=>⟨g,xs,ht,.inl ⟨dk,j9 hx,hc.abd hle⟩⟩,h⟩
def JD (P:Program) (T:Ty) (Mv:Nat->Prop) (G:YI) (N:Fr) (ops:Array Oper) (fp:List (Nat×Nat)) (cn:List Nat) (cl:List (Nat×AV)) (i:Nat) (o:Oper) (σ:St) (K:St->Prop):Prop:=c8 N o/\kindOf o.op≠9/\match fc ops σ.env o with
 | some b=>if b=true then sd G fp σ.env i o.op/\(match Y0 o.op with
  | some c=>za P G cl i c σ o.dst K
  | none=>cn.contains i=false/\kz T G Mv o σ K) else K ⟨au σ.env o.dst Y2,σ.H⟩
 | none=>False
theorem sK (κ:Value) (p:Value×D) (l:List (Value×D)):aeN κ (p :: l)=if dP κ p.1=true then some p.2 else aeN κ l:=by
 unfold aeN;rw[List.find?_cons];cases h:dP κ p.1<;>rfl
theorem Ey {d:TypeDesc} {κ k:Value} {x:D} (BH:eB d κ=true) (hk:eB d k=true):∀ (l:List (Value×D)),(∀ p∈l,eB d p.1=true)->aeN κ (jD k x l)=if dP κ k=true then some x else aeN κ l
 | [],_=>sK κ (k,x) []
 | p :: l,hp=>by
  have lQ:=hp p (by simp);have ih:=Ey BH hk (x:=x) l fun q hq=>hp q (by simp[hq])
  have e:jD k x (p :: l)=if dP k p.1 then (k,x) :: l else p :: jD k x l:=by
   unfold jD;rw[List.findIdx?_cons]
   cases h:dP k p.1 with
   | true=>simp
   | false=>
    simp only[Bool.false_eq_true,if_false];cases List.findIdx? (fun p=>dP k p.1) l<;>simp
  rw[e];by_cases h:dP k p.1=true
  .rw[if_pos h];have fC:=ur hk lQ h;rw[sK,sK,fC];dsimp only;split<;>rfl
  .rw[if_neg h,sK,sK,ih];by_cases h3:dP κ p.1=true
   .have:¬ dP κ k=true:=fun h2=>by
     have e1:=ur BH lQ h3;have e2:=ur BH hk h2;rw[e2]at h;exact h h3
    rw[if_neg this,if_pos h3,if_neg this]
   .rw[if_neg h3,if_neg h3]
attribute [simp] JD sd G9 xW
end
end Go.Av
namespace Go.Av
def Kz (P:Program) (t:TypeId) (name:String) (g:FuncId):Prop:=∀ (v:Value) (w:World),(invoke (.fn (.method name) #[]) #[.iface t v]).run P w = .ok (.enter g #[v]) w
def G8:Op->Option (Operand×String)
 | .call { callee:=.invoke r name,args:=az,argTypes:=_ }=>if az.isEmpty then some (r,name) else none
 | _=>none
def iN (P:Program) (T:Ty) (Mv X:Nat->Prop) (G:YI) (N:Fr) (ops:Array Oper) (o:Oper) (σ:St) (K:St->Prop):Prop:=c8 N o/\match fc ops σ.env o with
 | some b=>if b=true then (match G8 o.op with
  | some (r,name)=>∃ t x g,aU G σ.env r=some (.d (.bh t x))/\Kz P t name g/\bU P Mv X G N g [.d x] σ o.dst K
  | none=>ex1 P T Mv X G N o σ K) else K ⟨au σ.env o.dst Y2,σ.H⟩
 | none=>False
section
variable {P:Program} {T:Ty} {Mv X:Nat->Prop} {G:YI} {N:Fr} {w:World} {μ:Mu} {a:Act} {σ:St}
attribute [simp] iN G8 ex1
end
