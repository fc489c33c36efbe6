/-
  Texts that belong together,in one file: Av35,Av28,Av29,Av30.
-/
import Derived.Test.YtpboiimemmfkiaaGreatDoorRp8
set_option linter.unusedSectionVars false
set_option linter.unusedSimpArgs false
set_option linter.unusedVariables false
namespace Go.Av
theorem Aq {p q:Prop} (h:p) (k:q):p∧q:=⟨h,k⟩
section
variable {P:Program} {Mv X:Nat→Prop} {G:Glob} {N:Fr} {σ τ τ':St} {p:Prop}
theorem rg0 (l ns:List Nat) {id:Nat} {ops:Array Oper} {y:Code} {Q:Exit→St→Prop} (k:AW P Mv X G N y Q τ')
  (hM:∀ r,ns.contains r=false→Mv r:=by first | exact fun _ _=>trivial | exact notIn_ok rfl)
  (h:∀ K':St→Prop,K' τ→sxf P (tyOf P) Mv X G N ops K' ops.toList σ:=by
   intro K' hK'
   repeat (refine sxn fun K2 hK2=>?_;simp;(repeat (refine ⟨by omega,?_⟩));refine hK2 _ ?_;clear hK2 K2)
   exact sxz hK')
  (hn:τ.norm l ns=τ':=by simp;rfl):AW P Mv X G N (.seq (.region id ops false) y) Q σ:=
 rg l ns hM fun K hK=>h K (hK _ (hn ▸ k))
theorem rgq (q:p) (l ns:List Nat) {id:Nat} {ops:Array Oper} {y:Code} {Q:Exit→St→Prop} (k:AW P Mv X G N y Q τ')
  (hM:∀ r,ns.contains r=false→Mv r:=by first | exact fun _ _=>trivial | exact notIn_ok rfl)
  (h:p→∀ K':St→Prop,K' τ→sxf P (tyOf P) Mv X G N ops K' ops.toList σ:=by
   intro q K' hK'
   repeat (refine sxn fun K2 hK2=>?_;simp [q];(repeat (refine ⟨by omega,?_⟩));refine hK2 _ ?_;clear hK2 K2)
   exact sxz hK')
  (hn:p→τ.norm l ns=τ':=by intro q;simp [q];rfl):AW P Mv X G N (.seq (.region id ops false) y) Q σ:=
 rg l ns hM fun K hK=>h q K (hK _ (hn q ▸ k))
theorem rgc (q:p) {g:FuncId} {ds:List D} {yd:D} (hc:PureC P G g ds yd) (l ns:List Nat) {id:Nat} {ops:Array Oper} {y:Code} {Q:Exit→St→Prop} (k:AW P Mv X G N y Q τ')
  (hM:∀ r,ns.contains r=false→Mv r:=by first | exact fun _ _=>trivial | exact notIn_ok rfl)
  (h:p→PureC P G g ds yd→∀ K':St→Prop,K' τ→sxf P (tyOf P) Mv X G N ops K' ops.toList σ:=by
   intro q hc K' hK'
   (repeat (refine sxn fun K2 hK2=>?_;simp [q];(repeat (refine ⟨by omega,?_⟩));refine hK2 _ ?_;clear hK2 K2));refine sxn fun K2 hK2=>?_;simp [q];refine callK.data hc (by simp;rfl) (by first | exact D.leGo_refl _ | simp [takeMap,List.map_map,Function.comp_def,D.le,D.le.go,D.le_refl,D.leGo_refl,q]) ?_;refine hK2 _ ?_;clear hK2 K2;simp only [putd,upd_lst];repeat (refine sxn fun K2 hK2=>?_;simp [q];(repeat (refine ⟨by omega,?_⟩));refine hK2 _ ?_;clear hK2 K2)
   exact sxz hK')
  (hn:p→τ.norm l ns=τ':=by intro q;simp [q];rfl):AW P Mv X G N (.seq (.region id ops false) y) Q σ:=
 rg l ns hM fun K hK=>h q hc K (hK _ (hn q ▸ k))
theorem rgm (q:p) {fx:List Nat} {g:FuncId} {xs:List AV} {rows1 rows2:List (Nat×Row)} {yv:AV} (hc:MC P G fx g xs (hlst rows1) yv (hlst rows2)) (l ns:List Nat) {id:Nat} {ops:Array Oper} {y:Code} {Q:Exit→St→Prop} (k:AW P Mv X G N y Q τ')
  (hM:∀ r,ns.contains r=false→Mv r:=by first | exact fun _ _=>trivial | exact notIn_ok rfl)
  (h:p→MC P G fx g xs (hlst rows1) yv (hlst rows2)→∀ K':St→Prop,K' τ→sxf P (tyOf P) Mv X G N ops K' ops.toList σ:=by
   intro q hc K' hK'
   (repeat (refine sxn fun K2 hK2=>?_;simp [q];(repeat (refine ⟨by omega,?_⟩));refine hK2 _ ?_;clear hK2 K2));refine sxn fun K2 hK2=>?_;simp [q];refine callK.mc hc (by simp [q]) (by simp [q]) (by simp [q]) (by simp [q]) ?_;simp [q];refine hK2 _ ?_;clear hK2 K2;repeat (refine sxn fun K2 hK2=>?_;simp [q];(repeat (refine ⟨by omega,?_⟩));refine hK2 _ ?_;clear hK2 K2)
   exact sxz hK')
  (hn:p→τ.norm l ns=τ':=by intro q;simp [q];rfl):AW P Mv X G N (.seq (.region id ops false) y) Q σ:=
 rg l ns hM fun K hK=>h q hc K (hK _ (hn q ▸ k))
theorem rdq (q:p) (l ns:List Nat) {id:Nat} {ops:Array Oper} {y:Code} {Q:Exit→St→Prop} (k:AW P Mv X G N y Q τ')
  (hm:P.follows .mixedOrders=true:=by kernel_rfl) (hok:okDraw ops=true:=by kernel_rfl)
  (hM:∀ r,ns.contains r=false→Mv r:=by first | exact fun _ _=>trivial | exact notIn_ok rfl)
  (h:p→∀ K':St→Prop,K' τ→sxd P (tyOf P) Mv G N ops K' ops.toList σ:=by
   intro q K' hK'
   repeat (refine sxd_next fun K2 hK2=>?_;simp [q];(repeat (refine ⟨by omega,?_⟩));refine hK2 _ ?_;clear hK2 K2)
   exact sxd_nil hK')
  (hn:p→τ.norm l ns=τ':=by intro q;simp [q];rfl):AW P Mv X G N (.seq (.region id ops true) y) Q σ:=
 AW_rd (tyOf_good _) hm l ns hM hok fun K hK=>h q K (hK _ (hn q ▸ k))
theorem rdc (q:p) {g:FuncId} {ds:List D} {yd:D} (hc:PureC P G g ds yd) (l ns:List Nat) {id:Nat} {ops:Array Oper} {y:Code} {Q:Exit→St→Prop} (k:AW P Mv X G N y Q τ')
  (hm:P.follows .mixedOrders=true:=by kernel_rfl) (hok:okDraw ops=true:=by kernel_rfl)
  (hM:∀ r,ns.contains r=false→Mv r:=by first | exact fun _ _=>trivial | exact notIn_ok rfl)
  (h:p→PureC P G g ds yd→∀ K':St→Prop,K' τ→sxd P (tyOf P) Mv G N ops K' ops.toList σ:=by
   intro q hc K' hK'
   (repeat (refine sxd_next fun K2 hK2=>?_;simp [q];(repeat (refine ⟨by omega,?_⟩));refine hK2 _ ?_;clear hK2 K2));refine sxd_next fun K2 hK2=>?_;simp [q];refine callQ.data hc (by simp;rfl) (by simp;rfl) (by first | exact D.leGo_refl _ | simp [takeMap,List.map_map,Function.comp_def,D.le,D.le.go,D.le_refl,D.leGo_refl,q]) ?_;refine hK2 _ ?_;clear hK2 K2;simp only [putd,upd_lst];repeat (refine sxd_next fun K2 hK2=>?_;simp [q];(repeat (refine ⟨by omega,?_⟩));refine hK2 _ ?_;clear hK2 K2)
   exact sxd_nil hK')
  (hn:p→τ.norm l ns=τ':=by intro q;simp [q];rfl):AW P Mv X G N (.seq (.region id ops true) y) Q σ:=
 AW_rd (tyOf_good _) hm l ns hM hok fun K hK=>h q hc K (hK _ (hn q ▸ k))
theorem reK (q:p) {K0:St→Prop} {y:Code} {Q Q2:Exit→St→Prop} (hk:∀ σ',AW P Mv X G N y Q2 σ'→K0 σ') (l ns:List Nat) {id:Nat} {ops:Array Oper} (k:AW P Mv X G N y Q2 τ')
  (hq:∀ τ,K0 τ→Q .normal τ:=by exact fun _ h=>h)
  (hM:∀ r,ns.contains r=false→Mv r:=by first | exact fun _ _=>trivial | exact notIn_ok rfl)
  (h:p→∀ K':St→Prop,K' τ→sxf P (tyOf P) Mv X G N ops K' ops.toList σ:=by
   intro q K' hK'
   repeat (refine sxn fun K2 hK2=>?_;simp [q];(repeat (refine ⟨by omega,?_⟩));refine hK2 _ ?_;clear hK2 K2)
   exact sxz hK')
  (hn:p→τ.norm l ns=τ':=by intro q;simp [q];rfl):AW P Mv X G N (.region id ops false) Q σ:=
 AW_re (tyOf_good _) fun K hK=>h q K (hK _ (hq _ (hk _ (AW.norm l ns hM (hn q ▸ k)))))
theorem rgqv (l ns:List Nat) {id:Nat} {ops:Array Oper} {y:Code} {Q:Exit→St→Prop} (k:AW P Mv X G N y Q τ')
  (hM:∀ r,ns.contains r=false→Mv r:=by first | exact fun _ _=>trivial | exact notIn_ok rfl)
  (h:∀ K':St→Prop,K' τ→sxf P (tyOf P) Mv X G N ops K' ops.toList σ:=by
   intro K' hK'
   repeat (refine sxn fun K2 hK2=>?_;simp [qf];(repeat (refine ⟨by omega,?_⟩));refine hK2 _ ?_;clear hK2 K2)
   exact sxz hK')
  (hn:τ.norm l ns=τ':=by simp [qf];rfl):AW P Mv X G N (.seq (.region id ops false) y) Q σ:=
 rg l ns hM fun K hK=>h K (hK _ (hn ▸ k))
theorem rgcv {g:FuncId} {ds:List D} {yd:D} (hc:PureC P G g ds yd) (l ns:List Nat) {id:Nat} {ops:Array Oper} {y:Code} {Q:Exit→St→Prop} (k:AW P Mv X G N y Q τ')
  (hM:∀ r,ns.contains r=false→Mv r:=by first | exact fun _ _=>trivial | exact notIn_ok rfl)
  (h:PureC P G g ds yd→∀ K':St→Prop,K' τ→sxf P (tyOf P) Mv X G N ops K' ops.toList σ:=by
   intro hc K' hK'
   (repeat (refine sxn fun K2 hK2=>?_;simp [qf];(repeat (refine ⟨by omega,?_⟩));refine hK2 _ ?_;clear hK2 K2));refine sxn fun K2 hK2=>?_;simp [qf];refine callK.data hc (by simp;rfl) (by first | exact D.leGo_refl _ | simp [takeMap,List.map_map,Function.comp_def,D.le,D.le.go,D.le_refl,D.leGo_refl,qf]) ?_;refine hK2 _ ?_;clear hK2 K2;simp only [putd,upd_lst];repeat (refine sxn fun K2 hK2=>?_;simp [qf];(repeat (refine ⟨by omega,?_⟩));refine hK2 _ ?_;clear hK2 K2)
   exact sxz hK')
  (hn:τ.norm l ns=τ':=by simp [qf];rfl):AW P Mv X G N (.seq (.region id ops false) y) Q σ:=
 rg l ns hM fun K hK=>h hc K (hK _ (hn ▸ k))
theorem rgmv {fx:List Nat} {g:FuncId} {xs:List AV} {rows1 rows2:List (Nat×Row)} {yv:AV} (hc:MC P G fx g xs (hlst rows1) yv (hlst rows2)) (l ns:List Nat) {id:Nat} {ops:Array Oper} {y:Code} {Q:Exit→St→Prop} (k:AW P Mv X G N y Q τ')
  (hM:∀ r,ns.contains r=false→Mv r:=by first | exact fun _ _=>trivial | exact notIn_ok rfl)
  (h:MC P G fx g xs (hlst rows1) yv (hlst rows2)→∀ K':St→Prop,K' τ→sxf P (tyOf P) Mv X G N ops K' ops.toList σ:=by
   intro hc K' hK'
   (repeat (refine sxn fun K2 hK2=>?_;simp [qf];(repeat (refine ⟨by omega,?_⟩));refine hK2 _ ?_;clear hK2 K2));refine sxn fun K2 hK2=>?_;simp [qf];refine callK.mc hc (by simp [qf]) (by simp [qf]) (by simp [qf]) (by simp [qf]) ?_;simp [qf];refine hK2 _ ?_;clear hK2 K2;repeat (refine sxn fun K2 hK2=>?_;simp [qf];(repeat (refine ⟨by omega,?_⟩));refine hK2 _ ?_;clear hK2 K2)
   exact sxz hK')
  (hn:τ.norm l ns=τ':=by simp [qf];rfl):AW P Mv X G N (.seq (.region id ops false) y) Q σ:=
 rg l ns hM fun K hK=>h hc K (hK _ (hn ▸ k))
theorem rdqv (l ns:List Nat) {id:Nat} {ops:Array Oper} {y:Code} {Q:Exit→St→Prop} (k:AW P Mv X G N y Q τ')
  (hm:P.follows .mixedOrders=true:=by kernel_rfl) (hok:okDraw ops=true:=by kernel_rfl)
  (hM:∀ r,ns.contains r=false→Mv r:=by first | exact fun _ _=>trivial | exact notIn_ok rfl)
  (h:∀ K':St→Prop,K' τ→sxd P (tyOf P) Mv G N ops K' ops.toList σ:=by
   intro K' hK'
   repeat (refine sxd_next fun K2 hK2=>?_;simp [qf];(repeat (refine ⟨by omega,?_⟩));refine hK2 _ ?_;clear hK2 K2)
   exact sxd_nil hK')
  (hn:τ.norm l ns=τ':=by simp [qf];rfl):AW P Mv X G N (.seq (.region id ops true) y) Q σ:=
 AW_rd (tyOf_good _) hm l ns hM hok fun K hK=>h K (hK _ (hn ▸ k))
theorem rdcv {g:FuncId} {ds:List D} {yd:D} (hc:PureC P G g ds yd) (l ns:List Nat) {id:Nat} {ops:Array Oper} {y:Code} {Q:Exit→St→Prop} (k:AW P Mv X G N y Q τ')
  (hm:P.follows .mixedOrders=true:=by kernel_rfl) (hok:okDraw ops=true:=by kernel_rfl)
  (hM:∀ r,ns.contains r=false→Mv r:=by first | exact fun _ _=>trivial | exact notIn_ok rfl)
  (h:PureC P G g ds yd→∀ K':St→Prop,K' τ→sxd P (tyOf P) Mv G N ops K' ops.toList σ:=by
   intro hc K' hK'
   (repeat (refine sxd_next fun K2 hK2=>?_;simp [qf];(repeat (refine ⟨by omega,?_⟩));refine hK2 _ ?_;clear hK2 K2));refine sxd_next fun K2 hK2=>?_;simp [qf];refine callQ.data hc (by simp;rfl) (by simp;rfl) (by first | exact D.leGo_refl _ | simp [takeMap,List.map_map,Function.comp_def,D.le,D.le.go,D.le_refl,D.leGo_refl,qf]) ?_;refine hK2 _ ?_;clear hK2 K2;simp only [putd,upd_lst];repeat (refine sxd_next fun K2 hK2=>?_;simp [qf];(repeat (refine ⟨by omega,?_⟩));refine hK2 _ ?_;clear hK2 K2)
   exact sxd_nil hK')
  (hn:τ.norm l ns=τ':=by simp [qf];rfl):AW P Mv X G N (.seq (.region id ops true) y) Q σ:=
 AW_rd (tyOf_good _) hm l ns hM hok fun K hK=>h hc K (hK _ (hn ▸ k))
theorem reKv {K0:St→Prop} {y:Code} {Q Q2:Exit→St→Prop} (hk:∀ σ',AW P Mv X G N y Q2 σ'→K0 σ') (l ns:List Nat) {id:Nat} {ops:Array Oper} (k:AW P Mv X G N y Q2 τ')
  (hq:∀ τ,K0 τ→Q .normal τ:=by exact fun _ h=>h)
  (hM:∀ r,ns.contains r=false→Mv r:=by first | exact fun _ _=>trivial | exact notIn_ok rfl)
  (h:∀ K':St→Prop,K' τ→sxf P (tyOf P) Mv X G N ops K' ops.toList σ:=by
   intro K' hK'
   repeat (refine sxn fun K2 hK2=>?_;simp [qf];(repeat (refine ⟨by omega,?_⟩));refine hK2 _ ?_;clear hK2 K2)
   exact sxz hK')
  (hn:τ.norm l ns=τ':=by simp [qf];rfl):AW P Mv X G N (.region id ops false) Q σ:=
 AW_re (tyOf_good _) fun K hK=>h K (hK _ (hq _ (hk _ (AW.norm l ns hM (hn ▸ k)))))
end
end Go.Av
namespace Go.Av
def dataW (T:Ty) (G:Glob) (e:Env) (o:Oper):Option (Prop×D):=match o.op,o.dst with
 | .box _ x,some _=>match (aeval G e x).bind valCells with
  | some cs=>match allD cs with
   | some ds=>some (True,.ip ds)
   | none=>none
  | none=>none
 | .buildSlice t len parts,some _=>match T t with
  | some tt=>match tt.desc with
   | .slice q=>match T q,evalP G e parts.toList with
    | some te,some ps=>match catD te.size 0 ps with
     | some els=>some (ps.length=len∧0 < te.size∧len * te.size≤16777216,.sl none els)
     | none=>none
    | _,_=>none
   | _=>none
  | none=>none
 | .makeSlice t l c,some _=>match T t with
  | some tt=>match tt.desc with
   | .slice q=>match T q,aeval G e l,aeval G e c with
    | some te,some (.d (.v (.int _ n))),some (.d (.v (.int _ m)))=>some (0≤n∧n≤m∧te.bytes * m≤281474976710656∧m≤9223372036854775807∧0 < te.size∧(zeroD te.zero).length=te.size,.sl none (makeEls te n.toNat))
    | _,_,_=>none
   | _=>none
  | none=>none
 | _,_=>none
section
variable {P:Program} {T:Ty} {Mv X:Nat→Prop} {G:Glob} {N:Fr} {w:World} {μ:Mu} {a:Act} {σ:St}
theorem dataW_congr {o:Oper} {e e':Env} (h:Agree o.op e e'):dataW T G e o=dataW T G e' o:=by
 obtain ⟨dst,op,type,pos,after,guard⟩:=o
 unfold Agree at h
 dsimp only at h
 unfold dataW
 cases op<;>try rfl
 case box t x=>
  cases dst with
  | none=>rfl
  | some d=>
   dsimp only
   rw [aeval_congr (x:=x) fun t ht=>h t (by simp [Op.operands,ht])]
 case buildSlice t n ps=>
  cases dst with
  | none=>rfl
  | some d=>
   dsimp only
   rw [evalP_congr (l:=ps.toList) fun t ht=>h t (by simpa [Op.operands] using ht)]
 case makeSlice t x y=>
  cases dst with
  | none=>rfl
  | some d=>
   dsimp only
   rw [aeval_congr (x:=x) fun t ht=>h t (by simp [Op.operands,ht]),aeval_congr (x:=y) fun t ht=>h t (by simp [Op.operands,ht])]
theorem new_free (hi:In w X G μ N a σ):¬ XX X μ w.heap.size:=by
 rintro (h | h)
 ·exact Nat.lt_irrefl _ (hi.sim.fits _ h)
 ·exact Nat.lt_irrefl _ (hi.sim.blk_lt h)
theorem new_cell (w:World) (cur:Array Value) (t:TypeId) {o:Nat} {v:Value} (h:cur[o]? = some v):(w.alloc (.cells cur t)).cell? ⟨w.heap.size,o,none⟩=some v:=by
 rw [cell_of_row _ w.heap.size o cur t (0,0) (by simpa using heap_alloc_new w (.cells cur t))];exact h
theorem dataW_ok (hg:Good P T) (hi:In w X G μ N a σ) {o:Oper} {c:Prop} {y:D} (h:dataW T G σ.env o=some (c,y)) (hc:c) :
  ∃ v w',(execOp a.eval o).run P w = .ok (.value v) w'∧In w' X G μ N a σ∧RV w' X μ v (.d y)∧Ev Mv w μ w' μ:=by
 obtain ⟨dst,op,type,pos,after,guard⟩:=o
 unfold dataW at h
 dsimp only at h
 split at h
 ·rename_i t x d
  split at h
  ·rename_i cs hcs
   obtain ⟨z,hz,he⟩:=Option.bind_eq_some_iff.1 hcs
   split at h
   ·rename_i ds hds
    simp only [Option.some.injEq,Prod.mk.injEq] at h
    obtain ⟨rfl,rfl⟩:=h
    have hp:=valCells_ok (hi.eval hz) he
    rw [allD_eq hds] at hp
    obtain ⟨hin,hev⟩:=hi.grew (Mv:=Mv) (Grew.alloc w (.cells (a.eval x).cells t))
    refine ⟨.pointer (some ⟨w.heap.size,0,none⟩),_,by simp [execOp,Instr.box,newVar,newRow],hin,.d (.ip (f:=fun j=>(a.eval x).cells.getD j undef) (new_free hi) (by simp) (fun j hj=>?_) fun j c hj=>?_),hev⟩
    ·have hlt:j < (a.eval x).cells.size:=by rw [hp.size];simpa using hj
     exact new_cell w _ t (by simp [Array.getD_eq_getD_getElem?,hlt])
    ·have hlt:j < (a.eval x).cells.size:=by rw [hp.size];simpa using (List.getElem?_eq_some_iff.1 hj).1
     have:=(hp.at_ j _ (.d c) (Array.getElem?_eq_getElem hlt) (by rw [List.getElem?_map,hj];rfl)).data
     rw [Array.getD_eq_getD_getElem?,Array.getElem?_eq_getElem hlt];exact this.ev hev
   ·cases h
  ·cases h
 ·rename_i t len parts d
  split at h
  ·rename_i tt htt
   split at h
   ·rename_i q hdd
    split at h
    ·rename_i te ps hte hps
     split at h
     ·rename_i els hels
      simp only [Option.some.injEq,Prod.mk.injEq] at h
      obtain ⟨rfl,rfl⟩:=h
      obtain ⟨g2,g3,g4⟩:=hc
      obtain ⟨hv,hr⟩:=hi.evalP hps
      have hu:=hg.und (w:=w) htt
      have hsz:=hg.sizeOf (w:=w) hte
      have hzv:=hg.zero (w:=w) hte
      obtain ⟨arr',hf,hsz',_,hl,hall,hnew⟩:=fill_cat (w:=w) (X:=X) (μ:=μ) (sz:=te.size) ps (parts.toList.map fun p=>(p.1,a.eval p.2)) 0 els ((Array.range (len * te.size)).map ((if len * te.size=0 then #[] else te.zero.cells)[· % (if len * te.size=0 then #[] else te.zero.cells).size]!)) hels hv
       (fun i p v h1 h2=>hr i p v h1 h2) (by simp [g2])
      have hn:¬ len * te.size > 2 ^ 24:=by omega
      have e0:∀ f:Nat→Value,(Array.range 0).map f = #[]:=fun f=>by apply Array.ext<;>simp
      have hsz2:arr'.size=len * te.size:=by rw [hsz'];simp
      have hlen:els.length=len:=by omega
      obtain ⟨hin,hev⟩:=hi.grew (Mv:=Mv) (Grew.alloc w (.cells arr' q))
      have hrun:(Instr.buildSlice t len (parts.map fun p=>(p.1,a.eval p.2))).run P w = .ok (.slice (some ⟨w.heap.size,0,none⟩) len len) (w.alloc (.cells arr' q)):=by
       by_cases h0:len * te.size=0
       ·simp only [h0,if_true,e0] at hf;simp only [Instr.buildSlice,Sem.run_bind,hu,hdd,Result.andThen_ok,hsz,hn,if_false,h0,if_true,Sem.run_pure,e0];simp [hf,newRow]
       ·simp only [h0,if_false] at hf;simp only [Instr.buildSlice,Sem.run_bind,hu,hdd,Result.andThen_ok,hsz,hn,if_false,h0,Sem.run_pure,hzv];simp [hf,newRow]
      have hcap:len≤maxLen:=by
       have:len≤len * te.size:=Nat.le_mul_of_pos_right _ g3
       unfold maxLen;omega
      refine ⟨.slice (some ⟨w.heap.size,0,none⟩) len len,_,by simp [execOp,hrun],hin,.d ?_,hev⟩
      by_cases h0:len=0
      ·subst h0
       obtain rfl:=List.eq_nil_of_length_eq_zero hlen
       exact .empty (by simp) hcap
      ·refine .sl (sz:=te.size) (f:=fun i j=>arr'.getD (i * te.size+j) undef) (by simp) hlen (Nat.le_refl _) hcap (new_free hi) hall g3 (by omega) (fun i j hi' hj=>?_) fun i j el c h1 h2=>?_
       ·have hlt:i * te.size+j < arr'.size:=by
         rw [hsz2]
         have:(i+1) * te.size≤len * te.size:=Nat.mul_le_mul_right _ hi'
         rw [Nat.add_mul] at this
         omega
        rw [Nat.zero_add];exact new_cell w _ q (by simp [Array.getD_eq_getD_getElem?,hlt])
       ·obtain ⟨u,hu',hrd⟩:=hnew i j el c h1 h2
        rw [Nat.zero_add] at hu';rw [Array.getD_eq_getD_getElem?,hu'];exact hrd.ev hev
     ·cases h
    ·cases h
   ·cases h
  ·cases h
 ·rename_i t l c d
  split at h
  ·rename_i tt htt
   split at h
   ·rename_i q hdd
    split at h
    ·rename_i te k1 n k2 m hte hl hcc
     simp only [Option.some.injEq,Prod.mk.injEq] at h
     obtain ⟨rfl,rfl⟩:=h
     obtain ⟨h0,h1,h2,h3,hz,hzs⟩:=hc
     have el:a.eval l = .int k1 n:=(hi.eval hl).scalar
     have ec:a.eval c = .int k2 m:=(hi.eval hcc).scalar
     obtain ⟨hu,i0,hii,hs0,hb0,hz0,_⟩:=hg q te hte
     have ht:=(hg t tt htt).1
     rw [hdd] at ht
     have hrun:=run_make (P:=P) w t q i0 te.zero ht hii hz0 k1 k2 n m h0 h1 (by rw [hb0];exact h2) h3
     rw [hs0] at hrun
     have hsz:=size_madeCells te.zero.cells (m.toNat * te.size)
     obtain ⟨hin,hev⟩:=hi.grew (Mv:=Mv) (Grew.alloc w (.cells (madeCells te.zero.cells (m.toNat * te.size)) q))
     refine ⟨.slice (some ⟨w.heap.size,0,none⟩) n.toNat m.toNat,_,by simp [execOp,el,ec,hrun],hin,.d ?_,hev⟩
     by_cases hn0:n.toNat=0
     ·rw [show makeEls te n.toNat=[] by rw [hn0];rfl,hn0];exact .empty (by simp) (by unfold maxLen;omega)
     ·have hzc:=zeroD_ok (w:=w) (X:=XX X μ) te.zero
      have hcs:te.zero.cells.size=te.size:=by rw [hzc.1,hzs]
      have hin':∀ i j,i < n.toNat→j < te.size→i * te.size+j < m.toNat * te.size:=fun i j hi' hj=>by
       have:(i+1) * te.size≤m.toNat * te.size:=Nat.mul_le_mul_right _ (by omega)
       rw [Nat.add_mul] at this
       omega
      refine .sl (sz:=te.size) (f:=fun i j=>(madeCells te.zero.cells (m.toNat * te.size)).getD (i * te.size+j) undef) (by simp) (by simp [makeEls]) (by omega) (by unfold maxLen;omega) (new_free hi) (fun el hel=>by rw [List.eq_of_mem_replicate hel,hzs]) hz (by omega) (fun i j hi' hj=>?_) fun i j el d hel hd=>?_
      ·rw [Nat.zero_add];exact new_cell w _ q (by simp [Array.getD_eq_getD_getElem?,hsz,hin' i j hi' hj])
      ·unfold makeEls at hel;rw [List.getElem?_replicate] at hel
       split at hel
       ·rename_i hlt
        obtain rfl:=Option.some.inj hel
        have hj:j < te.size:=by rw [← hzs];exact (List.getElem?_eq_some_iff.1 hd).1
        have hjc:j < te.zero.cells.size:=by omega
        have hb:=hin' i j hlt hj
        have hmod:(i * te.size+j) % te.size=j:=by rw [Nat.mul_comm,Nat.mul_add_mod,Nat.mod_eq_of_lt hj]
        have hv:(madeCells te.zero.cells (m.toNat * te.size)).getD (i * te.size+j) undef=te.zero.cells[j]:=by
         simp [Array.getD_eq_getD_getElem?,madeCells,hb,hcs,hmod];exact getElem!_pos te.zero.cells j hjc
        rw [hv];exact (hzc.2 j _ d (by simp [hjc]) hd).ev hev
       ·cases hel
    ·cases h
   ·cases h
  ·cases h
 ·cases h
variable {ops:Array Oper} {db:List Nat}
def FStep (P:Program) (T:Ty) (Mv:Nat→Prop) (G:Glob) (N:Fr) (db:List Nat) (i:Nat) (o:Oper) (σ σ':St):Prop:=
 okDst N o∧o.guard=none∧((db.contains i=true∧∃ c y,dataW T G σ.env o=some (c,y)∧c∧σ'=⟨putd σ.env o.dst (.d y),σ.H⟩)∨
  (db.contains i=false∧kindOf o.op≠9∧∃ x H',Ex P T Mv G o σ.env σ.H x H'∧σ'=⟨putd σ.env o.dst x,H'⟩))
theorem FStep.ok (hg:Good P T) {o:Oper} {i:Nat} {σ':St} (h:FStep P T Mv G N db i o σ σ') (hi:In w X G μ N a σ) (ho:ops[i]? = some o) {Q:Exit→Act→World→Prop} {K:Act→World→Prop}
  (hk:∀ w' μ' a',In w' X G μ' N a' σ'→Ev Mv w μ w' μ'→K a' w'):wpOpIn (wd N.ro) 0 P ops Q i K a w:=by
 obtain ⟨hd,hgu,h⟩:=h
 have hd':∀ d,o.dst=some d→d < N.n:=fun d e=>by unfold okDst at hd;rw [e] at hd;exact hd
 rcases h with ⟨_,c,y,h1,h2,rfl⟩ | ⟨_,h9,x,H',h1,rfl⟩
 ·unfold wpOpIn;simp only [ho];rw [wantedS_ok hi (wantedS_free hgu),if_pos rfl];refine wpR (fun c e=>by simp [dataW,e] at h1) ?_
  obtain ⟨v,w',hr,hin,hrv,hev⟩:=dataW_ok (Mv:=Mv) hg hi h1 h2
  unfold Oper.wp;rw [hr];exact hk _ μ _ (hin.put hrv hd') hev
 ·exact stepTo_ok hg ⟨hd,.inl ⟨wantedS_free hgu,h1.to⟩⟩ hi ho hk
def compatB (db:List Nat) (ops:Array Oper) (i j:Nat) (oi oj:Oper):Bool:=oi.apart ops oj && (db.contains i || db.contains j || mayPass (kindOf oi.op) (kindOf oj.op))
theorem fswap {i j:Nat} {oi oj:Oper} (hc:compatB db ops i j oi oj=true) {σ σ1 σ2:St} (h1:FStep P T Mv G N db i oi σ σ1) (h2:FStep P T Mv G N db j oj σ1 σ2) :
  ∃ σ3,FStep P T Mv G N db j oj σ σ3∧FStep P T Mv G N db i oi σ3 σ2:=by
 simp only [compatB,Bool.and_eq_true] at hc
 obtain ⟨hap,hpass⟩:=hc
 obtain ⟨di,gi,h1⟩:=h1
 obtain ⟨dj,gj,h2⟩:=h2
 have agj:∀ v,Agree oj.op (putd σ.env oi.dst v) σ.env:=fun v t ht=>(agree_put hap (e:=σ.env) (v:=v)).1 t (looks_of_op ht)
 have agi:∀ v,Agree oi.op σ.env (putd σ.env oj.dst v):=fun v t ht=>((agree_put hap (e:=σ.env) (v:=v)).2.1 t (looks_of_op ht)).symm
 have hne:=(agree_put hap (e:=σ.env) (v:=und)).2.2
 rcases h1 with ⟨bi,c,y,e1,c1,rfl⟩ | ⟨bi,k1,x,H',e1,rfl⟩
 ·rcases h2 with ⟨bj,c',z,e2,c2,rfl⟩ | ⟨bj,k2,z,H2,e2,rfl⟩
  ·rw [dataW_congr (agj _)] at e2;refine ⟨⟨putd σ.env oj.dst (.d z),σ.H⟩,⟨dj,gj,.inl ⟨bj,c',z,e2,c2,rfl⟩⟩,di,gi,.inl ⟨bi,c,y,?_,c1,?_⟩⟩
   ·rw [← dataW_congr (agi _)];exact e1
   ·rw [putd_comm hne]
  ·refine ⟨⟨putd σ.env oj.dst z,H2⟩,⟨dj,gj,.inr ⟨bj,k2,z,H2,e2.congr k2 (agj _),rfl⟩⟩,di,gi,.inl ⟨bi,c,y,?_,c1,?_⟩⟩
   ·rw [← dataW_congr (agi _)];exact e1
   ·rw [putd_comm hne]
 ·rcases h2 with ⟨bj,c',z,e2,c2,rfl⟩ | ⟨bj,k2,z,H2,e2,rfl⟩
  ·rw [dataW_congr (agj _)] at e2;refine ⟨⟨putd σ.env oj.dst (.d z),σ.H⟩,⟨dj,gj,.inl ⟨bj,c',z,e2,c2,rfl⟩⟩,di,gi,.inr ⟨bi,k1,x,H',e1.congr k1 (agi _),?_⟩⟩;rw [putd_comm hne]
  ·rw [bi,bj] at hpass
   have hcc:compat ops oi oj=true:=by simp only [compat,Bool.and_eq_true];exact ⟨hap,by simpa using hpass⟩
   obtain ⟨H3,f1,f2⟩:=commute (N:=N) hcc ⟨di,.inl ⟨wantedS_free gi,e1⟩⟩ ⟨dj,.inl ⟨wantedS_free gj,e2⟩⟩ k1 k2
   have un:∀ {o:Oper} {e:Env} {H H':Heap} {x:AV},o.guard=none→Sx P T Mv G N ops o e H x H'→Ex P T Mv G o e H x H':=fun hgu h=>by
    rcases h.2 with ⟨_,h⟩ | ⟨hw,_⟩
    ·exact h
    ·rw [wantedS_free hgu] at hw;cases hw
   refine ⟨⟨putd σ.env oj.dst z,H3⟩,⟨dj,gj,.inr ⟨bj,k2,z,H3,un gj f1,rfl⟩⟩,di,gi,.inr ⟨bi,k1,x,H2,un gi f2,?_⟩⟩;rw [putd_comm hne]
def runB (P:Program) (T:Ty) (Mv:Nat→Prop) (G:Glob) (N:Fr) (db:List Nat) (ops:Array Oper):List Nat→St→St→Prop
 | [],σ,σ'=>σ=σ'
 | i :: l,σ,σ'=>∃ o,ops[i]? = some o∧∃ σ1,FStep P T Mv G N db i o σ σ1∧runB P T Mv G N db ops l σ1 σ'
theorem runB_front {p:Nat} {op:Oper} (hp:ops[p]? = some op):∀ (l1:List Nat) {l2:List Nat} {σ σ':St},(∀ q∈l1,∀ oq,ops[q]? = some oq→compatB db ops q p oq op=true)→runB P T Mv G N db ops (l1 ++ p :: l2) σ σ'→runB P T Mv G N db ops (p :: (l1 ++ l2)) σ σ':=by
 intro l1
 induction l1 with
 | nil=>intro l2 σ σ' _ h;exact h
 | cons q l1 ih=>
  intro l2 σ σ' hall h
  obtain ⟨oq,hq,σ1,s1,rest⟩:=h
  obtain ⟨o',ho',σ2,s2,rest2⟩:=ih (fun q' hq'=>hall q' (by simp [hq'])) rest
  rw [hp] at ho'
  obtain rfl:=Option.some.inj ho'
  obtain ⟨σ3,f1,f2⟩:=fswap (hall q (by simp) oq hq) s1 s2
  exact ⟨op,hp,σ3,f1,oq,hq,σ2,f2,rest2⟩
def okDrawB (db:List Nat) (ord:List Nat) (ops:Array Oper):Bool:=
 let t:=tb ops
 ord.length == ops.size && (ord.all fun i=>decide (i < ops.size)) && ((List.range ops.size).all fun i=>ord.contains i) && decide ord.Nodup &&
 ((List.range ops.size).all fun j=>match ops[j]? with
  | some oj=>oj.after.all fun e=>!Region.binds .any e || e.on < j
  | none=>true) &&
 go t ord
where
 go (t:List Nat):List Nat→Bool
 | []=>true
 | a :: l=>(l.all fun b=>match ops[a]?,ops[b]? with
  | some oa,some ob=>(oa.after.all fun e=>!Region.binds .any e || !(e.on == b)) && ((t.getD b 0).testBit a || compatB db ops a b oa ob)
  | _,_=>true) && go t l
def PairB (db:List Nat) (ops:Array Oper) (a b:Nat):Prop:=∀ oa ob,ops[a]? = some oa→ops[b]? = some ob→
 (∀ e∈oa.after,Region.binds .any e=true→e.on≠b)∧(((tb ops).getD b 0).testBit a=true∨compatB db ops a b oa ob=true)
theorem pairsB_of:∀ {l:List Nat},okDrawB.go db ops (tb ops) l=true→l.Pairwise (PairB db ops)
 | [],_=>.nil
 | a :: l,h=>by
  simp only [okDrawB.go,Bool.and_eq_true] at h;refine .cons (fun b hb oa ob hoa hob=>?_) (pairsB_of h.2)
  have:=List.all_eq_true.1 h.1 b hb
  simp only [hoa,hob,Bool.and_eq_true,Bool.or_eq_true] at this;refine ⟨fun e he hbi heq=>?_,this.2⟩
  have h1:=Array.all_eq_true_iff_forall_mem.1 this.1 e he
  simp [hbi,heq] at h1
theorem anyB_ok (hg:Good P T) (hlt:∀ j oj,ops[j]? = some oj→∀ e∈oj.after,Region.binds .any e=true→e.on < j) {Q:Exit→St→Prop} {w0:World} {μ0:Mu} {σn:St} (hQ:Q .normal σn):∀ (n:Nat) (R:List Nat) (listed:Array Bool) (w:World) (μ:Mu) (a:Act) (σ:St),R.length=n→R.Nodup→
  (∀ j,j∈R↔j < ops.size∧listed.getD j true=false)→listed.size=ops.size→R.Pairwise (PairB db ops)→
  (∀ j oj,ops[j]? = some oj→listed.getD j false=true→∀ e∈oj.after,Region.binds .any e=true→listed.getD e.on false=true)→runB P T Mv G N db ops R σ σn→In w X G μ N a σ→Ev Mv w0 μ0 w μ→
  wpAnyIn (wd N.ro) 0 P .any ops (After Mv X G N w0 μ0 Q) n listed a w:=by
 intro n
 induction n with
 | zero=>
  intro R listed w μ a σ hl _ hR hsz _ _ hrun hi hev
  have:R=[]:=List.eq_nil_of_length_eq_zero hl
  subst this
  have hr:Region.ready .any ops listed=[]:=by
   apply List.eq_nil_iff_forall_not_mem.2
   intro j hj
   obtain ⟨h1,o,ho,_⟩:=mem_ready.1 hj
   exact absurd ((hR j).2 ⟨(Array.getElem?_eq_some_iff.1 ho).1,h1⟩) (by simp)
  have:σ=σn:=hrun
  subst this;exact ⟨hr,μ,σ,hQ,hi,hev⟩
 | succ n ih=>
  intro R listed w μ a σ hl hnd hR hsz hpw hdown hrun hi hev
  refine ⟨fun hr=>?_,fun i hir=>?_⟩
  ·cases R with
   | nil=>simp at hl
   | cons j R=>
    obtain ⟨hj1,hj2⟩:=(hR j).1 (by simp)
    have hoj:ops[j]? = some ops[j]:=by simp [hj1]
    have hjr:j∈Region.ready .any ops listed:=by
     refine mem_ready.2 ⟨hj2,ops[j],hoj,fun e he hb=>?_⟩
     have hlt':=hlt j ops[j] hoj e he hb
     have hlt2:e.on < ops.size:=by omega
     have hne:e.on ∉ (j :: R):=by
      intro hm
      rcases List.mem_cons.1 hm with h | h
      ·omega
      ·exact ((List.pairwise_cons.1 hpw).1 _ h ops[j] ops[e.on] hoj (by simp [hlt2])).1 e he hb rfl
     have:=mt (hR e.on).2 hne
     have hls:e.on < listed.size:=by omega
     simp only [hlt2,true_and,Array.getD_eq_getD_getElem?] at this ⊢;simp [hls] at this ⊢;exact this
    rw [hr] at hjr
    cases hjr
  ·obtain ⟨hi1,oi,hoi,hall⟩:=mem_ready.1 hir
   have hiR:i∈R:=(hR i).2 ⟨(Array.getElem?_eq_some_iff.1 hoi).1,hi1⟩
   obtain ⟨R1,R2,rfl⟩:=List.append_of_mem hiR
   have hfront:=runB_front (P:=P) (T:=T) (Mv:=Mv) (G:=G) (N:=N) (db:=db) hoi R1 (fun q hq oq hoq=>by
    have hpq:PairB db ops q i:=(List.pairwise_append.1 hpw).2.2 q hq i (by simp)
    rcases (hpq oq oi hoq hoi).2 with h | h
    ·exfalso
     have hlq:=behindL hlt hdown i i oi (Nat.le_refl _) hoi hall q h
     have hq2:=((hR q).1 (by simp [hq])).2
     have hqs:q < listed.size:=by have:=(Array.getElem?_eq_some_iff.1 hoq).1;omega
     simp [Array.getD_eq_getD_getElem?,hqs] at hlq hq2;rw [hlq] at hq2;cases hq2
    ·exact h) hrun
   obtain ⟨o',ho',σ1,hstep,hrest⟩:=hfront
   rw [hoi] at ho'
   obtain rfl:=Option.some.inj ho'
   refine hstep.ok hg hi hoi fun w' μ' a' hin hev'=>?_
   have hnd':(R1 ++ R2).Nodup:=by
    have:=hnd
    rw [List.nodup_append] at this ⊢
    obtain ⟨g1,g2,g3⟩:=this
    exact ⟨g1,(List.nodup_cons.1 g2).2,fun x hx y hy=>g3 x hx y (by simp [hy])⟩
   have hi_not:i ∉ R1 ++ R2:=by
    have:=hnd
    rw [List.nodup_append] at this
    obtain ⟨g1,g2,g3⟩:=this
    intro hm
    rcases List.mem_append.1 hm with h | h
    ·exact g3 i h i (by simp) rfl
    ·exact (List.nodup_cons.1 g2).1 h
   refine ih (R1 ++ R2) _ w' μ' a' σ1 (by simp at hl ⊢;omega) hnd' (fun j=>?_) (by simpa using hsz) ?_ ?_ hrest hin (hev.trans hev')
   ·by_cases hji:j=i
    ·subst hji
     have hls:j < listed.size:=by rw [hsz];exact (Array.getElem?_eq_some_iff.1 hoi).1
     simp [hls];simpa using hi_not
    ·rw [getD_set_ne true (Ne.symm hji)];rw [← hR j];simp [hji]
   ·rw [List.pairwise_append] at hpw ⊢
    obtain ⟨g1,g2,g3⟩:=hpw
    exact ⟨g1,(List.pairwise_cons.1 g2).2,fun x hx y hy=>g3 x hx y (by simp [hy])⟩
   ·intro j oj hoj hlj e he hb
    by_cases hji:j=i
    ·subst hji;rw [hoi] at hoj
     obtain rfl:=Option.some.inj hoj
     exact getD_set_true (hall e he hb)
    ·rw [getD_set_ne false (Ne.symm hji)] at hlj;exact getD_set_true (hdown j oj hoj hlj e he hb)
def stepB (P:Program) (T:Ty) (Mv:Nat→Prop) (G:Glob) (N:Fr) (db:List Nat) (i:Nat) (o:Oper) (σ:St) (K:St→Prop):Prop:=okDst N o∧o.guard=none∧
 if db.contains i=true then (match dataW T G σ.env o with
  | some (c,y)=>c∧K ⟨putd σ.env o.dst (.d y),σ.H⟩
  | none=>False)
 else kindOf o.op≠9∧match isCall o.op with
  | some c=>callD P G c σ.env o.dst σ.H [] [] K
  | none=>plainL T G Mv o σ [] K
def sxb (P:Program) (T:Ty) (Mv:Nat→Prop) (G:Glob) (N:Fr) (db:List Nat) (K:St→Prop):List (Nat×Oper)→St→Prop
 | [],σ=>K σ
 | (i,o) :: rest,σ=>stepB P T Mv G N db i o σ (sxb P T Mv G N db K rest)
theorem sxb_run {K:St→Prop}:∀ (l:List Nat) (σ:St),(∀ i∈l,i < ops.size)→sxb P T Mv G N db K (inOrder ops l) σ→∃ σn,K σn∧runB P T Mv G N db ops l σ σn:=by
 intro l
 induction l with
 | nil=>intro σ _ h;exact ⟨σ,h,rfl⟩
 | cons i l ih=>
  intro σ hl h
  have hi:=hl i (by simp)
  have ho:ops[i]? = some ops[i]:=by simp [hi]
  simp only [inOrder,ho] at h;generalize ops[i]=o at ho h;simp only [sxb,stepB] at h
  obtain ⟨hd,hgu,h⟩:=h
  have fin:∀ σ1,FStep P T Mv G N db i o σ σ1→sxb P T Mv G N db K (inOrder ops l) σ1→∃ σn,K σn∧runB P T Mv G N db ops (i :: l) σ σn:=fun σ1 hs h1=>by
   obtain ⟨σn,hk,hr⟩:=ih σ1 (fun j hj=>hl j (by simp [hj])) h1
   exact ⟨σn,hk,o,ho,σ1,hs,hr⟩
  split at h
  ·rename_i hb
   split at h
   ·rename_i c y hw
    obtain ⟨hc,h⟩:=h
    exact fin _ ⟨hd,hgu,.inl ⟨hb,c,y,hw,hc,rfl⟩⟩ h
   ·exact h.elim
  ·rename_i hb
   have hb:db.contains i=false:=by simpa using hb
   obtain ⟨hk,h⟩:=h
   split at h
   ·rename_i c hc
    obtain ⟨y,g,ds,ht,hp,hoff,h⟩:=h
    refine fin _ ⟨hd,hgu,.inr ⟨hb,hk,.d y,σ.H,?_,rfl⟩⟩ h;unfold Ex;simp only [hc];exact ⟨y,⟨g,_,ht,.inl ⟨ds,rfl,hp⟩⟩,rfl,trivial⟩
   ·rename_i hc
    unfold plainL at h
    split at h
    ·rename_i hw
     split at h
     ·rename_i c x σ1 h1
      obtain ⟨hcc,hoff,h⟩:=h
      have he:=wr_env hk h1
      obtain ⟨e,H⟩:=σ
      obtain ⟨e1,H1⟩:=σ1
      dsimp only at he
      subst he;refine fin _ ⟨hd,hgu,.inr ⟨hb,hk,x,H1,?_,rfl⟩⟩ h;unfold Ex;simp only [hc];rw [if_pos hw];exact ⟨c,h1,hcc⟩
     ·exact h.elim
    ·rename_i hw
     split at h
     ·rename_i c x h1
      obtain ⟨hcc,hoff,h⟩:=h
      refine fin _ ⟨hd,hgu,.inr ⟨hb,hk,x,σ.H,?_,rfl⟩⟩ h;unfold Ex;simp only [hc];rw [if_neg hw];exact ⟨c,h1,hcc,trivial⟩
     ·exact h.elim
theorem AW_regionB (hg:Good P T) (hm:P.follows .mixedOrders=true) (db:List Nat) (ord:List Nat) {id:Nat} (hok:okDrawB db ord ops=true) {Q:Exit→St→Prop} {σ:St} (h:sxb P T Mv G N db (fun σ'=>Q .normal σ') (inOrder ops ord) σ):AW P Mv X G N (.region id ops true) Q σ:=fun w μ a hi=>by
 unfold okDrawB at hok;simp only [Bool.and_eq_true] at hok
 obtain ⟨⟨⟨⟨⟨h1,h2⟩,h3⟩,h4⟩,h5⟩,h6⟩:=hok
 have hlen:ord.length=ops.size:=by simpa using h1
 have hlt:∀ i∈ord,i < ops.size:=fun i hi=>by simpa using List.all_eq_true.1 h2 i hi
 have hall:∀ i,i < ops.size→i∈ord:=fun i hi=>by simpa using List.all_eq_true.1 h3 i (List.mem_range.2 hi)
 have hnd:ord.Nodup:=by simpa using h4
 have hedge:∀ j oj,ops[j]? = some oj→∀ e∈oj.after,Region.binds .any e=true→e.on < j:=fun j oj hoj e he hb=>by
  have:=List.all_eq_true.1 h5 j (List.mem_range.2 (Array.getElem?_eq_some_iff.1 hoj).1)
  simp only [hoj] at this
  have:=Array.all_eq_true_iff_forall_mem.1 this e he
  simpa [hb] using this
 obtain ⟨σn,hQ,hrun⟩:=sxb_run ord σ hlt h
 refine wpIn_region_any hm ?_
 obtain ⟨hin,hev⟩:=hi.grew (Mv:=Mv) (Grew.drew w)
 refine anyB_ok hg hedge hQ ops.size ord _ w.drew μ a σ hlen hnd (fun j=>?_) (by simp) (pairsB_of h6) ?_ hrun hin hev
 ·constructor
  ·intro hj
   have:=hlt j hj
   simp [Array.getD_eq_getD_getElem?,this]
  ·intro hj
   exact hall j hj.1
 ·intro j oj hoj hlj
  have hj:=(Array.getElem?_eq_some_iff.1 hoj).1
  simp [Array.getD_eq_getD_getElem?,hj] at hlj
theorem AW_rbe (hg:Good P T) (hm:P.follows .mixedOrders=true) (db:List Nat) (ord:List Nat) {id:Nat} (hok:okDrawB db ord ops=true) {Q:Exit→St→Prop} {σ:St}
  (h:∀ K:St→Prop,(∀ τ:St,Q .normal τ→K τ)→sxb P T Mv G N db K (inOrder ops ord) σ):AW P Mv X G N (.region id ops true) Q σ:=AW_regionB hg hm db ord hok (h _ fun _ h=>h)
theorem sxb_nextO {K:St→Prop} {i:Nat} {l:List Nat} {o:Oper} (ho:ops[i]? = some o) (h:∀ K':St→Prop,(∀ τ,sxb P T Mv G N db K (inOrder ops l) τ→K' τ)→stepB P T Mv G N db i o σ K'):sxb P T Mv G N db K (inOrder ops (i :: l)) σ:=by
 have:inOrder ops (i :: l)=(i,o) :: inOrder ops l:=by simp [inOrder,ho]
 rw [this];exact h _ fun _ h=>h
theorem sxb_nilO {K:St→Prop} (h:K σ):sxb P T Mv G N db K (inOrder ops []) σ:=h
end
attribute [simp] stepB dataW
end Go.Av
namespace Go.Av
def isIns:Op→Bool
 | .insert _ _ _ _=>true
 | _=>false
def onIns (G:Glob) (e:Env) (o:Op) (r:Nat):Prop:=match o with
 | .insert _ m _ _=>aeval G e m=some (.mp r)
 | _=>False
def touchP (G:Glob) (fp:List (Nat×Nat)) (e:Env) (i:Nat) (o:Op):Prop:=match fp.lookup i with
 | some r=>if isIns o=true then onIns G e o r else onRow G e o r
 | none=>True
section
variable {P:Program} {T:Ty} {Mv X:Nat→Prop} {G:Glob} {N:Fr} {ops:Array Oper} {fp:List (Nat×Nat)} {cn:List Nat}
theorem Ex.touchI {o:Oper} {e:Env} {H H':Heap} {x:AV} {r:Nat} (ht:onIns G e o.op r) (h:Ex P T Mv G o e H x H') :
  ∃ u,H'=pset H r u∧∀ H2,H2 r=H r→Ex P T Mv G o e H2 x (pset H2 r u):=by
 obtain ⟨dst,op,type,pos,after,guard⟩:=o
 dsimp only at ht
 cases op<;>simp only [onIns] at ht
 case insert t m k v=>
  unfold Ex at h;simp only [isCall,isWr,if_true] at h
  obtain ⟨c,h1,h3⟩:=h
  cases dst with
  | some d=>simp [wr] at h1
  | none=>
   simp only [wr,ht] at h1
   split at h1
   ·rename_i q key y hm hk hv
    simp only [Option.some.injEq,AV.mp.injEq] at hm;subst hm
    split at h1
    ·rename_i ty ents hr
     split at h1
     ·rename_i c' ents' hp
      simp only [Option.some.injEq,Prod.mk.injEq,St.mk.injEq,true_and] at h1
      obtain ⟨rfl,rfl,rfl⟩:=h1
      refine ⟨some (.mp ty ents'),rfl,fun H2 h2=>?_⟩;unfold Ex;simp only [isCall,isWr,if_true];exact ⟨_,by simp only [wr,ht,hk,hv,h2,hr,hp];rfl,h3⟩
     ·cases h1
    ·cases h1
   ·cases h1
theorem Ex.touchP {o:Oper} {e:Env} {H H':Heap} {x:AV} {r i:Nat} (hr:fp.lookup i=some r) (ht:Av.touchP G fp e i o.op) (h:Ex P T Mv G o e H x H') :
  ∃ u,H'=pset H r u∧∀ H2,H2 r=H r→Ex P T Mv G o e H2 x (pset H2 r u):=by
 unfold Av.touchP at ht;simp only [hr] at ht
 split at ht
 ·exact h.touchI ht
 ·exact h.touch ht
theorem Ex.call {o:Oper} {e:Env} {H H':Heap} {x:AV} (hn:isCall o.op≠none) (h:Ex P T Mv G o e H x H'):H'=H:=by
 cases hc:isCall o.op with
 | none=>exact absurd hc hn
 | some c=>
  unfold Ex at h;simp only [hc] at h;exact h.choose_spec.2.2
def PStep (P:Program) (T:Ty) (Mv:Nat→Prop) (G:Glob) (N:Fr) (ops:Array Oper) (fp:List (Nat×Nat)) (cn:List Nat) (cl:List (Nat×AV)) (i:Nat) (o:Oper) (σ σ':St):Prop:=
 kindOf o.op≠9∧(∃ x H',Sx P T Mv G N ops o σ.env σ.H x H'∧σ'=⟨putd σ.env o.dst x,H'⟩∧(isCall o.op≠none→wantedS ops σ.env o=some true→cl.lookup i=some x)∧(cn.contains i=true→wantedS ops σ.env o=some true→isCall o.op≠none∧∀ H2,Ex P T Mv G o σ.env H2 x H2))∧(wantedS ops σ.env o=some true→touchP G fp σ.env i o.op)
theorem PStep.to {cl:List (Nat×AV)} {i:Nat} {o:Oper} {σ σ':St} (h:PStep P T Mv G N ops fp cn cl i o σ σ'):stepTo P T Mv G N ops o σ σ':=by
 obtain ⟨hk,⟨x,H',hs,e,_,_⟩,_⟩:=h
 exact (stepTo_Sx hk).2 ⟨x,H',hs,e⟩
variable {cl:List (Nat×AV)}
def callP (P:Program) (G:Glob) (cl:List (Nat×AV)) (i:Nat) (c:Call) (σ:St) (dst:Option Tmp) (next:St→Prop):Prop:=∃ y,cl.lookup i=some (.d y)∧(∀ H2,callTo P G ⟨σ.env,H2⟩ c y)∧next ⟨putd σ.env dst (.d y),σ.H⟩
theorem callP.data {i:Nat} {c:Call} {σ:St} {g:FuncId} {xs:List AV} {ds ds':List D} {y:D} {dst:Option Tmp} {next:St→Prop} (hc:PureC P G g ds y) (hcl:cl.lookup i=some (.d y)) (ht:tgt G σ.env c=some (g,xs)) (hx:allD xs=some ds') (hle:D.le.go ds' ds) (h:next ⟨putd σ.env dst (.d y),σ.H⟩):callP P G cl i c σ dst next:=
 ⟨y,hcl,fun _=>⟨g,xs,ht,.inl ⟨ds',allD_eq hx,hc.weak hle⟩⟩,h⟩
def stepP (P:Program) (T:Ty) (Mv:Nat→Prop) (G:Glob) (N:Fr) (ops:Array Oper) (fp:List (Nat×Nat)) (cn:List Nat) (cl:List (Nat×AV)) (i:Nat) (o:Oper) (σ:St) (K:St→Prop):Prop:=okDst N o∧kindOf o.op≠9∧match wantedS ops σ.env o with
 | some b=>if b=true then touchP G fp σ.env i o.op∧(match isCall o.op with
  | some c=>callP P G cl i c σ o.dst K
  | none=>cn.contains i=false∧plainS T G Mv o σ K) else K ⟨putd σ.env o.dst und,σ.H⟩
 | none=>False
theorem entGet_cons (κ:Value) (p:Value×D) (l:List (Value×D)):entGet κ (p :: l)=if keyEq κ p.1=true then some p.2 else entGet κ l:=by
 unfold entGet;rw [List.find?_cons]
 cases h:keyEq κ p.1<;>rfl
theorem entGet_put {d:TypeDesc} {κ k:Value} {x:D} (hκ:keyOk d κ=true) (hk:keyOk d k=true):∀ (l:List (Value×D)),(∀ p∈l,keyOk d p.1=true)→entGet κ (entPut k x l)=if keyEq κ k=true then some x else entGet κ l
 | [],_=>entGet_cons κ (k,x) []
 | p :: l,hp=>by
  have hpk:=hp p (by simp)
  have ih:=entGet_put hκ hk (x:=x) l fun q hq=>hp q (by simp [hq])
  have e:entPut k x (p :: l)=if keyEq k p.1 then (k,x) :: l else p :: entPut k x l:=by
   unfold entPut;rw [List.findIdx?_cons]
   cases h:keyEq k p.1 with
   | true=>simp
   | false=>
    simp only [Bool.false_eq_true,if_false]
    cases List.findIdx? (fun p=>keyEq k p.1) l<;>simp
  rw [e]
  by_cases h:keyEq k p.1=true
  ·rw [if_pos h]
   have hpe:=keyEq_eq hk hpk h
   rw [entGet_cons,entGet_cons,hpe]
   dsimp only
   split<;>rfl
  ·rw [if_neg h,entGet_cons,entGet_cons,ih]
   by_cases h3:keyEq κ p.1=true
   ·have:¬ keyEq κ k=true:=fun h2=>by
     have e1:=keyEq_eq hκ hpk h3
     have e2:=keyEq_eq hκ hk h2
     rw [e2] at h;exact h h3
    rw [if_neg this,if_pos h3,if_neg this]
   ·rw [if_neg h3,if_neg h3]
attribute [simp] stepP touchP isIns onIns
end
end Go.Av
namespace Go.Av
def Invs (P:Program) (t:TypeId) (name:String) (g:FuncId):Prop:=∀ (v:Value) (w:World),(invoke (.fn (.method name) #[]) #[.iface t v]).run P w = .ok (.enter g #[v]) w
def invOf:Op→Option (Operand×String)
 | .call { callee:=.invoke r name,args:=az,argTypes:=_ }=>if az.isEmpty then some (r,name) else none
 | _=>none
def stepI (P:Program) (T:Ty) (Mv X:Nat→Prop) (G:Glob) (N:Fr) (ops:Array Oper) (o:Oper) (σ:St) (K:St→Prop):Prop:=okDst N o∧match wantedS ops σ.env o with
 | some b=>if b=true then (match invOf o.op with
  | some (r,name)=>∃ t x g,aeval G σ.env r=some (.d (.ifc t x))∧Invs P t name g∧callK P Mv X G N g [.d x] σ o.dst K
  | none=>ex1 P T Mv X G N o σ K) else K ⟨putd σ.env o.dst und,σ.H⟩
 | none=>False
section
variable {P:Program} {T:Ty} {Mv X:Nat→Prop} {G:Glob} {N:Fr} {w:World} {μ:Mu} {a:Act} {σ:St}
attribute [simp] stepI invOf ex1
end
end Go.Av
