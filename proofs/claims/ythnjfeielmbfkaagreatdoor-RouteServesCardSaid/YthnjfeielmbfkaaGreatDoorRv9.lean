/-
  Texts that belong together, in one file: Av28, Av29, Av30.
-/
import Derived.Test.YthnjfeielmbfkaaGreatDoorRv8
set_option linter.unusedSectionVars false
set_option linter.unusedSimpArgs false
set_option linter.unusedVariables false
namespace Go.Av
def dataW (T : Ty) (G : Glob) (e : Env) (o : Oper) : Option (Prop × D) := match o.op, o.dst with
 | .box _ x, some _ => match (aeval G e x).bind valCells with
  | some cs => match allD cs with
   | some ds => some (True, .ip ds)
   | none => none
  | none => none
 | .buildSlice t len parts, some _ => match T t with
  | some tt => match tt.desc with
   | .slice q => match T q, evalP G e parts.toList with
    | some te, some ps => match catD te.size 0 ps with
     | some els => some (ps.length = len ∧ 0 < te.size ∧ len * te.size ≤ 16777216, .sl none els)
     | none => none
    | _, _ => none
   | _ => none
  | none => none
 | .makeSlice t l c, some _ => match T t with
  | some tt => match tt.desc with
   | .slice q => match T q, aeval G e l, aeval G e c with
    | some te, some (.d (.v (.int _ n))), some (.d (.v (.int _ m))) => some (0 ≤ n ∧ n ≤ m ∧ te.bytes * m ≤ 281474976710656 ∧ m ≤ 9223372036854775807 ∧ 0 < te.size ∧ (zeroD te.zero).length = te.size, .sl none (makeEls te n.toNat))
    | _, _, _ => none
   | _ => none
  | none => none
 | _, _ => none
section
variable {P : Program} {T : Ty} {Mv X : Nat → Prop} {G : Glob} {N : Fr} {w : World} {μ : Mu} {a : Act} {σ : St}
theorem dataW_congr {o : Oper} {e e' : Env} (h : Agree o.op e e') : dataW T G e o = dataW T G e' o := by
 obtain ⟨dst, op, type, pos, after, guard⟩ := o
 unfold Agree at h
 dsimp only at h
 unfold dataW
 cases op <;> try rfl
 case box t x =>
  cases dst with
  | none => rfl
  | some d =>
   dsimp only
   rw [aeval_congr (x := x) fun t ht => h t (by simp [Op.operands, ht])]
 case buildSlice t n ps =>
  cases dst with
  | none => rfl
  | some d =>
   dsimp only
   rw [evalP_congr (l := ps.toList) fun t ht => h t (by simpa [Op.operands] using ht)]
 case makeSlice t x y =>
  cases dst with
  | none => rfl
  | some d =>
   dsimp only
   rw [aeval_congr (x := x) fun t ht => h t (by simp [Op.operands, ht]), aeval_congr (x := y) fun t ht => h t (by simp [Op.operands, ht])]
theorem new_free (hi : In w X G μ N a σ) : ¬ XX X μ w.heap.size := by
 rintro (h | h)
 ·exact Nat.lt_irrefl _ (hi.sim.fits _ h)
 ·exact Nat.lt_irrefl _ (hi.sim.blk_lt h)
theorem new_cell (w : World) (cur : Array Value) (t : TypeId) {o : Nat} {v : Value} (h : cur[o]? = some v) : (w.alloc (.cells cur t)).cell? ⟨w.heap.size, o, none⟩ = some v := by
 rw [cell_of_row _ w.heap.size o cur t (0, 0) (by simpa using heap_alloc_new w (.cells cur t))]; exact h
theorem dataW_ok (hg : Good P T) (hi : In w X G μ N a σ) {o : Oper} {c : Prop} {y : D} (h : dataW T G σ.env o = some (c, y)) (hc : c) :
  ∃ v w', (execOp a.eval o).run P w = .ok (.value v) w' ∧ In w' X G μ N a σ ∧ RV w' X μ v (.d y) ∧ Ev Mv w μ w' μ := by
 obtain ⟨dst, op, type, pos, after, guard⟩ := o
 unfold dataW at h
 dsimp only at h
 split at h
 ·rename_i t x d
  split at h
  ·rename_i cs hcs
   obtain ⟨z, hz, he⟩ := Option.bind_eq_some_iff.1 hcs
   split at h
   ·rename_i ds hds
    simp only [Option.some.injEq, Prod.mk.injEq] at h
    obtain ⟨rfl, rfl⟩ := h
    have hp := valCells_ok (hi.eval hz) he
    rw [allD_eq hds] at hp
    obtain ⟨hin, hev⟩ := hi.grew (Mv := Mv) (Grew.alloc w (.cells (a.eval x).cells t))
    refine ⟨.pointer (some ⟨w.heap.size, 0, none⟩), _, by simp [execOp, Instr.box, newVar, newRow], hin, .d (.ip (f := fun j => (a.eval x).cells.getD j undef) (new_free hi) (by simp) (fun j hj => ?_) fun j c hj => ?_), hev⟩
    ·have hlt : j < (a.eval x).cells.size := by rw [hp.size]; simpa using hj
     exact new_cell w _ t (by simp [Array.getD_eq_getD_getElem?, hlt])
    ·have hlt : j < (a.eval x).cells.size := by rw [hp.size]; simpa using (List.getElem?_eq_some_iff.1 hj).1
     have := (hp.at_ j _ (.d c) (Array.getElem?_eq_getElem hlt) (by rw [List.getElem?_map, hj]; rfl)).data
     rw [Array.getD_eq_getD_getElem?, Array.getElem?_eq_getElem hlt]; exact this.ev hev
   ·cases h
  ·cases h
 ·rename_i t len parts d
  split at h
  ·rename_i tt htt
   split at h
   ·rename_i q hdd
    split at h
    ·rename_i te ps hte hps
     split at h
     ·rename_i els hels
      simp only [Option.some.injEq, Prod.mk.injEq] at h
      obtain ⟨rfl, rfl⟩ := h
      obtain ⟨g2, g3, g4⟩ := hc
      obtain ⟨hv, hr⟩ := hi.evalP hps
      have hu := hg.und (w := w) htt
      have hsz := hg.sizeOf (w := w) hte
      have hzv := hg.zero (w := w) hte
      obtain ⟨arr', hf, hsz', _, hl, hall, hnew⟩ := fill_cat (w := w) (X := X) (μ := μ) (sz := te.size) ps (parts.toList.map fun p => (p.1, a.eval p.2)) 0 els ((Array.range (len * te.size)).map ((if len * te.size = 0 then #[] else te.zero.cells)[· % (if len * te.size = 0 then #[] else te.zero.cells).size]!)) hels hv
       (fun i p v h1 h2 => hr i p v h1 h2) (by simp [g2])
      have hn : ¬ len * te.size > 2 ^ 24 := by omega
      have e0 : ∀ f : Nat → Value, (Array.range 0).map f = #[] := fun f => by apply Array.ext <;> simp
      have hsz2 : arr'.size = len * te.size := by rw [hsz']; simp
      have hlen : els.length = len := by omega
      obtain ⟨hin, hev⟩ := hi.grew (Mv := Mv) (Grew.alloc w (.cells arr' q))
      have hrun : (Instr.buildSlice t len (parts.map fun p => (p.1, a.eval p.2))).run P w = .ok (.slice (some ⟨w.heap.size, 0, none⟩) len len) (w.alloc (.cells arr' q)) := by
       by_cases h0 : len * te.size = 0
       ·simp only [h0, if_true, e0] at hf; simp only [Instr.buildSlice, Sem.run_bind, hu, hdd, Result.andThen_ok, hsz, hn, if_false, h0, if_true, Sem.run_pure, e0]; simp [hf, newRow]
       ·simp only [h0, if_false] at hf; simp only [Instr.buildSlice, Sem.run_bind, hu, hdd, Result.andThen_ok, hsz, hn, if_false, h0, Sem.run_pure, hzv]; simp [hf, newRow]
      have hcap : len ≤ maxLen := by
       have : len ≤ len * te.size := Nat.le_mul_of_pos_right _ g3
       unfold maxLen; omega
      refine ⟨.slice (some ⟨w.heap.size, 0, none⟩) len len, _, by simp [execOp, hrun], hin, .d ?_, hev⟩
      by_cases h0 : len = 0
      ·subst h0
       obtain rfl := List.eq_nil_of_length_eq_zero hlen
       exact .empty (by simp) hcap
      ·refine .sl (sz := te.size) (f := fun i j => arr'.getD (i * te.size + j) undef) (by simp) hlen (Nat.le_refl _) hcap (new_free hi) hall g3 (by omega) (fun i j hi' hj => ?_) fun i j el c h1 h2 => ?_
       ·have hlt : i * te.size + j < arr'.size := by
         rw [hsz2]
         have : (i + 1) * te.size ≤ len * te.size := Nat.mul_le_mul_right _ hi'
         rw [Nat.add_mul] at this
         omega
        rw [Nat.zero_add]; exact new_cell w _ q (by simp [Array.getD_eq_getD_getElem?, hlt])
       ·obtain ⟨u, hu', hrd⟩ := hnew i j el c h1 h2
        rw [Nat.zero_add] at hu'; rw [Array.getD_eq_getD_getElem?, hu']; exact hrd.ev hev
     ·cases h
    ·cases h
   ·cases h
  ·cases h
 ·rename_i t l c d
  split at h
  ·rename_i tt htt
   split at h
   ·rename_i q hdd
    split at h
    ·rename_i te k1 n k2 m hte hl hcc
     simp only [Option.some.injEq, Prod.mk.injEq] at h
     obtain ⟨rfl, rfl⟩ := h
     obtain ⟨h0, h1, h2, h3, hz, hzs⟩ := hc
     have el : a.eval l = .int k1 n := (hi.eval hl).scalar
     have ec : a.eval c = .int k2 m := (hi.eval hcc).scalar
     obtain ⟨hu, i0, hii, hs0, hb0, hz0, _⟩ := hg q te hte
     have ht := (hg t tt htt).1
     rw [hdd] at ht
     have hrun := run_make (P := P) w t q i0 te.zero ht hii hz0 k1 k2 n m h0 h1 (by rw [hb0]; exact h2) h3
     rw [hs0] at hrun
     have hsz := size_madeCells te.zero.cells (m.toNat * te.size)
     obtain ⟨hin, hev⟩ := hi.grew (Mv := Mv) (Grew.alloc w (.cells (madeCells te.zero.cells (m.toNat * te.size)) q))
     refine ⟨.slice (some ⟨w.heap.size, 0, none⟩) n.toNat m.toNat, _, by simp [execOp, el, ec, hrun], hin, .d ?_, hev⟩
     by_cases hn0 : n.toNat = 0
     ·rw [show makeEls te n.toNat = [] by rw [hn0]; rfl, hn0]; exact .empty (by simp) (by unfold maxLen; omega)
     ·have hzc := zeroD_ok (w := w) (X := XX X μ) te.zero
      have hcs : te.zero.cells.size = te.size := by rw [hzc.1, hzs]
      have hin' : ∀ i j, i < n.toNat → j < te.size → i * te.size + j < m.toNat * te.size := fun i j hi' hj => by
       have : (i + 1) * te.size ≤ m.toNat * te.size := Nat.mul_le_mul_right _ (by omega)
       rw [Nat.add_mul] at this
       omega
      refine .sl (sz := te.size) (f := fun i j => (madeCells te.zero.cells (m.toNat * te.size)).getD (i * te.size + j) undef) (by simp) (by simp [makeEls]) (by omega) (by unfold maxLen; omega) (new_free hi) (fun el hel => by rw [List.eq_of_mem_replicate hel, hzs]) hz (by omega) (fun i j hi' hj => ?_) fun i j el d hel hd => ?_
      ·rw [Nat.zero_add]; exact new_cell w _ q (by simp [Array.getD_eq_getD_getElem?, hsz, hin' i j hi' hj])
      ·unfold makeEls at hel; rw [List.getElem?_replicate] at hel
       split at hel
       ·rename_i hlt
        obtain rfl := Option.some.inj hel
        have hj : j < te.size := by rw [← hzs]; exact (List.getElem?_eq_some_iff.1 hd).1
        have hjc : j < te.zero.cells.size := by omega
        have hb := hin' i j hlt hj
        have hmod : (i * te.size + j) % te.size = j := by rw [Nat.mul_comm, Nat.mul_add_mod, Nat.mod_eq_of_lt hj]
        have hv : (madeCells te.zero.cells (m.toNat * te.size)).getD (i * te.size + j) undef = te.zero.cells[j] := by
         simp [Array.getD_eq_getD_getElem?, madeCells, hb, hcs, hmod]; exact getElem!_pos te.zero.cells j hjc
        rw [hv]; exact (hzc.2 j _ d (by simp [hjc]) hd).ev hev
       ·cases hel
    ·cases h
   ·cases h
  ·cases h
 ·cases h
variable {ops : Array Oper} {db : List Nat}
def FStep (P : Program) (T : Ty) (Mv : Nat → Prop) (G : Glob) (N : Fr) (db : List Nat) (i : Nat) (o : Oper) (σ σ' : St) : Prop :=
 okDst N o ∧ o.guard = none ∧ ((db.contains i = true ∧ ∃ c y, dataW T G σ.env o = some (c, y) ∧ c ∧ σ' = ⟨putd σ.env o.dst (.d y), σ.H⟩) ∨
  (db.contains i = false ∧ kindOf o.op ≠ 9 ∧ ∃ x H', Ex P T Mv G o σ.env σ.H x H' ∧ σ' = ⟨putd σ.env o.dst x, H'⟩))
theorem FStep.ok (hg : Good P T) {o : Oper} {i : Nat} {σ' : St} (h : FStep P T Mv G N db i o σ σ') (hi : In w X G μ N a σ) (ho : ops[i]? = some o) {Q : Exit → Act → World → Prop} {K : Act → World → Prop}
  (hk : ∀ w' μ' a', In w' X G μ' N a' σ' → Ev Mv w μ w' μ' → K a' w') : wpOpIn (wd N.ro) 0 P ops Q i K a w := by
 obtain ⟨hd, hgu, h⟩ := h
 have hd' : ∀ d, o.dst = some d → d < N.n := fun d e => by unfold okDst at hd; rw [e] at hd; exact hd
 rcases h with ⟨_, c, y, h1, h2, rfl⟩ | ⟨_, h9, x, H', h1, rfl⟩
 ·unfold wpOpIn; simp only [ho]; rw [wantedS_ok hi (wantedS_free hgu), if_pos rfl]; refine wpR (fun c e => by simp [dataW, e] at h1) ?_
  obtain ⟨v, w', hr, hin, hrv, hev⟩ := dataW_ok (Mv := Mv) hg hi h1 h2
  unfold Oper.wp; rw [hr]; exact hk _ μ _ (hin.put hrv hd') hev
 ·exact stepTo_ok hg ⟨hd, .inl ⟨wantedS_free hgu, h1.to⟩⟩ hi ho hk
def compatB (db : List Nat) (ops : Array Oper) (i j : Nat) (oi oj : Oper) : Bool := oi.apart ops oj && (db.contains i || db.contains j || mayPass (kindOf oi.op) (kindOf oj.op))
theorem fswap {i j : Nat} {oi oj : Oper} (hc : compatB db ops i j oi oj = true) {σ σ1 σ2 : St} (h1 : FStep P T Mv G N db i oi σ σ1) (h2 : FStep P T Mv G N db j oj σ1 σ2) :
  ∃ σ3, FStep P T Mv G N db j oj σ σ3 ∧ FStep P T Mv G N db i oi σ3 σ2 := by
 simp only [compatB, Bool.and_eq_true] at hc
 obtain ⟨hap, hpass⟩ := hc
 obtain ⟨di, gi, h1⟩ := h1
 obtain ⟨dj, gj, h2⟩ := h2
 have agj : ∀ v, Agree oj.op (putd σ.env oi.dst v) σ.env := fun v t ht => (agree_put hap (e := σ.env) (v := v)).1 t (looks_of_op ht)
 have agi : ∀ v, Agree oi.op σ.env (putd σ.env oj.dst v) := fun v t ht => ((agree_put hap (e := σ.env) (v := v)).2.1 t (looks_of_op ht)).symm
 have hne := (agree_put hap (e := σ.env) (v := und)).2.2
 rcases h1 with ⟨bi, c, y, e1, c1, rfl⟩ | ⟨bi, k1, x, H', e1, rfl⟩
 ·rcases h2 with ⟨bj, c', z, e2, c2, rfl⟩ | ⟨bj, k2, z, H2, e2, rfl⟩
  ·rw [dataW_congr (agj _)] at e2; refine ⟨⟨putd σ.env oj.dst (.d z), σ.H⟩, ⟨dj, gj, .inl ⟨bj, c', z, e2, c2, rfl⟩⟩, di, gi, .inl ⟨bi, c, y, ?_, c1, ?_⟩⟩
   ·rw [← dataW_congr (agi _)]; exact e1
   ·rw [putd_comm hne]
  ·refine ⟨⟨putd σ.env oj.dst z, H2⟩, ⟨dj, gj, .inr ⟨bj, k2, z, H2, e2.congr k2 (agj _), rfl⟩⟩, di, gi, .inl ⟨bi, c, y, ?_, c1, ?_⟩⟩
   ·rw [← dataW_congr (agi _)]; exact e1
   ·rw [putd_comm hne]
 ·rcases h2 with ⟨bj, c', z, e2, c2, rfl⟩ | ⟨bj, k2, z, H2, e2, rfl⟩
  ·rw [dataW_congr (agj _)] at e2; refine ⟨⟨putd σ.env oj.dst (.d z), σ.H⟩, ⟨dj, gj, .inl ⟨bj, c', z, e2, c2, rfl⟩⟩, di, gi, .inr ⟨bi, k1, x, H', e1.congr k1 (agi _), ?_⟩⟩; rw [putd_comm hne]
  ·rw [bi, bj] at hpass
   have hcc : compat ops oi oj = true := by simp only [compat, Bool.and_eq_true]; exact ⟨hap, by simpa using hpass⟩
   obtain ⟨H3, f1, f2⟩ := commute (N := N) hcc ⟨di, .inl ⟨wantedS_free gi, e1⟩⟩ ⟨dj, .inl ⟨wantedS_free gj, e2⟩⟩ k1 k2
   have un : ∀ {o : Oper} {e : Env} {H H' : Heap} {x : AV}, o.guard = none → Sx P T Mv G N ops o e H x H' → Ex P T Mv G o e H x H' := fun hgu h => by
    rcases h.2 with ⟨_, h⟩ | ⟨hw, _⟩
    ·exact h
    ·rw [wantedS_free hgu] at hw; cases hw
   refine ⟨⟨putd σ.env oj.dst z, H3⟩, ⟨dj, gj, .inr ⟨bj, k2, z, H3, un gj f1, rfl⟩⟩, di, gi, .inr ⟨bi, k1, x, H2, un gi f2, ?_⟩⟩; rw [putd_comm hne]
def stepB (P : Program) (T : Ty) (Mv : Nat → Prop) (G : Glob) (N : Fr) (db : List Nat) (i : Nat) (o : Oper) (σ : St) (K : St → Prop) : Prop := okDst N o ∧ o.guard = none ∧
 if db.contains i = true then (match dataW T G σ.env o with
  | some (c, y) => c ∧ K ⟨putd σ.env o.dst (.d y), σ.H⟩
  | none => False)
 else kindOf o.op ≠ 9 ∧ match isCall o.op with
  | some c => callD P G c σ.env o.dst σ.H [] [] K
  | none => plainL T G Mv o σ [] K
end
attribute [simp] stepB dataW
end Go.Av
namespace Go.Av
def isIns : Op → Bool
 | .insert _ _ _ _ => true
 | _ => false
def onIns (G : Glob) (e : Env) (o : Op) (r : Nat) : Prop := match o with
 | .insert _ m _ _ => aeval G e m = some (.mp r)
 | _ => False
def touchP (G : Glob) (fp : List (Nat × Nat)) (e : Env) (i : Nat) (o : Op) : Prop := match fp.lookup i with
 | some r => if isIns o = true then onIns G e o r else onRow G e o r
 | none => True
section
variable {P : Program} {T : Ty} {Mv X : Nat → Prop} {G : Glob} {N : Fr} {ops : Array Oper} {fp : List (Nat × Nat)} {cn : List Nat}
theorem Ex.touchI {o : Oper} {e : Env} {H H' : Heap} {x : AV} {r : Nat} (ht : onIns G e o.op r) (h : Ex P T Mv G o e H x H') :
  ∃ u, H' = pset H r u ∧ ∀ H2, H2 r = H r → Ex P T Mv G o e H2 x (pset H2 r u) := by
 obtain ⟨dst, op, type, pos, after, guard⟩ := o
 dsimp only at ht
 cases op <;> simp only [onIns] at ht
 case insert t m k v =>
  unfold Ex at h; simp only [isCall, isWr, if_true] at h
  obtain ⟨c, h1, h3⟩ := h
  cases dst with
  | some d => simp [wr] at h1
  | none =>
   simp only [wr, ht] at h1
   split at h1
   ·rename_i q key y hm hk hv
    simp only [Option.some.injEq, AV.mp.injEq] at hm; subst hm
    split at h1
    ·rename_i ty ents hr
     split at h1
     ·rename_i c' ents' hp
      simp only [Option.some.injEq, Prod.mk.injEq, St.mk.injEq, true_and] at h1
      obtain ⟨rfl, rfl, rfl⟩ := h1
      refine ⟨some (.mp ty ents'), rfl, fun H2 h2 => ?_⟩; unfold Ex; simp only [isCall, isWr, if_true]; exact ⟨_, by simp only [wr, ht, hk, hv, h2, hr, hp]; rfl, h3⟩
     ·cases h1
    ·cases h1
   ·cases h1
theorem Ex.touchP {o : Oper} {e : Env} {H H' : Heap} {x : AV} {r i : Nat} (hr : fp.lookup i = some r) (ht : Av.touchP G fp e i o.op) (h : Ex P T Mv G o e H x H') :
  ∃ u, H' = pset H r u ∧ ∀ H2, H2 r = H r → Ex P T Mv G o e H2 x (pset H2 r u) := by
 unfold Av.touchP at ht; simp only [hr] at ht
 split at ht
 ·exact h.touchI ht
 ·exact h.touch ht
theorem Ex.call {o : Oper} {e : Env} {H H' : Heap} {x : AV} (hn : isCall o.op ≠ none) (h : Ex P T Mv G o e H x H') : H' = H := by
 cases hc : isCall o.op with
 | none => exact absurd hc hn
 | some c =>
  unfold Ex at h; simp only [hc] at h; exact h.choose_spec.2.2
def PStep (P : Program) (T : Ty) (Mv : Nat → Prop) (G : Glob) (N : Fr) (ops : Array Oper) (fp : List (Nat × Nat)) (cn : List Nat) (cl : List (Nat × AV)) (i : Nat) (o : Oper) (σ σ' : St) : Prop :=
 kindOf o.op ≠ 9 ∧ (∃ x H', Sx P T Mv G N ops o σ.env σ.H x H' ∧ σ' = ⟨putd σ.env o.dst x, H'⟩ ∧ (isCall o.op ≠ none → wantedS ops σ.env o = some true → cl.lookup i = some x) ∧ (cn.contains i = true → wantedS ops σ.env o = some true → isCall o.op ≠ none ∧ ∀ H2, Ex P T Mv G o σ.env H2 x H2)) ∧ (wantedS ops σ.env o = some true → touchP G fp σ.env i o.op)
theorem PStep.to {cl : List (Nat × AV)} {i : Nat} {o : Oper} {σ σ' : St} (h : PStep P T Mv G N ops fp cn cl i o σ σ') : stepTo P T Mv G N ops o σ σ' := by
 obtain ⟨hk, ⟨x, H', hs, e, _, _⟩, _⟩ := h
 exact (stepTo_Sx hk).2 ⟨x, H', hs, e⟩
variable {cl : List (Nat × AV)}
def callP (P : Program) (G : Glob) (cl : List (Nat × AV)) (i : Nat) (c : Call) (σ : St) (dst : Option Tmp) (next : St → Prop) : Prop := ∃ y, cl.lookup i = some (.d y) ∧ (∀ H2, callTo P G ⟨σ.env, H2⟩ c y) ∧ next ⟨putd σ.env dst (.d y), σ.H⟩
theorem callP.data {i : Nat} {c : Call} {σ : St} {g : FuncId} {xs : List AV} {ds ds' : List D} {y : D} {dst : Option Tmp} {next : St → Prop} (hc : PureC P G g ds y) (hcl : cl.lookup i = some (.d y)) (ht : tgt G σ.env c = some (g, xs)) (hx : allD xs = some ds') (hle : D.le.go ds' ds) (h : next ⟨putd σ.env dst (.d y), σ.H⟩) : callP P G cl i c σ dst next :=
 ⟨y, hcl, fun _ => ⟨g, xs, ht, .inl ⟨ds', allD_eq hx, hc.weak hle⟩⟩, h⟩
def stepP (P : Program) (T : Ty) (Mv : Nat → Prop) (G : Glob) (N : Fr) (ops : Array Oper) (fp : List (Nat × Nat)) (cn : List Nat) (cl : List (Nat × AV)) (i : Nat) (o : Oper) (σ : St) (K : St → Prop) : Prop := okDst N o ∧ kindOf o.op ≠ 9 ∧ match wantedS ops σ.env o with
 | some b => if b = true then touchP G fp σ.env i o.op ∧ (match isCall o.op with
  | some c => callP P G cl i c σ o.dst K
  | none => cn.contains i = false ∧ plainS T G Mv o σ K) else K ⟨putd σ.env o.dst und, σ.H⟩
 | none => False
attribute [simp] stepP touchP isIns onIns
end
end Go.Av
namespace Go.Av
def Invs (P : Program) (t : TypeId) (name : String) (g : FuncId) : Prop := ∀ (v : Value) (w : World), (invoke (.fn (.method name) #[]) #[.iface t v]).run P w = .ok (.enter g #[v]) w
def invOf : Op → Option (Operand × String)
 | .call { callee := .invoke r name, args := az, argTypes := _ } => if az.isEmpty then some (r, name) else none
 | _ => none
def stepI (P : Program) (T : Ty) (Mv X : Nat → Prop) (G : Glob) (N : Fr) (ops : Array Oper) (o : Oper) (σ : St) (K : St → Prop) : Prop := okDst N o ∧ match wantedS ops σ.env o with
 | some b => if b = true then (match invOf o.op with
  | some (r, name) => ∃ t x g, aeval G σ.env r = some (.d (.ifc t x)) ∧ Invs P t name g ∧ callK P Mv X G N g [.d x] σ o.dst K
  | none => ex1 P T Mv X G N o σ K) else K ⟨putd σ.env o.dst und, σ.H⟩
 | none => False
section
variable {P : Program} {T : Ty} {Mv X : Nat → Prop} {G : Glob} {N : Fr} {w : World} {μ : Mu} {a : Act} {σ : St}
attribute [simp] stepI invOf ex1
end
end Go.Av
