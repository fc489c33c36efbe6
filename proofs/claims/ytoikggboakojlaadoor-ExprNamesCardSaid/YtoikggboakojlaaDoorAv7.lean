/-
  Operations that make or write memory, held against the model's own run.
-/
import Derived.Test.YtoikggboakojlaaDoorAv6
namespace Go.Av

def D.one : D → Bool
  | .v x => x.oneCell'
  | .agg _ | .tup _ => false
  | _ => true
def AV.one : AV → Bool
  | .d x => x.one
  | .own _ _ _ | .ref _ _ _ | .ifc _ _ | .fn _ _ => true
  | _ => false

section
variable {w : World} {X : Nat → Prop} {μ : Mu}
theorem RD.one_ok {u : Value} {x : D} (h : RD w X u x) (h1 : x.one = true) : u.oneCell' = true := by
  cases h <;> first | rfl | exact h1 | cases h1
theorem RV.one_ok {u : Value} {x : AV} (h : RV w X μ u x) (h1 : x.one = true) : u.oneCell' = true := by
  cases h with
  | d h => exact h.one_ok h1
  | own _ h => rcases h with ⟨_, rfl, _⟩ | ⟨b, _, rfl, _⟩ <;> rfl
  | ref _ _ => rfl
  | ifc _ => rfl
  | fn _ _ => rfl
  | _ => cases h1
theorem cells_one {u : Value} (h : u.oneCell' = true) : u.cells = #[u] := by cases u <;> first | rfl | cases h

/-- Cells, and what they stand for. -/
structure Pts (w : World) (X : Nat → Prop) (μ : Mu) (arr : Array Value) (cells : List AV) : Prop where
  size : arr.size = cells.length
  at_ : ∀ (j : Nat) (u : Value) (c : AV), arr[j]? = some u → cells[j]? = some c → RV w X μ u c

def valCells : AV → Option (List AV)
  | .d (.agg cs) => some (cs.map .d)
  | .agg cs => some cs
  | x => if x.one then some [x] else none

theorem valCells_ok {u : Value} {x : AV} {cs : List AV} (hx : RV w X μ u x) (h : valCells x = some cs) : Pts w X μ u.cells cs := by
  unfold valCells at h
  split at h
  · obtain rfl := Option.some.inj h
    obtain ⟨arr, rfl, hn, hr⟩ := hx.data.agg_inv
    exact ⟨by simpa [Value.cells] using hn, RV.of_data hr⟩
  · obtain rfl := Option.some.inj h
    obtain ⟨arr, rfl, hn, hr⟩ := hx.agg_inv
    exact ⟨hn, hr⟩
  · split at h
    · rename_i h1
      obtain rfl := Option.some.inj h
      rw [cells_one (hx.one_ok h1)]
      refine ⟨rfl, fun j v c hv hc => ?_⟩
      match j, hv, hc with
      | 0, hv, hc => simp at hv hc; subst hv hc; exact hx
      | j + 1, hv, hc => simp at hc
    · cases h

def zeroD : Value → List D
  | .agg arr => arr.toList.map cstD
  | v => [cstD v]
theorem zeroD_ok (v : Value) : v.cells.size = (zeroD v).length ∧ ∀ (j : Nat) (u : Value) (c : D), v.cells[j]? = some u → (zeroD v)[j]? = some c → RD w X u c := by
  cases v with
  | agg arr =>
    refine ⟨by simp [Value.cells, zeroD], fun j u c hu hc => ?_⟩
    simp only [zeroD, List.getElem?_map] at hc
    obtain ⟨c', hc', rfl⟩ := Option.map_eq_some_iff.1 hc
    rw [Array.getElem?_toList] at hc'
    simp only [Value.cells] at hu
    rw [hu] at hc'
    obtain rfl := Option.some.inj hc'
    exact cstD_ok _
  | _ =>
    refine ⟨rfl, fun j u c hu hc => ?_⟩
    match j, hu, hc with
    | 0, hu, hc => simp [Value.cells, zeroD] at hu hc; subst hu hc; exact cstD_ok _
    | j + 1, hu, hc => simp [zeroD] at hc
end

/-- What an operation does: it runs to its end; the state behind it, what it yields. -/
def Does (Mv X : Nat → Prop) (G : Glob) (N : Nat) (w : World) (μ : Mu) (a : Act) (run : Result Value) (x : AV) (σ1 : St) : Prop :=
  ∃ v w' μ', run = .ok v w' ∧ In w' X G μ' N a σ1 ∧ RV w' X μ' v x ∧ Ev Mv w μ w' μ'

section
variable {P : Program} {T : Ty} {Mv X : Nat → Prop} {G : Glob} {N : Nat} {w : World} {μ : Mu} {a : Act} {σ : St}

theorem Does.of_val (hi : In w X G μ N a σ) {run : Result Value} {x : AV} (h : ∃ v, run = .ok v w ∧ RV w X μ v x) : Does Mv X G N w μ a run x σ :=
  let ⟨v, hr, hv⟩ := h
  ⟨v, w, μ, hr, hi, hv, .refl _ w μ⟩

theorem newBox (hi : In w X G μ N a σ) {d : Nat} (hd : σ.H d = none) (t : TypeId) {cur : Array Value} {cells : List AV} (hp : Pts w X μ cur cells) :
    Does Mv X G N w μ a (.ok (.pointer (some ⟨w.heap.size, 0, none⟩)) (w.alloc (.cells cur t))) (.ref d 0 0) ⟨σ.env, hup σ.H d (.box t cells)⟩ := by
  have hnone := hi.sim.none_of hd
  have hm : mup μ d ⟨some w.heap.size, cells.length, 1⟩ d = some ⟨some w.heap.size, cells.length, 1⟩ := by simp [mup]
  obtain ⟨h1, h2⟩ := hi.alloc (Mv := Mv) hd (Grew.alloc w (.cells cur t)) (m := ⟨some w.heap.size, cells.length, 1⟩) (fun b hb => by simp at hb; omega) (row := .box t cells) fun ev =>
    .box rfl rfl rfl (by simpa using heap_alloc_new w (.cells cur t)) hp.size fun j u c hu hc => (hp.at_ j u c hu hc).same ev fun q m' hq => by
      unfold mup; split
      · rename_i e; subst e; rw [hnone] at hq; cases hq
      · exact hq
  refine ⟨_, _, _, rfl, h1, ?_, h2⟩
  have := RV.ref (w := w.alloc (.cells cur t)) (X := X) (μ := mup μ d ⟨some w.heap.size, cells.length, 1⟩) (e := 0) (j := 0) (b := w.heap.size) hm rfl
  simpa using this

/-- Cells of a row of data. -/
structure Els (w : World) (X : Nat → Prop) (cur : Array Value) (sz : Nat) (els : List (List D)) : Prop where
  len : ∀ el ∈ els, el.length = sz
  at_ : ∀ (i j : Nat) (el : List D) (c : D), els[i]? = some el → el[j]? = some c → ∃ u, cur[i * sz + j]? = some u ∧ RD w X u c

theorem newSl (hi : In w X G μ N a σ) {d : Nat} (hd : σ.H d = none) (t : TypeId) {cur : Array Value} {sz n cap : Nat} {els : List (List D)} (he : Els w (XX X μ) cur sz els) (hz : 0 < sz) (hc : cur.size = cap * sz) (hn : els.length = n) (hcap : n ≤ cap) (hmax : cap ≤ maxLen) :
    Does Mv X G N w μ a (.ok (.slice (some ⟨w.heap.size, 0, none⟩) n cap) (w.alloc (.cells cur t))) (.own d 0 n) ⟨σ.env, hup σ.H d (.sl t sz els)⟩ := by
  have hm : mup μ d ⟨some w.heap.size, sz, cap⟩ d = some ⟨some w.heap.size, sz, cap⟩ := by simp [mup]
  obtain ⟨h1, h2⟩ := hi.alloc (Mv := Mv) hd (Grew.alloc w (.cells cur t)) (m := ⟨some w.heap.size, sz, cap⟩) (fun b hb => by simp at hb; omega) (row := .sl t sz els) fun ev =>
    .sl rfl rfl (by simpa using heap_alloc_new w (.cells cur t)) hc (by simp; omega) hmax he.len hz fun i j el c h1 h2 => let ⟨u, hu, hr⟩ := he.at_ i j el c h1 h2; ⟨u, hu, hr.ev ev⟩
  exact ⟨_, _, _, rfl, h1, .own hm (.inr ⟨w.heap.size, rfl, by simp, by simpa using hcap⟩), h2⟩

theorem allocA_ok (hg : Good P T) (hi : In w X G μ N a σ) {d : Nat} (hd : σ.H d = none) {t : TypeId} {ti : TI} (ht : T t = some ti) :
    Does Mv X G N w μ a ((Instr.alloc t true (.tuple #[])).run P w) (.ref d 0 0) ⟨σ.env, hup σ.H d (.box t ((zeroD ti.zero).map .d))⟩ := by
  have := newBox (Mv := Mv) hi hd t (cur := ti.zero.cells) (cells := (zeroD ti.zero).map .d) ⟨by simpa using (zeroD_ok (w := w) (X := X) ti.zero).1, RV.of_data (zeroD_ok ti.zero).2⟩
  simpa [Instr.alloc, hg.zero ht, newVar, newRow] using this

theorem boxA_ok (hi : In w X G μ N a σ) {d : Nat} (hd : σ.H d = none) {t : TypeId} {u : Value} {x : AV} {cs : List AV} (hx : RV w X μ u x) (hc : valCells x = some cs) :
    Does Mv X G N w μ a ((Instr.box t u).run P w) (.ref d 0 0) ⟨σ.env, hup σ.H d (.box t cs)⟩ := by
  have := newBox (Mv := Mv) hi hd t (valCells_ok hx hc)
  simpa [Instr.box, newVar, newRow] using this

/-! ### A store -/

theorem splice_get {α : Type} (l cs : List α) (j i : Nat) (hj : j + cs.length ≤ l.length) : (l.take j ++ cs ++ l.drop (j + cs.length))[i]? = if j ≤ i ∧ i < j + cs.length then cs[i - j]? else l[i]? := by
  rw [List.append_assoc, List.getElem?_append]
  simp only [List.length_take]
  have e1 : min j l.length = j := by omega
  rw [e1]
  split
  · rename_i h
    rw [if_neg (by omega), List.getElem?_take, if_pos h]
  · rename_i h
    rw [List.getElem?_append]
    split
    · rename_i h2
      rw [if_pos (by omega)]
    · rename_i h2
      rw [if_neg (by omega), List.getElem?_drop]
      congr 1
      omega

theorem run_storeVar {ti : TI} {t : TypeId} (hg : Good P T) (ht : T t = some ti) {b o : Nat} {ty : TypeId} {cur : Array Value} {u : Value} (hh : w.heap[b]? = some (.cells cur ty (0, 0))) (hs : u.cells.size = ti.size) (hfit : o + ti.size ≤ cur.size) (h1 : ∀ v ∈ u.cells.toList, v.oneCell' = true) :
    (storeVar t ⟨b, o, none⟩ u).run P w = .ok () (w.setRow b (cur.toList.take o ++ u.cells.toList ++ cur.toList.drop (o + u.cells.toList.length)).toArray) := by
  have := run_storeCells_at P b o ty u.cells.toList 0 cur w hh (by simp; omega) h1
  simp only [Nat.add_zero] at this
  simp [storeVar, hg.sizeOf ht, hs, this]

def storeBox (T : Ty) (t : TypeId) (cells : List AV) (j : Nat) (x : AV) : Option (Prop × List AV) := match T t, valCells x with
  | some ti, some cs => some (cs.length = ti.size ∧ j + cs.length ≤ cells.length ∧ cs.all AV.one = true, cells.take j ++ cs ++ cells.drop (j + cs.length))
  | _, _ => none

theorem storeBox_ok (hg : Good P T) (hi : In w X G μ N a σ) {t ty : TypeId} {r j : Nat} {cells cells' : List AV} {ua u : Value} {x : AV} {c : Prop} (hH : σ.H r = some (.box ty cells)) (h : storeBox T t cells j x = some (c, cells')) (hc : c)
    (ha : RV w X μ ua (.ref r 0 j)) (hx : RV w X μ u x) : ∃ w', (Instr.storeAt t ua u).run P w = .ok () w' ∧ In w' X G μ N a ⟨σ.env, hup σ.H r (.box ty cells')⟩ ∧ Ev Mv w μ w' μ := by
  unfold storeBox at h
  split at h
  · rename_i ti cs ht hcs
    simp only [Option.some.injEq, Prod.mk.injEq] at h
    obtain ⟨rfl, rfl⟩ := h
    obtain ⟨h1, h2, h3⟩ := hc
    obtain ⟨m, b, hm, hb, rfl⟩ := ha.ref_inv
    obtain ⟨m', hm', ok⟩ := hi.sim.rows r _ hH
    rw [hm] at hm'
    obtain rfl := Option.some.inj hm'
    have hp := valCells_ok hx hcs
    cases ok with
    | box hb' hsz hcap hh hn hr =>
      rename_i b' cur
      rw [hb] at hb'
      obtain rfl := Option.some.inj hb'
      have hone : ∀ v ∈ u.cells.toList, v.oneCell' = true := by
        intro v hv
        obtain ⟨i, hi', rfl⟩ := List.mem_iff_getElem.1 hv
        have hi2 : i < cs.length := by rw [← hp.size]; simpa using hi'
        refine (hp.at_ i _ cs[i] (by rw [← Array.getElem?_toList, List.getElem?_eq_getElem hi']) (by simp [hi2])).one_ok ?_
        exact List.all_eq_true.1 h3 _ (List.getElem_mem hi2)
      have hrun := run_storeVar (P := P) hg ht (o := j) hh (by rw [hp.size, h1]) (by omega) hone
      have hsz2 : u.cells.toList.length = cs.length := by simpa using hp.size
      obtain ⟨hin, hev⟩ := hi.write (Mv := Mv) (w' := w.setRow b (cur.toList.take j ++ u.cells.toList ++ cur.toList.drop (j + u.cells.toList.length)).toArray) hm hb (by simp) rfl rfl rfl (fun k hk => setRow_other w b k _ hk)
        (row := .box ty (cells.take j ++ cs ++ cells.drop (j + cs.length))) fun ev => by
          refine .box hb ?_ hcap (setRow_heap w b cur _ ty _ hh) ?_ fun i v c hv hc => ?_
          · rw [hsz]; simp; omega
          · simp [hsz2]; omega
          · rw [splice_get _ _ _ _ h2] at hc
            rw [← Array.getElem?_toList] at hv
            simp only at hv
            rw [splice_get _ _ _ _ (by rw [hsz2]; simp; omega), hsz2] at hv
            refine RV.same ev (fun _ _ h => h) ?_
            split at hv
            · rename_i hij
              rw [if_pos hij] at hc
              exact hp.at_ _ v c (by simpa using hv) hc
            · rename_i hij
              rw [if_neg hij] at hc
              exact hr i v c (by simpa using hv) hc
      refine ⟨_, ?_, hin, hev⟩
      simp only [Nat.zero_mul, Nat.zero_add]
      simpa [Instr.storeAt, Instr.sureAddr] using hrun
  · cases h

/-- A store into a row of data. -/
def storeSl (T : Ty) (t : TypeId) (sz : Nat) (els : List (List D)) (e j : Nat) (x : AV) : Option (Prop × List (List D)) := match T t, (valCells x).bind allD with
  | some ti, some cs => some (cs.length = ti.size ∧ e < els.length ∧ j + cs.length ≤ sz ∧ cs.all D.one = true, els.set e ((els.getD e []).take j ++ cs ++ (els.getD e []).drop (j + cs.length)))
  | _, _ => none

theorem storeSl_ok (hg : Good P T) (hi : In w X G μ N a σ) {t ty : TypeId} {r e j sz : Nat} {els els' : List (List D)} {ua u : Value} {x : AV} {c : Prop} (hH : σ.H r = some (.sl ty sz els)) (h : storeSl T t sz els e j x = some (c, els')) (hc : c)
    (ha : RV w X μ ua (.ref r e j)) (hx : RV w X μ u x) : ∃ w', (Instr.storeAt t ua u).run P w = .ok () w' ∧ In w' X G μ N a ⟨σ.env, hup σ.H r (.sl ty sz els')⟩ ∧ Ev Mv w μ w' μ := by
  unfold storeSl at h
  split at h
  · rename_i ti ds ht hcs
    obtain ⟨cs, hcs, hds⟩ := Option.bind_eq_some_iff.1 hcs
    simp only [Option.some.injEq, Prod.mk.injEq] at h
    obtain ⟨rfl, rfl⟩ := h
    obtain ⟨h1, h2, h3, h4⟩ := hc
    obtain ⟨m, b, hm, hb, rfl⟩ := ha.ref_inv
    obtain ⟨m', hm', ok⟩ := hi.sim.rows r _ hH
    rw [hm] at hm'
    obtain rfl := Option.some.inj hm'
    have hp := valCells_ok hx hcs
    rw [allD_eq hds] at hp
    have hpl : u.cells.size = ds.length := by simpa using hp.size
    have hpd : ∀ (i : Nat) (v : Value) (c : D), u.cells[i]? = some v → ds[i]? = some c → RD w (XX X μ) v c := fun i v c hv hc => (hp.at_ i v (.d c) hv (by rw [List.getElem?_map, hc]; rfl)).data
    cases ok with
    | nil hb' _ => rw [hb] at hb'; cases hb'
    | sl hb' hsz hh hcs' hn hmx hl hz hr =>
      rename_i b' cur
      rw [hb] at hb'
      obtain rfl := Option.some.inj hb'
      subst hsz
      have hone : ∀ v ∈ u.cells.toList, v.oneCell' = true := by
        intro v hv
        obtain ⟨i, hi', rfl⟩ := List.mem_iff_getElem.1 hv
        have hi2 : i < ds.length := by rw [← hpl]; simpa using hi'
        refine (hpd i _ ds[i] (by rw [← Array.getElem?_toList, List.getElem?_eq_getElem hi']) (by simp [hi2])).one_ok ?_
        exact List.all_eq_true.1 h4 _ (List.getElem_mem hi2)
      have hel : els.getD e [] = els[e] := by simp [List.getD_eq_getElem?_getD, h2]
      have hlen : (els[e]).length = m.sz := hl _ (List.getElem_mem h2)
      have hE : (e + 1) * m.sz ≤ m.cap * m.sz := Nat.mul_le_mul_right _ (by omega)
      rw [Nat.add_mul] at hE
      have hrun := run_storeVar (P := P) hg ht (o := e * m.sz + j) hh (by rw [hpl, h1]) (by rw [hcs']; omega) hone
      have hsz2 : u.cells.toList.length = ds.length := by simpa using hpl
      rw [hel]
      obtain ⟨hin, hev⟩ := hi.write (Mv := Mv) (w' := w.setRow b (cur.toList.take (e * m.sz + j) ++ u.cells.toList ++ cur.toList.drop (e * m.sz + j + u.cells.toList.length)).toArray) hm hb (by simp) rfl rfl rfl (fun k hk => setRow_other w b k _ hk)
        (row := .sl ty m.sz (els.set e ((els[e]).take j ++ ds ++ (els[e]).drop (j + ds.length)))) fun ev => by
          refine .sl hb rfl (setRow_heap w b cur _ ty _ hh) ?_ (by simpa using hn) hmx ?_ hz ?_
          · simp [hsz2, hcs']; omega
          · intro el hel'
            rcases List.mem_or_eq_of_mem_set hel' with h | rfl
            · exact hl el h
            · simp [hlen]; omega
          · intro i k el c hi' hk
            have key : ∀ idx, ((cur.toList.take (e * m.sz + j) ++ u.cells.toList ++ cur.toList.drop (e * m.sz + j + u.cells.toList.length)).toArray)[idx]? = if e * m.sz + j ≤ idx ∧ idx < e * m.sz + j + ds.length then u.cells[idx - (e * m.sz + j)]? else cur[idx]? := by
              intro idx
              rw [← Array.getElem?_toList]
              simp only
              rw [splice_get _ _ _ _ (by rw [hsz2]; simp [hcs']; omega), hsz2]
              simp
            rw [key]
            have hkl : k < m.sz := by
              have hm' : el ∈ els.set e ((els[e]).take j ++ ds ++ (els[e]).drop (j + ds.length)) := List.mem_of_getElem? hi'
              have : el.length = m.sz := by
                rcases List.mem_or_eq_of_mem_set hm' with h | rfl
                · exact hl el h
                · simp [hlen]; omega
              have := (List.getElem?_eq_some_iff.1 hk).1
              omega
            rw [List.getElem?_set] at hi'
            split at hi'
            · rename_i hei
              subst hei
              try rw [if_pos h2] at hi'
              obtain rfl := Option.some.inj hi'
              rw [splice_get _ _ _ _ (by omega)] at hk
              split at hk
              · rename_i hjk
                rw [if_pos (by omega)]
                have e1 : e * m.sz + k - (e * m.sz + j) = k - j := by omega
                rw [e1]
                have hlt : k - j < u.cells.size := by omega
                exact ⟨u.cells[k - j], by simp [hlt], (hpd (k - j) _ c (by simp [hlt]) hk).ev ev⟩
              · rename_i hjk
                rw [if_neg (by omega)]
                obtain ⟨v, hv, hrd⟩ := hr e k _ c (List.getElem?_eq_getElem h2) hk
                exact ⟨v, hv, hrd.ev ev⟩
            · rename_i hei
              have hne : ¬ (e * m.sz + j ≤ i * m.sz + k ∧ i * m.sz + k < e * m.sz + j + ds.length) := by
                rintro ⟨g1, g2⟩
                rcases Nat.lt_or_gt_of_ne hei with h | h
                · have : (e + 1) * m.sz ≤ i * m.sz := Nat.mul_le_mul_right _ h
                  rw [Nat.add_mul] at this
                  omega
                · have : (i + 1) * m.sz ≤ e * m.sz := Nat.mul_le_mul_right _ h
                  rw [Nat.add_mul] at this
                  omega
              rw [if_neg hne]
              obtain ⟨v, hv, hrd⟩ := hr i k el c hi' hk
              exact ⟨v, hv, hrd.ev ev⟩
      refine ⟨_, ?_, hin, hev⟩
      simpa [Instr.storeAt, Instr.sureAddr] using hrun
  · cases h

/-! ### make -/

def makeEls (ti : TI) (n : Nat) : List (List D) := List.replicate n (zeroD ti.zero)

theorem makeA_ok (hg : Good P T) (hi : In w X G μ N a σ) {d : Nat} (hd : σ.H d = none) {t e : TypeId} {tt te : TI} (htt : T t = some tt) (hdd : tt.desc = .slice e) (hte : T e = some te) {k1 k2 : IntKind} {l c : Int} (h0 : 0 ≤ l) (h1 : l ≤ c) (h2 : te.bytes * c ≤ 281474976710656) (h3 : c ≤ 9223372036854775807)
    (hz : 0 < te.size) (hzs : (zeroD te.zero).length = te.size) :
    Does Mv X G N w μ a ((Instr.makeSlice t (.int k1 l) (.int k2 c)).run P w) (.own d 0 l.toNat) ⟨σ.env, hup σ.H d (.sl e te.size (makeEls te l.toNat))⟩ := by
  obtain ⟨hu, i0, hii, hs0, hb0, hz0⟩ := hg e te hte
  have ht := (hg t tt htt).1
  rw [hdd] at ht
  rw [run_make (P := P) w t e i0 te.zero ht hii hz0 k1 k2 l c h0 h1 (by rw [hb0]; exact h2) h3, hs0]
  refine newSl (Mv := Mv) hi hd e ⟨fun el hel => ?_, fun i j el d hel hd => ?_⟩ hz (size_madeCells _ _) (by simp [makeEls]) (by omega) (by unfold maxLen; omega)
  · rw [List.eq_of_mem_replicate hel, hzs]
  · unfold makeEls at hel
    rw [List.getElem?_replicate] at hel
    split at hel
    · rename_i hlt
      obtain rfl := Option.some.inj hel
      have hj : j < te.size := by rw [← hzs]; exact (List.getElem?_eq_some_iff.1 hd).1
      have hzc := zeroD_ok (w := w) (X := XX X μ) te.zero
      have hcs : te.zero.cells.size = te.size := by rw [hzc.1, hzs]
      have hjc : j < te.zero.cells.size := by omega
      refine ⟨te.zero.cells[j], ?_, hzc.2 j _ d (by simp [hjc]) hd⟩
      have hb : i * te.size + j < c.toNat * te.size := by
        have : (i + 1) * te.size ≤ c.toNat * te.size := Nat.mul_le_mul_right _ (by omega)
        rw [Nat.add_mul] at this
        omega
      have hmod : (i * te.size + j) % te.size = j := by rw [Nat.mul_comm, Nat.mul_add_mod, Nat.mod_eq_of_lt hj]
      simp [madeCells, hb, hcs, hmod]
      exact getElem!_pos te.zero.cells j hjc
    · cases hel
end
end Go.Av
