/-
  append, and slices that are written out, held against the model's own run.
-/
import Derived.Test.YtoikggboakojlaaDoorAv7
namespace Go.Av

section
variable {P : Program} {T : Ty} {Mv X : Nat → Prop} {G : Glob} {N : Nat} {w : World} {μ : Mu} {a : Act} {σ : St}

/-! ### Slices that are written out -/

def catD (sz : Nat) : Nat → List (Nat × AV) → Option (List (List D))
  | _, [] => some []
  | k, (i, x) :: rest => if i = k then match (valCells x).bind allD with
      | some ds => if ds.length = sz then (catD sz (k + 1) rest).map (ds :: ·) else none
      | none => none
    else none

/-- One array's cells put into another one's, from a place on. -/
theorem put_get (vs : List Value) : ∀ (n off : Nat) (arr : Array Value) (k : Nat), off + n + vs.length ≤ arr.size →
    ((vs.zipIdx n).foldl (fun cs (p : Value × Nat) => cs.setIfInBounds (off + p.2) p.1) arr)[k]? = if off + n ≤ k ∧ k < off + n + vs.length then vs[k - (off + n)]? else arr[k]? := by
  induction vs with
  | nil =>
    intro n off arr k _
    simp only [List.zipIdx_nil, List.foldl_nil, List.length_nil]
    rw [if_neg (by omega)]
  | cons v vs ih =>
    intro n off arr k hk
    simp only [List.length_cons] at hk
    rw [List.zipIdx_cons, List.foldl_cons, ih (n + 1) off _ k (by simp; omega)]
    simp only [List.length_cons]
    by_cases h1 : k = off + n
    · subst h1
      rw [if_neg (by omega), if_pos (by omega)]
      simp [Array.getElem?_setIfInBounds, show off + n < arr.size by omega]
    · by_cases h2 : off + (n + 1) ≤ k ∧ k < off + (n + 1) + vs.length
      · rw [if_pos h2, if_pos (by omega)]
        have : k - (off + n) = (k - (off + (n + 1))) + 1 := by omega
        rw [this]
        rfl
      · rw [if_neg h2, if_neg (by omega)]
        exact Array.getElem?_setIfInBounds_ne (by omega)

theorem put_size (vs : List Value) : ∀ (n off : Nat) (arr : Array Value), ((vs.zipIdx n).foldl (fun cs (p : Value × Nat) => cs.setIfInBounds (off + p.2) p.1) arr).size = arr.size := by
  induction vs with
  | nil => intros; rfl
  | cons v vs ih => intro n off arr; rw [List.zipIdx_cons, List.foldl_cons, ih]; simp

theorem fill_cat {sz : Nat} : ∀ (ps : List (Nat × AV)) (vs : List (Nat × Value)) (k : Nat) (els : List (List D)) (arr : Array Value), catD sz k ps = some els → vs.map (·.1) = ps.map (·.1) →
    (∀ (i : Nat) (p : Nat × AV) (v : Nat × Value), ps[i]? = some p → vs[i]? = some v → RV w X μ v.2 p.2) → (k + ps.length) * sz ≤ arr.size →
    ∃ arr', Instr.fill (fun i => some (i * sz, sz)) arr vs = some arr' ∧ arr'.size = arr.size ∧ (∀ idx, idx < k * sz → arr'[idx]? = arr[idx]?) ∧ els.length = ps.length ∧ (∀ el ∈ els, el.length = sz) ∧
      ∀ (i j : Nat) (el : List D) (c : D), els[i]? = some el → el[j]? = some c → ∃ u, arr'[(k + i) * sz + j]? = some u ∧ RD w (XX X μ) u c := by
  intro ps
  induction ps with
  | nil =>
    intro vs k els arr h hv _ _
    cases vs with
    | cons _ _ => simp at hv
    | nil =>
      simp only [catD, Option.some.injEq] at h
      subst h
      exact ⟨arr, rfl, rfl, fun _ _ => rfl, rfl, by simp, by simp⟩
  | cons p ps ih =>
    intro vs k els arr h hv hr hs
    obtain ⟨i, x⟩ := p
    cases vs with
    | nil => simp at hv
    | cons v vs =>
      obtain ⟨i', u⟩ := v
      simp only [List.map_cons, List.cons.injEq] at hv
      obtain ⟨rfl, hv⟩ := hv
      simp only [catD] at h
      split at h
      case isFalse => cases h
      rename_i hik
      subst hik
      split at h
      case h_2 => cases h
      rename_i ds hds
      split at h
      case isFalse => cases h
      rename_i hlen
      obtain ⟨els', hels, rfl⟩ := Option.map_eq_some_iff.1 h
      obtain ⟨cs, hcs, hall⟩ := Option.bind_eq_some_iff.1 hds
      have hp := valCells_ok (hr 0 (i', x) (i', u) rfl rfl) hcs
      rw [allD_eq hall] at hp
      have hpl : u.cells.size = sz := by have := hp.size; simp at this; omega
      have hpd : ∀ (j : Nat) (v : Value) (c : D), u.cells[j]? = some v → ds[j]? = some c → RD w (XX X μ) v c := fun j v c hv hc => (hp.at_ j v (.d c) hv (by rw [List.getElem?_map, hc]; rfl)).data
      have hfit : i' * sz + sz ≤ arr.size := by
        simp only [List.length_cons] at hs
        have : (i' + 1) * sz ≤ (i' + (ps.length + 1)) * sz := Nat.mul_le_mul_right _ (by omega)
        rw [Nat.add_mul] at this
        omega
      let arr1 := (u.cells.zipIdx.foldl (fun cs (p : Value × Nat) => cs.setIfInBounds (i' * sz + p.2) p.1) arr)
      have harr1 : arr1 = ((u.cells.toList.zipIdx 0).foldl (fun cs (p : Value × Nat) => cs.setIfInBounds (i' * sz + p.2) p.1) arr) := by
        show Array.foldl _ _ _ = _
        rw [← Array.foldl_toList, Array.toList_zipIdx]
      have hsize1 : arr1.size = arr.size := by rw [harr1]; exact put_size _ _ _ _
      have hget1 : ∀ k, arr1[k]? = if i' * sz ≤ k ∧ k < i' * sz + sz then u.cells[k - i' * sz]? else arr[k]? := by
        intro k
        rw [harr1, put_get _ 0 _ _ _ (by simp [hpl]; omega)]
        simp [hpl]
      obtain ⟨arr', hf, hsz', hold, hlen', hall', hnew⟩ := ih vs (i' + 1) els' arr1 hels hv (fun i p v h1 h2 => hr (i + 1) p v (by simpa using h1) (by simpa using h2)) (by rw [hsize1]; simp only [List.length_cons] at hs; rw [show i' + 1 + ps.length = i' + (ps.length + 1) by omega]; exact hs)
      refine ⟨arr', ?_, hsz'.trans hsize1, fun idx hidx => ?_, by simp [hlen'], fun el hel => ?_, fun i j el c hi hj => ?_⟩
      · simp only [Instr.fill]
        have : ¬ (u.cells.size ≠ sz ∨ i' * sz + u.cells.size > arr.size) := by omega
        simp only [hpl, ne_eq, not_true_eq_false, decide_false, Bool.false_or, decide_eq_true_eq]
        rw [if_neg (by omega)]
        exact hf
      · rw [hold idx (by rw [Nat.add_mul]; omega), hget1, if_neg (by omega)]
      · rcases List.mem_cons.1 hel with rfl | h
        · exact hlen
        · exact hall' el h
      · cases i with
        | zero =>
          simp at hi
          subst hi
          have hj' : j < sz := by rw [← hlen]; exact (List.getElem?_eq_some_iff.1 hj).1
          have hju : j < u.cells.size := by omega
          refine ⟨u.cells[j], ?_, hpd j _ c (by simp [hju]) hj⟩
          rw [Nat.add_zero, hold _ (by rw [Nat.add_mul]; omega), hget1, if_pos (by omega)]
          simp [hju]
        | succ i =>
          simp at hi
          have := hnew i j el c hi hj
          rwa [show i' + 1 + i = i' + (i + 1) by omega] at this

theorem buildSliceA_ok (hg : Good P T) (hi : In w X G μ N a σ) {d : Nat} (hd : σ.H d = none) {t e : TypeId} {tt te : TI} (htt : T t = some tt) (hdd : tt.desc = .slice e) (hte : T e = some te) {len : Nat} {ps : List (Nat × AV)} {vs : Array (Nat × Value)} {els : List (List D)}
    (hcat : catD te.size 0 ps = some els) (hlen : ps.length = len) (hv : vs.toList.map (·.1) = ps.map (·.1)) (hr : ∀ (i : Nat) (p : Nat × AV) (v : Nat × Value), ps[i]? = some p → vs[i]? = some v → RV w X μ v.2 p.2)
    (hz : 0 < te.size) (hsmall : len * te.size ≤ 16777216) :
    Does Mv X G N w μ a ((Instr.buildSlice t len vs).run P w) (.own d 0 len) ⟨σ.env, hup σ.H d (.sl e te.size els)⟩ := by
  have hu := hg.und (w := w) htt
  have hsz := hg.sizeOf (w := w) hte
  have hzv := hg.zero (w := w) hte
  obtain ⟨arr', hf, hsz', _, hl, hall, hnew⟩ := fill_cat (w := w) (X := X) (μ := μ) (sz := te.size) ps vs.toList 0 els ((Array.range (len * te.size)).map ((if len * te.size = 0 then #[] else te.zero.cells)[· % (if len * te.size = 0 then #[] else te.zero.cells).size]!)) hcat hv
    (fun i p v h1 h2 => hr i p v h1 (by rwa [Array.getElem?_toList] at h2)) (by simp [hlen])
  have := newSl (Mv := Mv) hi hd e (cur := arr') (sz := te.size) (n := len) (cap := len) (els := els) ⟨hall, fun i j el c h1 h2 => by simpa using hnew i j el c h1 h2⟩ hz (by rw [hsz']; simp) (by omega) (Nat.le_refl _) (by
    have : len ≤ len * te.size := Nat.le_mul_of_pos_right _ hz
    unfold maxLen; omega)
  have hn : ¬ len * te.size > 2 ^ 24 := by omega
  have e0 : ∀ f : Nat → Value, (Array.range 0).map f = #[] := fun f => by apply Array.ext <;> simp
  by_cases h0 : len * te.size = 0
  · simp only [h0, if_true, e0] at hf
    simp only [Instr.buildSlice, Sem.run_bind, hu, hdd, Result.andThen_ok, hsz, hn, if_false, h0, if_true, Sem.run_pure, e0]
    simp [hf, newRow]
    exact this
  · simp only [h0, if_false] at hf
    simp only [Instr.buildSlice, Sem.run_bind, hu, hdd, Result.andThen_ok, hsz, hn, if_false, h0, Sem.run_pure, hzv]
    simp [hf, newRow]
    exact this

/-! ### Structs that are written out -/

def fillA (pl : Nat → Option (Nat × Nat)) : List AV → List (Nat × AV) → Option (List AV)
  | cs, [] => some cs
  | cs, (i, x) :: rest => match pl i, valCells x with
    | some (off, sz), some xs => if xs.length = sz ∧ off + sz ≤ cs.length then fillA pl (cs.take off ++ xs ++ cs.drop (off + sz)) rest else none
    | _, _ => none

theorem fillA_ok {pl : Nat → Option (Nat × Nat)} : ∀ (ps : List (Nat × AV)) (vs : List (Nat × Value)) (cs cs' : List AV) (arr : Array Value), fillA pl cs ps = some cs' → vs.map (·.1) = ps.map (·.1) →
    (∀ (i : Nat) (p : Nat × AV) (v : Nat × Value), ps[i]? = some p → vs[i]? = some v → RV w X μ v.2 p.2) → Pts w X μ arr cs → ∃ arr', Instr.fill pl arr vs = some arr' ∧ Pts w X μ arr' cs' := by
  intro ps
  induction ps with
  | nil =>
    intro vs cs cs' arr h hv _ hp
    cases vs with
    | cons _ _ => simp at hv
    | nil =>
      simp only [fillA, Option.some.injEq] at h
      subst h
      exact ⟨arr, rfl, hp⟩
  | cons p ps ih =>
    intro vs cs cs' arr h hv hr hp
    obtain ⟨i, x⟩ := p
    cases vs with
    | nil => simp at hv
    | cons v vs =>
      obtain ⟨i', u⟩ := v
      simp only [List.map_cons, List.cons.injEq] at hv
      obtain ⟨rfl, hv⟩ := hv
      simp only [fillA] at h
      split at h
      case h_2 => cases h
      rename_i off sz xs hpl hxs
      split at h
      case isFalse => cases h
      rename_i hc
      obtain ⟨hxl, hfit⟩ := hc
      have hpu := valCells_ok (hr 0 (i', x) (i', u) rfl rfl) hxs
      have hul : u.cells.size = sz := by rw [hpu.size, hxl]
      have harr : arr.size = cs.length := hp.size
      let arr1 := (u.cells.zipIdx.foldl (fun cs (p : Value × Nat) => cs.setIfInBounds (off + p.2) p.1) arr)
      have harr1 : arr1 = ((u.cells.toList.zipIdx 0).foldl (fun cs (p : Value × Nat) => cs.setIfInBounds (off + p.2) p.1) arr) := by
        show Array.foldl _ _ _ = _
        rw [← Array.foldl_toList, Array.toList_zipIdx]
      have hsize1 : arr1.size = arr.size := by rw [harr1]; exact put_size _ _ _ _
      have hget1 : ∀ k, arr1[k]? = if off ≤ k ∧ k < off + sz then u.cells[k - off]? else arr[k]? := by
        intro k
        rw [harr1, put_get _ 0 _ _ _ (by simp [hul]; omega)]
        simp [hul]
      have hp1 : Pts w X μ arr1 (cs.take off ++ xs ++ cs.drop (off + sz)) := by
        refine ⟨by rw [hsize1]; simp; omega, fun j v c hv' hc => ?_⟩
        rw [hget1] at hv'
        have hl1 : (List.take off cs).length = off := by simp; omega
        rw [List.append_assoc, List.getElem?_append, hl1] at hc
        split at hc
        · rename_i hj
          rw [if_neg (by omega)] at hv'
          rw [List.getElem?_take, if_pos hj] at hc
          exact hp.at_ j v c hv' hc
        · rename_i hj
          rw [List.getElem?_append, hxl] at hc
          split at hc
          · rename_i hj2
            rw [if_pos (by omega)] at hv'
            exact hpu.at_ _ v c hv' hc
          · rename_i hj2
            rw [if_neg (by omega)] at hv'
            rw [List.getElem?_drop] at hc
            refine hp.at_ j v c hv' ?_
            rw [← hc]
            congr 1
            omega
      obtain ⟨arr', hf, hp'⟩ := ih vs _ cs' arr1 h hv (fun i p v h1 h2 => hr (i + 1) p v (by simpa using h1) (by simpa using h2)) hp1
      refine ⟨arr', ?_, hp'⟩
      simp only [Instr.fill, hpl, hul, ne_eq, not_true_eq_false, decide_false, Bool.false_or, decide_eq_true_eq]
      rw [if_neg (by omega)]
      exact hf

def placesA (T : Ty) (t : TypeId) : Option (Nat → Option (Nat × Nat)) := match T t with
  | some ti => match ti.desc with
    | .struct fs => if fs.toList.all (fun f => (T f.type).isSome) then some fun i => (fs[i]?).bind fun (f : Field) => (T f.type).map fun tf => (f.offset, tf.size) else none
    | .array _ e => (T e).map fun te => fun i => some (i * te.size, te.size)
    | _ => none
  | none => none

def buildA (T : Ty) (t : TypeId) (ps : List (Nat × AV)) : Ans := match T t, placesA T t with
  | some ti, some pl => (fillA pl ((zeroD ti.zero).map .d) ps).map fun cs => (True, mkAgg cs)
  | _, _ => none

theorem run_places (hg : Good P T) : ∀ (l : List Field), l.all (fun f => (T f.type).isSome) = true →
    (l.mapM (m := Sem) fun (f : Field) => do pure (f.offset, ← Go.sizeOf f.type)).run P w = .ok (l.map fun (f : Field) => (f.offset, ((T f.type).map (·.size)).getD 0)) w := by
  intro l
  induction l with
  | nil => intro _; simp
  | cons f l ih =>
    intro h
    simp only [List.all_cons, Bool.and_eq_true] at h
    obtain ⟨ti, hti⟩ := Option.isSome_iff_exists.1 h.1
    simp only [List.mapM_cons, Sem.run_bind, hg.sizeOf hti, Result.andThen_ok, Sem.run_pure, ih h.2, List.map_cons, hti, Option.map_some, Option.getD_some]

theorem buildA_ok (hg : Good P T) {t : TypeId} {ps : List (Nat × AV)} {vs : Array (Nat × Value)} {c : Prop} {x : AV} (h : buildA T t ps = some (c, x)) (hv : vs.toList.map (·.1) = ps.map (·.1))
    (hr : ∀ (i : Nat) (p : Nat × AV) (v : Nat × Value), ps[i]? = some p → vs[i]? = some v → RV w X μ v.2 p.2) : ∃ u, (Instr.build t vs).run P w = .ok u w ∧ RV w X μ u x := by
  unfold buildA at h
  split at h
  case h_2 => cases h
  rename_i ti pl ht hpl
  obtain ⟨cs, hcs, he⟩ := Option.map_eq_some_iff.1 h
  simp only [Prod.mk.injEq] at he
  obtain ⟨_, rfl⟩ := he
  have hz := zeroD_ok (w := w) (X := XX X μ) ti.zero
  obtain ⟨arr', hf, hp⟩ := fillA_ok (w := w) (X := X) (μ := μ) ps vs.toList _ cs ti.zero.cells hcs hv (fun i p v h1 h2 => hr i p v h1 (by rwa [Array.getElem?_toList] at h2)) ⟨by simpa using hz.1, RV.of_data hz.2⟩
  refine ⟨.agg arr', ?_, mkAgg_ok (.agg hp.size hp.at_)⟩
  unfold placesA at hpl
  rw [ht] at hpl
  dsimp only at hpl
  split at hpl
  · rename_i fs hfs
    split at hpl
    · rename_i hall
      obtain rfl := Option.some.inj hpl
      have hm := run_places (P := P) (w := w) hg fs.toList hall
      have hpl2 : (fun (i : Nat) => ((fs.toList.map fun (f : Field) => (f.offset, ((T f.type).map (·.size)).getD 0)).toArray)[i]?) = fun (i : Nat) => (fs[i]?).bind fun (f : Field) => (T f.type).map fun tf => (f.offset, tf.size) := by
        funext i
        simp only [List.getElem?_toArray, List.getElem?_map, Array.getElem?_toList]
        cases hi : fs[i]? with
        | none => rfl
        | some f =>
          have hmem : f ∈ fs.toList := by rw [← Array.getElem?_toList] at hi; exact List.mem_of_getElem? hi
          obtain ⟨tf, htf⟩ := Option.isSome_iff_exists.1 (List.all_eq_true.1 hall f hmem)
          simp [htf]
      simp only [Instr.build, Sem.run_bind, hg.zero ht, hg.und ht, hfs, Result.andThen_ok, Array.mapM_eq_mapM_toList, map_eq_pure_bind, hm, Sem.run_pure]
      rw [← hpl2] at hf
      simp only [hf, Sem.run_pure]
    · cases hpl
  · rename_i n e he
    obtain ⟨te, hte, hpl⟩ := Option.map_eq_some_iff.1 hpl
    subst hpl
    simp [Instr.build, Sem.run_bind, hg.zero ht, hg.und ht, he, Result.andThen_ok, hg.sizeOf hte, hf]
  · cases hpl

/-! ### append -/

/-- The cells that are appended. -/
structure News (w : World) (X : Nat → Prop) (μ : Mu) (sz : Nat) (u : Value) (els : List (List D)) : Prop where
  len : ∀ el ∈ els, el.length = sz
  at_ : (els = [] ∧ ∃ (ad : Option Addr) (cap : Nat), u = .slice ad 0 cap) ∨ ∃ (ad : Addr) (cap : Nat) (news : List Value), u = .slice (some ad) els.length cap ∧ news.length = els.length * sz ∧ (∀ (j : Nat) (v : Value), news[j]? = some v → w.cell? (ad.add j) = some v) ∧ (∀ v ∈ news, v.oneCell' = true) ∧
    ∀ (i j : Nat) (el : List D) (c : D), els[i]? = some el → el[j]? = some c → ∃ v, news[i * sz + j]? = some v ∧ RD w (XX X μ) v c

theorem News.of_cells {sz : Nat} {els : List (List D)} {b off cap : Nat} (f : Nat → Nat → Value) (hl : ∀ el ∈ els, el.length = sz) (hz : 0 < sz) (h1 : ∀ el ∈ els, ∀ c ∈ el, D.one c = true)
    (hcell : ∀ i j, i < els.length → j < sz → w.cell? ⟨b, off + (i * sz + j), none⟩ = some (f i j)) (hr : ∀ (i j : Nat) (el : List D) (c : D), els[i]? = some el → el[j]? = some c → RD w (XX X μ) (f i j) c) :
    News w X μ sz (.slice (some ⟨b, off, none⟩) els.length cap) els := by
  refine ⟨hl, .inr ⟨_, _, (List.range (els.length * sz)).map fun k => f (k / sz) (k % sz), rfl, by simp, fun j v hv => ?_, fun v hv => ?_, fun i j el c hi hj => ?_⟩⟩
  · rw [List.getElem?_map] at hv
    obtain ⟨k, hk, rfl⟩ := Option.map_eq_some_iff.1 hv
    rw [List.getElem?_range] at hk
    · obtain rfl := Option.some.inj hk
      have hjlt : j < els.length * sz := by
        rcases Nat.lt_or_ge j (els.length * sz) with h | h
        · exact h
        · rw [List.getElem?_eq_none (by simpa using h)] at hv; cases hv
      have h2 : j / sz < els.length := (Nat.div_lt_iff_lt_mul hz).2 hjlt
      have h3 : j % sz < sz := Nat.mod_lt _ hz
      rw [addr_add, ← hcell (j / sz) (j % sz) h2 h3, Nat.div_add_mod']
    · rcases Nat.lt_or_ge j (els.length * sz) with h | h
      · exact h
      · rw [List.getElem?_eq_none (by simpa using h)] at hv; cases hv
  · obtain ⟨k, hk, rfl⟩ := List.mem_map.1 hv
    have hk := List.mem_range.1 hk
    have h2 : k / sz < els.length := (Nat.div_lt_iff_lt_mul hz).2 hk
    have h3 : k % sz < (els[k / sz]).length := by rw [hl _ (List.getElem_mem h2)]; exact Nat.mod_lt _ hz
    exact (hr (k / sz) (k % sz) _ _ (List.getElem?_eq_getElem h2) (List.getElem?_eq_getElem h3)).one_ok (h1 _ (List.getElem_mem h2) _ (List.getElem_mem h3))
  · have hi' := (List.getElem?_eq_some_iff.1 hi).1
    have hel : el.length = sz := hl _ (List.mem_of_getElem? hi)
    have hj' : j < sz := by rw [← hel]; exact (List.getElem?_eq_some_iff.1 hj).1
    have hb : i * sz + j < els.length * sz := by
      have : (i + 1) * sz ≤ els.length * sz := Nat.mul_le_mul_right _ hi'
      rw [Nat.add_mul] at this
      omega
    have e1 : (i * sz + j) / sz = i := by rw [Nat.mul_comm, Nat.mul_add_div hz, Nat.div_eq_of_lt hj']; rfl
    have e2 : (i * sz + j) % sz = j := by rw [Nat.mul_comm, Nat.mul_add_mod, Nat.mod_eq_of_lt hj']
    refine ⟨f i j, ?_, hr i j el c hi hj⟩
    rw [List.getElem?_map, List.getElem?_range hb]
    simp [e1, e2]

/-- What may be appended: data, or another row. -/
def newsOf (H : Heap) (r : Nat) : AV → Option (List (List D))
  | .d (.sl _ els) => some els
  | .own q off n => if q = r then none else match H q with
    | some (.sl _ _ els) => if off + n ≤ els.length then some ((els.drop off).take n) else none
    | _ => none
  | _ => none

theorem newsOf_ok (hs : Sim w X μ σ.H) {r sz : Nat} {u : Value} {x : AV} {els : List (List D)} (hx : RV w X μ u x) (h : newsOf σ.H r x = some els) (hl : ∀ el ∈ els, el.length = sz) (hz : 0 < sz) (h1 : ∀ el ∈ els, ∀ c ∈ el, D.one c = true) : News w X μ sz u els := by
  unfold newsOf at h
  split at h
  · rename_i k0 els0
    obtain rfl := Option.some.inj h
    rcases hx.data.sl_inv with ⟨rfl, rfl, _⟩ | ⟨ad, cap, rfl, _, _, _, hr⟩
    · exact ⟨by simp, .inl ⟨rfl, _, _, rfl⟩⟩
    · rcases hr with rfl | ⟨b, off, sz', f, rfl, hX, hz', hall, hcell, hrr⟩
      · exact ⟨by simp, .inl ⟨rfl, _, _, rfl⟩⟩
      · by_cases he : els0 = []
        · subst he; exact ⟨by simp, .inl ⟨rfl, _, _, rfl⟩⟩
        · obtain ⟨el, hel⟩ := List.exists_mem_of_ne_nil _ he
          have : sz' = sz := by rw [← hall el hel, hl el hel]
          subst this
          exact News.of_cells f hl hz h1 hcell hrr
  · rename_i q off n
    split at h
    · cases h
    · split at h
      · rename_i ty szq elsq hq
        split at h
        · rename_i hle
          obtain rfl := Option.some.inj h
          obtain ⟨m, hm, hh⟩ := hx.own_inv
          obtain ⟨m', hm', ok⟩ := hs.rows q _ hq
          rw [hm] at hm'
          obtain rfl := Option.some.inj hm'
          rcases hh with ⟨hb, rfl, rfl, rfl⟩ | ⟨b, hb, rfl, hcap⟩
          · exact ⟨by simp, .inl ⟨by simp, _, _, rfl⟩⟩
          · cases ok with
            | nil hb' _ => rw [hb'] at hb; cases hb
            | sl hb' hsz hh hcs hn hmx hll hzz hr =>
              rename_i b' cur
              rw [hb] at hb'
              obtain rfl := Option.some.inj hb'
              subst hsz
              by_cases h0 : n = 0
              · subst h0; exact ⟨by simp, .inl ⟨by simp, _, _, rfl⟩⟩
              · have hlen : ((elsq.drop off).take n).length = n := by simp; omega
                have hmem : ∀ el ∈ (elsq.drop off).take n, el ∈ elsq := fun el hel => List.mem_of_mem_drop (List.mem_of_mem_take hel)
                have hne : (elsq.drop off).take n ≠ [] := by intro e; rw [e] at hlen; simp at hlen; omega
                obtain ⟨el0, hel0⟩ := List.exists_mem_of_ne_nil _ hne
                have hszz : sz = m.sz := by rw [← hl el0 hel0, hll el0 (hmem el0 hel0)]
                subst hszz
                have := News.of_cells (w := w) (X := X) (μ := μ) (b := b) (off := off * m.sz) (cap := m.cap - off) (fun i j => cur.getD ((off + i) * m.sz + j) undef) hl hz h1 (fun i j hi hj => by
                  rw [hlen] at hi
                  have hlt : (off + i) * m.sz + j < cur.size := by
                    rw [hcs]
                    have : (off + i + 1) * m.sz ≤ m.cap * m.sz := Nat.mul_le_mul_right _ (by omega)
                    rw [Nat.add_mul] at this
                    omega
                  have e1 : off * m.sz + (i * m.sz + j) = (off + i) * m.sz + j := by rw [Nat.add_mul]; omega
                  rw [e1, cell_of_row w b _ cur ty (0, 0) hh]
                  simp [Array.getD_eq_getD_getElem?, hlt]) (fun i j el c hel hc => by
                  rw [List.getElem?_take] at hel
                  split at hel
                  · rw [List.getElem?_drop] at hel
                    obtain ⟨u', hu', hrd⟩ := hr (off + i) j el c hel hc
                    simpa [Array.getD_eq_getD_getElem?, hu'] using hrd
                  · cases hel)
                rwa [hlen] at this
        · cases h
      · cases h
  · cases h

theorem run_append_none {t ty e : TypeId} {tt te : TI} (hg : Good P T) (htt : T t = some tt) (hdd : tt.desc = .slice e) (hte : T e = some te) (base ad : Option Addr) (n cap c : Nat) (hn : n ≤ cap) :
    (Builtin.append_ #[t, t] ty #[.slice base n cap, .slice ad 0 c]).run P w = .ok (.slice base n cap) w := by
  have hu := hg.und (w := w) htt
  have hsz := hg.sizeOf (w := w) hte
  cases ad <;> cases base <;> simp [Builtin.append_, hu, hdd, hsz, Builtin.lenOf, hn, Builtin.firstCells, loadCells, loadCellsFrom, storeCells]

/-- Values that stand for elements, one behind the other. -/
def Rel (w : World) (X : Nat → Prop) (μ : Mu) (sz : Nat) (l : List Value) (els : List (List D)) : Prop :=
  ∀ (i j : Nat) (el : List D) (c : D), els[i]? = some el → el[j]? = some c → ∃ v, l[i * sz + j]? = some v ∧ RD w (XX X μ) v c

theorem Rel.append {sz : Nat} {l l' : List Value} {A B : List (List D)} (h : Rel w X μ sz l A) (hl : l.length = A.length * sz) (hA : ∀ el ∈ A, el.length = sz) (h' : Rel w X μ sz l' B) : Rel w X μ sz (l ++ l') (A ++ B) := by
  intro i j el c hi hj
  rw [List.getElem?_append] at hi
  split at hi
  · rename_i hlt
    obtain ⟨v, hv, hr⟩ := h i j el c hi hj
    exact ⟨v, by rw [List.getElem?_append_left (List.getElem?_eq_some_iff.1 hv).1]; exact hv, hr⟩
  · rename_i hge
    obtain ⟨v, hv, hr⟩ := h' _ j el c hi hj
    refine ⟨v, ?_, hr⟩
    have e1 : (i - A.length) * sz + j = i * sz + j - l.length := by
      have : A.length * sz ≤ i * sz := Nat.mul_le_mul_right _ (by omega)
      rw [hl, Nat.sub_mul]
      omega
    rw [List.getElem?_append_right, ← e1]
    · exact hv
    · have : A.length * sz ≤ i * sz := Nat.mul_le_mul_right _ (by omega)
      omega
theorem Rel.more {sz : Nat} {l l' : List Value} {A : List (List D)} (h : Rel w X μ sz l A) : Rel w X μ sz (l ++ l') A := by
  intro i j el c hi hj
  obtain ⟨v, hv, hr⟩ := h i j el c hi hj
  exact ⟨v, by rw [List.getElem?_append_left (List.getElem?_eq_some_iff.1 hv).1]; exact hv, hr⟩

theorem appendA_ok (hg : Good P T) (hi : In w X G μ N a σ) {r n : Nat} (hmv : Mv r) {t ty e : TypeId} {tt te : TI} (htt : T t = some tt) (hdd : tt.desc = .slice e) (hte : T e = some te) {els news : List (List D)} {u v : Value}
    (hH : σ.H r = some (.sl e te.size els)) (hle : n ≤ els.length) (hu : RV w X μ u (.own r 0 n)) (hn : News w X μ te.size v news) (hz : 0 < te.size) (hzs : (zeroD te.zero).length = te.size)
    (h63 : n + news.length ≤ maxLen) (hb : (n + news.length) * te.bytes ≤ 140737488355328) :
    Does Mv X G N w μ a ((Builtin.append_ #[t, t] ty #[u, v]).run P w) (.own r 0 (n + news.length)) ⟨killE r σ.env, hup (killH r σ.H) r (.sl e te.size (els.take n ++ news))⟩ := by
  obtain ⟨m, hm, hh⟩ := hu.own_inv
  obtain ⟨m', hm', ok⟩ := hi.sim.rows r _ hH
  rw [hm] at hm'
  obtain rfl := Option.some.inj hm'
  obtain ⟨hund, i0, hii, hs0, hb0, hz0⟩ := hg e te hte
  have ht := (hg t tt htt).1
  rw [hdd] at ht
  have hzc := zeroD_ok (w := w) (X := XX X μ) te.zero
  have hcs0 : te.zero.cells.size = te.size := by rw [hzc.1, hzs]
  have hlenEls : ∀ el ∈ els, el.length = te.size := by
    cases ok with
    | nil => simp
    | sl _ _ _ _ _ _ hl => exact hl
  have hlenAll : ∀ el ∈ els.take n ++ news, el.length = te.size := by
    intro el hel
    rcases List.mem_append.1 hel with h | h
    · exact hlenEls el (List.mem_of_mem_take h)
    · exact hn.len el h
  by_cases hne : news = []
  · -- nothing is appended
    subst hne
    have hv : ∃ ad c, v = .slice ad 0 c := by
      rcases hn.at_ with ⟨_, ad, cap, rfl⟩ | ⟨ad, cap, nws, rfl, _⟩
      · exact ⟨_, _, rfl⟩
      · exact ⟨_, _, rfl⟩
    obtain ⟨ad, c, rfl⟩ := hv
    have hval : ∃ base c, u = .slice base n c ∧ n ≤ c := by
      rcases hh with ⟨_, rfl, _, rfl⟩ | ⟨b, _, rfl, hcap⟩
      · exact ⟨_, _, rfl, Nat.le_refl _⟩
      · exact ⟨_, _, rfl, by omega⟩
    obtain ⟨base, c', hue, hnc⟩ := hval
    have hrun := run_append_none (P := P) (w := w) (ty := ty) hg htt hdd hte base ad n c' c hnc
    rw [hue, hrun]
    obtain ⟨hin, hev⟩ := hi.move (Mv := Mv) (w' := w) (m' := m) hm hmv (Nat.le_refl _) rfl rfl rfl (fun _ _ _ => rfl) (fun b hb => .inr hb) (row := .sl e te.size (els.take n ++ [])) fun ev => by
      rw [List.append_nil]
      cases ok with
      | nil hb1 hs1 => rw [List.take_nil]; exact .nil hb1 hs1
      | sl g1 g2 g3 g4 g5 g6 g7 g8 g9 =>
        refine .sl g1 g2 g3 g4 (by simp; omega) g6 (fun el hel => g7 el (List.mem_of_mem_take hel)) g8 fun i j el c hel hc => ?_
        rw [List.getElem?_take] at hel
        split at hel
        · obtain ⟨v, hv, hrd⟩ := g9 i j el c hel hc
          exact ⟨v, hv, hrd.ev ev⟩
        · cases hel
    refine ⟨_, _, _, rfl, hin, .own (m := m) (by simp [mup]) ?_, hev⟩
    rw [← hue]
    exact hh
  · have hnpos : 0 < news.length := List.length_pos_iff.2 hne
    rcases hn.at_ with ⟨h, _⟩ | ⟨ad, cap, nws, rfl, hnl, hncell, hn1, hnr⟩
    · exact absurd h hne
    have hsmall : n + news.length ≤ 9223372036854775807 := by simp only [maxLen] at h63; omega
    -- the row in a new block
    have moved : ∀ (xs : List Value) (ncap : Nat), xs.length = n * te.size → Rel w X μ te.size xs (els.take n) → n + news.length ≤ ncap → ncap ≤ maxLen →
        Does Mv X G N w μ a (.ok (.slice (some ⟨w.heap.size, 0, none⟩) (n + news.length) ncap) (w.drew.alloc (.cells (xs.toArray ++ nws.toArray ++ Builtin.zeroCells te.zero.cells (ncap - (n + news.length))) e)))
          (.own r 0 (n + news.length)) ⟨killE r σ.env, hup (killH r σ.H) r (.sl e te.size (els.take n ++ news))⟩ := by
      intro xs ncap hxl hxr hc1 hc2
      have hgw : Grew w (w.drew.alloc (.cells (xs.toArray ++ nws.toArray ++ Builtin.zeroCells te.zero.cells (ncap - (n + news.length))) e)) := by
        have h1 := Grew.alloc w.drew (.cells (xs.toArray ++ nws.toArray ++ Builtin.zeroCells te.zero.cells (ncap - (n + news.length))) e)
        exact ⟨h1.size, h1.os, h1.tape, h1.output, h1.same⟩
      have hsz : (xs.toArray ++ nws.toArray ++ Builtin.zeroCells te.zero.cells (ncap - (n + news.length))).size = ncap * te.size := by
        simp only [Array.size_append, List.size_toArray, size_zeroCells, hcs0, hxl, hnl, ← Nat.add_mul]
        congr 1
        omega
      obtain ⟨hin, hev⟩ := hi.move (Mv := Mv) (w' := w.drew.alloc (.cells (xs.toArray ++ nws.toArray ++ Builtin.zeroCells te.zero.cells (ncap - (n + news.length))) e)) (m' := ⟨some w.heap.size, te.size, ncap⟩) hm hmv hgw.size hgw.os hgw.tape hgw.output
        (fun k hk _ => hgw.same k hk) (fun b hb => by simp at hb; omega) (row := .sl e te.size (els.take n ++ news)) fun ev => by
          refine .sl rfl rfl (by simpa using heap_alloc_new w.drew (.cells (xs.toArray ++ nws.toArray ++ Builtin.zeroCells te.zero.cells (ncap - (n + news.length))) e)) hsz (by simp; omega) hc2 hlenAll hz fun i j el c hi hj => ?_
          have hrel := ((hxr.append (by rw [hxl, List.length_take, Nat.min_eq_left hle]) (fun el hel => hlenEls el (List.mem_of_mem_take hel)) hnr).more (l' := (Builtin.zeroCells te.zero.cells (ncap - (n + news.length))).toList)) i j el c hi hj
          obtain ⟨v, hv, hrd⟩ := hrel
          refine ⟨v, ?_, hrd.ev ev⟩
          rw [← Array.getElem?_toList]
          simpa using hv
      exact ⟨_, _, _, rfl, hin, .own (m := ⟨some w.heap.size, te.size, ncap⟩) (by simp [mup]) (.inr ⟨w.heap.size, rfl, by simp, by simpa using hc1⟩), hev⟩
    rcases hh with ⟨hbk, rfl, _, rfl⟩ | ⟨b, hbk, rfl, hcap⟩
    · have hr := run_append_nil (P := P) w t ty e i0 te.zero ht hii hz0 ad news.length cap nws (by rw [hnl, hs0]) hncell hnpos (by omega) (by rw [hb0]; simp only [Nat.zero_add] at hb; omega)
      rw [hr]
      have := moved [] (grownCap w news.length 0 e) (by simp) (by intro i j el c hi; simp at hi) (by have := grownCap_ge w news.length 0 e; omega) (grownCap_le_maxLen w news.length 0 e (by unfold maxLen; omega))
      simpa using this
    · cases ok with
      | nil hb' _ => rw [hb'] at hbk; cases hbk
      | sl hb' hsz hhp hcs hn' hmx hl hz' hr =>
        rename_i b' cur
        rw [hbk] at hb'
        obtain rfl := Option.some.inj hb'
        have hcap' : n ≤ m.cap := by omega
        have hmul : n * te.size ≤ m.cap * te.size := Nat.mul_le_mul_right _ hcap'
        have hxl : (cur.toList.take (n * te.size)).length = n * te.size := by rw [List.length_take, Array.length_toList, hcs, Nat.min_eq_left hmul]
        have hxr : Rel w X μ te.size (cur.toList.take (n * te.size)) (els.take n) := by
          intro i j el c hel hc
          rw [List.getElem?_take] at hel
          split at hel
          · rename_i hin
            obtain ⟨v, hv, hrd⟩ := hr i j el c hel hc
            have hel' : el.length = te.size := hl _ (List.mem_of_getElem? hel)
            have hj : j < te.size := by rw [← hel']; exact (List.getElem?_eq_some_iff.1 hc).1
            refine ⟨v, ?_, hrd⟩
            rw [List.getElem?_take, if_pos]
            · simpa using hv
            · have : (i + 1) * te.size ≤ n * te.size := Nat.mul_le_mul_right _ hin
              rw [Nat.add_mul] at this
              omega
          · cases hel
        by_cases hroom : n + news.length ≤ m.cap
        · have hfit : n * te.size + nws.length ≤ cur.size := by rw [hnl, hcs, ← Nat.add_mul]; exact Nat.mul_le_mul_right _ hroom
          have hrun := run_append_room (P := P) w t ty e i0 ht hii b n m.cap cur hhp ad news.length cap nws (by rw [hnl, hs0]) hncell hn1 hroom (by rw [hs0]; exact hfit)
          simp only [Nat.zero_mul, Nat.sub_zero]
          rw [hrun, hs0]
          obtain ⟨hin, hev⟩ := hi.move (Mv := Mv) (w' := w.setRow b (cur.toList.take (n * te.size) ++ nws ++ cur.toList.drop (n * te.size + nws.length)).toArray) (m' := m) hm hmv (by simp) rfl rfl rfl
            (fun k hk hne' => setRow_other w b k _ fun e' => hne' (by rw [hbk, e'])) (fun b hb => .inr hb) (row := .sl e te.size (els.take n ++ news)) fun ev => by
              refine .sl hbk hsz (setRow_heap w b cur _ e _ hhp) ?_ (by simp; omega) hmx hlenAll hz fun i j el c hi hj => ?_
              · simp only [List.size_toArray, List.length_append, List.length_take, List.length_drop, Array.length_toList]
                omega
              · obtain ⟨v, hv, hrd⟩ := ((hxr.append (by rw [hxl, List.length_take, Nat.min_eq_left hle]) (fun el hel => hlenEls el (List.mem_of_mem_take hel)) hnr).more (l' := cur.toList.drop (n * te.size + nws.length))) i j el c hi hj
                exact ⟨v, by rw [← Array.getElem?_toList]; simpa using hv, hrd.ev ev⟩
          refine ⟨_, _, _, rfl, hin, .own (m := m) (by simp [mup]) (.inr ⟨b, hbk, by simp, by simpa using hroom⟩), hev⟩
        · have hrun := run_append_grow (P := P) w t ty e i0 te.zero ht hii hz0 ⟨b, 0, none⟩ n m.cap (cur.toList.take (n * te.size)) (by rw [hxl, hs0]) (fun j v hv => by
            rw [addr_add, cell_of_row w b _ cur e (0, 0) hhp]
            rw [List.getElem?_take] at hv
            split at hv
            · simpa using hv
            · cases hv) ad news.length cap nws (by rw [hnl, hs0]) hncell (by omega) (by omega) (by rw [hb0]; exact growslice_fits (by omega) hb)
          simp only [Nat.zero_mul, Nat.sub_zero]
          rw [hrun]
          exact moved _ _ hxl hxr (grownCap_ge _ _ _ _) (grownCap_le_maxLen w _ _ e h63)
end
end Go.Av
