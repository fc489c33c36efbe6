/-
  Steps of ghosts: what is owned becomes data, is forgotten, or is taken up.
-/
import Derived.Test.YtoikggboakojlaaDoorAv13
namespace Go.Av

def mkTup (l : List AV) : AV := match allD l with
  | some ds => .d (.tup ds)
  | none => .tup l

/-- Handles are put anew. -/
def AV.tr (o f : Nat → Nat → Nat → AV) : AV → AV
  | .d x => .d x
  | .own q off n => o q off n
  | .ref q e j => f q e j
  | .agg cells => mkAgg (go o f cells)
  | .tup vs => mkTup (go o f vs)
  | .ifc t x => mkIfc t (x.tr o f)
  | .fn g caps => mkFn g (go o f caps)
  | .dead => .dead
where
  go (o f : Nat → Nat → Nat → AV) : List AV → List AV
  | [] => []
  | x :: l => x.tr o f :: go o f l

theorem AV.trGo_eq (o f : Nat → Nat → Nat → AV) (l : List AV) : AV.tr.go o f l = l.map (AV.tr o f) := by
  induction l with
  | nil => rfl
  | cons x l ih => simp [AV.tr.go, ih]

def Row.tr (o f : Nat → Nat → Nat → AV) : Row → Row
  | .sl ty sz els => .sl ty sz els
  | .box ty cells => .box ty (cells.map (AV.tr o f))

def trE (o f : Nat → Nat → Nat → AV) (e : Env) : Env := fun i => (e i).map (AV.tr o f)
def trH (keep : Nat → Bool) (o f : Nat → Nat → Nat → AV) (H : Heap) : Heap := fun r => if keep r then (H r).map (Row.tr o f) else none
def mfilt (keep : Nat → Bool) (μ : Mu) : Mu := fun r => if keep r then μ r else none

section
variable {P : Program} {T : Ty} {Mv X : Nat → Prop} {G : Glob} {N : Nat} {w : World} {μ : Mu} {a : Act} {σ : St}

theorem mkTup_ok {u : Value} {l : List AV} (h : RV w X μ u (.tup l)) : RV w X μ u (mkTup l) := by
  unfold mkTup
  split
  · rename_i ds hd
    rw [allD_eq hd] at h
    obtain ⟨arr, rfl, hn, hr⟩ := h.tup_inv
    refine .d (.tup (by simpa using hn) fun j u c hu hc => ?_)
    exact (hr j u (.d c) hu (by rw [List.getElem?_map, hc]; rfl)).data
  · exact h

theorem mfilt_some {keep : Nat → Bool} {r : Nat} {m : MRow} (h : mfilt keep μ r = some m) : keep r = true ∧ μ r = some m := by
  unfold mfilt at h
  split at h
  · rename_i hk; exact ⟨hk, h⟩
  · cases h

theorem XX_mfilt {keep : Nat → Bool} {b : Nat} (h : XX X (mfilt keep μ) b) : XX X μ b := h.elim .inl fun ⟨r, m, hr, hb⟩ => .inr ⟨r, m, (mfilt_some hr).2, hb⟩

theorem RV.tr {μ' : Mu} {o f : Nat → Nat → Nat → AV} (hX : ∀ b, XX X μ' b → XX X μ b) (ho : ∀ u r off n, RV w X μ u (.own r off n) → RV w X μ' u (o r off n)) (hf : ∀ u r e j, RV w X μ u (.ref r e j) → RV w X μ' u (f r e j)) :
    ∀ {v : Value} {x : AV}, RV w X μ v x → RV w X μ' v (x.tr o f) := by
  intro v x hr
  induction hr with
  | d h' => exact .d (h'.mono (Nat.le_refl _) fun b _ hb => ⟨rfl, fun e => hb (hX b e)⟩)
  | own hm h' => exact ho _ _ _ _ (.own hm h')
  | ref hm hb => exact hf _ _ _ _ (.ref hm hb)
  | agg hn _ ih =>
    rw [AV.tr, AV.trGo_eq]
    refine mkAgg_ok (.agg (by simpa using hn) fun j u c hu hc => ?_)
    rw [List.getElem?_map] at hc
    obtain ⟨c', hc', rfl⟩ := Option.map_eq_some_iff.1 hc
    exact ih j u c' hu hc'
  | tup hn _ ih =>
    rw [AV.tr, AV.trGo_eq]
    refine mkTup_ok (.tup (by simpa using hn) fun j u c hu hc => ?_)
    rw [List.getElem?_map] at hc
    obtain ⟨c', hc', rfl⟩ := Option.map_eq_some_iff.1 hc
    exact ih j u c' hu hc'
  | ifc _ ih => exact mkIfc_ok ih
  | fn hn _ ih =>
    rw [AV.tr, AV.trGo_eq]
    refine mkFn_ok (by simpa using hn) fun j u c hu hc => ?_
    rw [List.getElem?_map] at hc
    obtain ⟨c', hc', rfl⟩ := Option.map_eq_some_iff.1 hc
    exact ih j u c' hu hc'
  | dead u => exact .dead u

theorem ev_mfilt {keep : Nat → Bool} (hk : ∀ r m, μ r = some m → keep r = false → Mv r) : Ev Mv w μ w (mfilt keep μ) := by
  refine ⟨Nat.le_refl _, rfl, rfl, rfl, fun b hb hr => ⟨rfl, ?_⟩, fun q mq hq hn => ?_⟩
  · rintro ⟨q, mq, hq, hbq⟩
    exact hr ⟨q, mq, (mfilt_some hq).2, hbq⟩
  · unfold mfilt
    cases h : keep q with
    | true => simpa using hq
    | false => exact absurd (hk q mq hq h) hn

theorem In.tr {keep : Nat → Bool} {o f : Nat → Nat → Nat → AV} (hi : In w X G μ N a σ) (ho : ∀ u r off n, RV w X μ u (.own r off n) → RV w X (mfilt keep μ) u (o r off n)) (hf : ∀ u r e j, RV w X μ u (.ref r e j) → RV w X (mfilt keep μ) u (f r e j)) :
    In w X G (mfilt keep μ) N a ⟨trE o f σ.env, trH keep o f σ.H⟩ := by
  have hX : ∀ b, XX X (mfilt keep μ) b → XX X μ b := fun b => XX_mfilt
  have hRD : ∀ {u : Value} {x : D}, RD w (XX X μ) u x → RD w (XX X (mfilt keep μ)) u x := fun h => h.mono (Nat.le_refl _) fun b _ hb => ⟨rfl, fun e => hb (hX b e)⟩
  have hRV : ∀ {u : Value} {x : AV}, RV w X μ u x → RV w X (mfilt keep μ) u (x.tr o f) := fun h => RV.tr hX ho hf h
  refine ⟨⟨fun r row hr => ?_, fun r m hr => ?_, fun q q' m1 m2 b h1 h2 hb1 hb2 => hi.sim.inj q q' m1 m2 b (mfilt_some h1).2 (mfilt_some h2).2 hb1 hb2, fun q mq b hq hb => hi.sim.frame q mq b (mfilt_some hq).2 hb, hi.sim.fits⟩,
    ⟨hi.env.defers, hi.env.size, fun i x hx => ?_⟩, fun g x hx => hRD (hi.glob g x hx)⟩
  · replace hr : trH keep o f σ.H r = some row := hr
    unfold trH at hr
    split at hr
    · rename_i hk
      obtain ⟨row0, h0, rfl⟩ := Option.map_eq_some_iff.1 hr
      obtain ⟨m, hm, ok⟩ := hi.sim.rows r row0 h0
      refine ⟨m, by simp [mfilt, hk, hm], ?_⟩
      cases ok with
      | nil h1 h2 => exact .nil h1 h2
      | sl h1 h2 h3 h4 h5 h6 h7 h8 h9 => exact .sl h1 h2 h3 h4 h5 h6 h7 h8 fun i j el c he hc => let ⟨u, hu, hr⟩ := h9 i j el c he hc; ⟨u, hu, hRD hr⟩
      | box h1 h2 h3 h4 h5 h6 =>
        refine .box h1 (by simpa using h2) h3 h4 (by simpa using h5) fun j u c hu hc => ?_
        rw [List.getElem?_map] at hc
        obtain ⟨c', hc', rfl⟩ := Option.map_eq_some_iff.1 hc
        exact hRV (h6 j u c' hu hc')
    · cases hr
  · obtain ⟨hk, hm⟩ := mfilt_some hr
    obtain ⟨row, hrow⟩ := hi.sim.dom r m hm
    exact ⟨row.tr o f, by simp [trH, hk, hrow]⟩
  · replace hx : trE o f σ.env i = some x := hx
    unfold trE at hx
    obtain ⟨x0, h0, rfl⟩ := Option.map_eq_some_iff.1 hx
    obtain ⟨u, hu, hr⟩ := hi.env.slot i x0 h0
    exact ⟨u, hu, hRV hr⟩

theorem RV.own_mfilt {keep : Nat → Bool} {u : Value} {r off n : Nat} (hk : keep r = true) (h : RV w X μ u (.own r off n)) : RV w X (mfilt keep μ) u (.own r off n) := by
  obtain ⟨m, hm, hh⟩ := h.own_inv
  exact .own (by simp [mfilt, hk, hm]) hh
theorem RV.ref_mfilt {keep : Nat → Bool} {u : Value} {r e j : Nat} (hk : keep r = true) (h : RV w X μ u (.ref r e j)) : RV w X (mfilt keep μ) u (.ref r e j) := by
  obtain ⟨m, b, hm, hb, rfl⟩ := h.ref_inv
  exact .ref (by simp [mfilt, hk, hm]) hb

/-! ### What is not wanted is forgotten -/

def onlyO (ns : List Nat) (q off n : Nat) : AV := if ns.contains q then .own q off n else .dead
def onlyF (ns : List Nat) (q e j : Nat) : AV := if ns.contains q then .ref q e j else .dead
def liveR : List Nat → Heap → List (Nat × Row)
  | [], _ => []
  | r :: l, H => match H r with
    | some row => (r, row) :: liveR l H
    | none => liveR l H

theorem Imp.only (ns : List Nat) (hm : ∀ r, Mv r) : Imp Mv X G N σ ⟨trE (onlyO ns) (onlyF ns) σ.env, trH ns.contains (onlyO ns) (onlyF ns) σ.H⟩ := fun w μ a hi => by
  refine ⟨mfilt ns.contains μ, hi.tr (fun u r off n h => ?_) (fun u r e j h => ?_), ev_mfilt fun r _ _ _ => hm r⟩
  · unfold onlyO
    split
    · rename_i hk; exact h.own_mfilt hk
    · exact .dead u
  · unfold onlyF
    split
    · rename_i hk; exact h.ref_mfilt hk
    · exact .dead u

theorem hlst_live {H : Heap} : ∀ {l : List Nat} {r : Nat}, hlst (liveR l H) r = if l.contains r then H r else none
  | [], r => by simp [hlst, liveR]
  | q :: l, r => by
    have ih := hlst_live (H := H) (l := l) (r := r)
    simp only [liveR]
    split
    · rename_i row hrow
      simp only [hlst, List.lookup, List.contains_cons]
      split
      · rename_i hrq
        have : r = q := by simpa using hrq
        subst this
        simp [hrow]
      · rename_i hrq
        rw [hrq, Bool.false_or]
        exact ih
    · rename_i hrow
      rw [ih, List.contains_cons]
      by_cases hrq : r = q
      · subst hrq
        simp [hrow]
      · simp [hrq]

/-- A state with what is wanted, written out. -/
def St.norm (l ns : List Nat) (σ : St) : St := ⟨lst (liveL l (trE (onlyO ns) (onlyF ns) σ.env)), hlst (liveR ns (trH ns.contains (onlyO ns) (onlyF ns) σ.H))⟩

theorem hlst_trH {ns : List Nat} {o f : Nat → Nat → Nat → AV} {H : Heap} : hlst (liveR ns (trH ns.contains o f H)) = trH ns.contains o f H := by
  funext r
  rw [hlst_live]
  unfold trH
  split <;> simp_all

theorem Imp.norm (l ns : List Nat) (hm : ∀ r, Mv r) : Imp Mv X G N σ (σ.norm l ns) := by
  refine (Imp.only ns hm).trans ?_
  unfold St.norm
  rw [hlst_trH]
  exact Imp.env fun _ _ => lst_live

/-- The state that is wanted is the one that is there, and what is too much is forgotten. -/
theorem Imp.to {e : Env} {H : Heap} {l : List (Nat × AV)} {rows : List (Nat × Row)} (hm : ∀ r, Mv r) (he : ∀ p ∈ l, (e p.1).map (AV.tr (onlyO (rows.map (·.1))) (onlyF (rows.map (·.1)))) = some p.2)
    (hH : ∀ r, hlst rows r = trH (rows.map (·.1)).contains (onlyO (rows.map (·.1))) (onlyF (rows.map (·.1))) H r) : Imp Mv X G N ⟨e, H⟩ ⟨Go.Av.lst l, hlst rows⟩ := by
  refine (Imp.only (rows.map (·.1)) hm).trans ?_
  have : hlst rows = trH (rows.map (·.1)).contains (onlyO (rows.map (·.1))) (onlyF (rows.map (·.1))) H := funext hH
  rw [this]
  exact Imp.env fun i x hx => he (i, x) (lst_mem hx)

theorem rowsEq {rows : List (Nat × Row)} {H : Heap} {o f : Nat → Nat → Nat → AV} (h : ∀ p ∈ rows, (H p.1).map (Row.tr o f) = hlst rows p.1) : ∀ r, hlst rows r = trH (rows.map (·.1)).contains o f H r := by
  intro r
  unfold trH
  split
  · rename_i hk
    obtain ⟨p, hp, rfl⟩ := List.mem_map.1 (List.contains_iff_mem.1 hk)
    exact (h p hp).symm
  · rename_i hk
    have : ∀ l : List (Nat × Row), ¬ (l.map (·.1)).contains r = true → hlst l r = none := by
      intro l
      induction l with
      | nil => intro _; rfl
      | cons q l ih =>
        intro hc
        simp only [List.map_cons, List.contains_cons, Bool.or_eq_true, not_or] at hc
        simp only [hlst, List.lookup]
        split
        · rename_i h1; exact absurd h1 hc.1
        · exact ih hc.2
    exact this rows hk

theorem Imp.to' {e : Env} {H : Heap} {l : List (Nat × AV)} {rows : List (Nat × Row)} (hm : ∀ r, Mv r) (he : ∀ p ∈ l, (e p.1).map (AV.tr (onlyO (rows.map (·.1))) (onlyF (rows.map (·.1)))) = some p.2)
    (hH : ∀ p ∈ rows, (H p.1).map (Row.tr (onlyO (rows.map (·.1))) (onlyF (rows.map (·.1)))) = hlst rows p.1) : Imp Mv X G N ⟨e, H⟩ ⟨Go.Av.lst l, hlst rows⟩ := Imp.to hm he (rowsEq hH)

/-! ### What is owned becomes data -/

def frzO (r : Nat) (els : List (List D)) (q off n : Nat) : AV := if q = r then (if off = 0 ∧ n = els.length then .d (.sl none els) else if off + n ≤ els.length then .d (.sl none ((els.drop off).take n)) else .dead) else .own q off n
def frzF (r : Nat) (q e j : Nat) : AV := if q = r then .dead else .ref q e j
def not1 (r : Nat) (q : Nat) : Bool := !(q == r)

/-- Row r becomes data. -/
def St.freeze (r : Nat) (σ : St) : St := match σ.H r with
  | some (.sl _ _ els) => ⟨trE (frzO r els) (frzF r) σ.env, trH (not1 r) (frzO r els) (frzF r) σ.H⟩
  | _ => σ

theorem Imp.freeze (r : Nat) (hm : ∀ r, Mv r) : Imp Mv X G N σ (σ.freeze r) := fun w μ a hi => by
  unfold St.freeze
  split
  · rename_i ty sz els hr
    have hmu : (fun q => if q = r then none else μ q) = mfilt (not1 r) μ := by
      funext q
      unfold mfilt not1
      by_cases h : q = r <;> simp [h]
    refine ⟨mfilt (not1 r) μ, hi.tr (fun u q off n h => ?_) (fun u q e j h => ?_), ev_mfilt fun r _ _ _ => hm r⟩
    · unfold frzO
      split
      · rename_i hq
        subst hq
        have hd : ∀ {off n : Nat}, RV w X μ u (.own q off n) → off + n ≤ els.length → RV w X (mfilt (not1 q) μ) u (.d (.sl none ((els.drop off).take n))) := fun h hle => by
          obtain ⟨k, hk, _⟩ := own_reads hi.sim hr hle h
          rw [hmu] at hk
          exact .d hk.weak
        split
        · rename_i h2
          obtain ⟨rfl, rfl⟩ := h2
          have := hd h (by omega)
          simpa using this
        · split
          · rename_i hle; exact hd h hle
          · exact .dead u
      · rename_i hq; exact h.own_mfilt (by simp [not1, hq])
    · unfold frzF
      split
      · exact .dead u
      · rename_i hq; exact h.ref_mfilt (by simp [not1, hq])
  · exact ⟨μ, hi, .refl _ w μ⟩

/-! ### What is nil is owned -/

/-- A nil slice in slot i becomes a row of its own. -/
theorem Imp.adopt (i r ty sz : Nat) {e : Env} {H : Heap} (hr : H r = none) (he : e i = some (.d (.sl (some false) []))) : Imp Mv X G N ⟨e, H⟩ ⟨upd e i (.own r 0 0), hup H r (.sl ty sz [])⟩ := fun w μ a hi => by
  obtain ⟨hin, ev⟩ := hi.alloc (Mv := Mv) (w' := w) (m := ⟨none, sz, 0⟩) hr (Grew.refl w) (by simp) (row := .sl ty sz []) fun _ => .nil rfl rfl
  refine ⟨mup μ r ⟨none, sz, 0⟩, ⟨hin.sim, ⟨hin.env.defers, hin.env.size, fun j x hx => ?_⟩, hin.glob⟩, ev⟩
  simp only [upd] at hx
  split at hx
  · rename_i hj
    subst hj
    obtain rfl := Option.some.inj hx
    obtain ⟨u, hu, hrv⟩ := hi.env.slot j _ he
    refine ⟨u, hu, .own (m := ⟨none, sz, 0⟩) (by simp [mup]) (.inl ⟨rfl, ?_, rfl, rfl⟩)⟩
    rcases hrv.data.sl_inv with ⟨rfl, _⟩ | ⟨_, _, _, hk, _⟩
    · rfl
    · exact absurd rfl hk
  · exact hin.env.slot j x hx
end
end Go.Av
