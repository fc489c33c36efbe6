/-
  The rest of the operations that only yield a value, and all of them in one function, 'rd'.
-/
import Derived.Test.YtoikggboakojlaaDoorAv4
namespace Go.Av

def lenA (T : Ty) (t : TypeId) : AV → Ans
  | .d (.v (.string s)) => if descIs T t TypeDesc.isStr then some (True, int s.size) else none
  | .d (.sl _ els) => if descIs T t TypeDesc.isSlice then some (True, int els.length) else none
  | .own _ _ n => if descIs T t TypeDesc.isSlice then some (True, int n) else none
  | _ => none

theorem isSlice_eq {d : TypeDesc} (h : TypeDesc.isSlice d = true) : ∃ e, d = .slice e := by cases d <;> simp [TypeDesc.isSlice] at h; exact ⟨_, rfl⟩
theorem isStr_eq {d : TypeDesc} (h : TypeDesc.isStr d = true) : d = .string := by cases d <;> simp [TypeDesc.isStr] at h; rfl

section
variable {P : Program} {T : Ty} (hg : Good P T) {w : World} {X : Nat → Prop} {μ : Mu} {H : Heap}
include hg

theorem lenA_ok {t ty : TypeId} {u : Value} {x z : AV} {c : Prop} (h : lenA T t x = some (c, z)) (hx : RV w X μ u x) : ∃ r, (Builtin.len_ #[t] ty #[u]).run P w = .ok r w ∧ RV w X μ r z := by
  unfold lenA at h
  split at h
  · split at h
    · rename_i hd
      obtain ⟨ti, ht, hp⟩ := descIs_some hd
      simp only [Option.some.injEq, Prod.mk.injEq] at h
      obtain ⟨rfl, rfl⟩ := h
      obtain rfl := hx.scalar
      exact ⟨_, by simp [Builtin.len_, hg.und ht, isStr_eq hp, goInt], .d (.v _)⟩
    · cases h
  · split at h
    · rename_i hd
      obtain ⟨ti, ht, hp⟩ := descIs_some hd
      obtain ⟨e, he⟩ := isSlice_eq hp
      simp only [Option.some.injEq, Prod.mk.injEq] at h
      obtain ⟨rfl, rfl⟩ := h
      rcases hx.data.sl_inv with ⟨rfl, rfl, _⟩ | ⟨a, cap, rfl, _⟩
      · exact ⟨_, by simp [Builtin.len_, hg.und ht, he, goInt], .d (.v _)⟩
      · exact ⟨_, by simp [Builtin.len_, hg.und ht, he, goInt], .d (.v _)⟩
    · cases h
  · split at h
    · rename_i hd
      obtain ⟨ti, ht, hp⟩ := descIs_some hd
      obtain ⟨e, he⟩ := isSlice_eq hp
      simp only [Option.some.injEq, Prod.mk.injEq] at h
      obtain ⟨rfl, rfl⟩ := h
      obtain ⟨m, _, hh⟩ := hx.own_inv
      rcases hh with ⟨_, rfl, _, rfl⟩ | ⟨b, _, rfl, _⟩
      · exact ⟨_, by simp [Builtin.len_, hg.und ht, he, goInt], .d (.v _)⟩
      · exact ⟨_, by simp [Builtin.len_, hg.und ht, he, goInt], .d (.v _)⟩
    · cases h
  · cases h

/-- A byte of a string. -/
def indexStrA (T : Ty) (t : TypeId) : AV → AV → Ans
  | .d (.v (.string s)), .d (.v (.int _ i)) => if descIs T t TypeDesc.isStr then some (0 ≤ i ∧ i < s.size, .d (.v (.int .u8 (s.data.toList.getD i.toNat 0).toNat))) else none
  | _, _ => none

omit hg in
theorem ba_get (s : ByteArray) (n : Nat) (h : n < s.size) : s[n]? = some (s.data.toList.getD n 0) := by
  have : s[n]? = some s[n] := by simp [h]
  rw [this]
  have h2 : n < s.data.toList.length := by simpa using h
  simp [List.getD_eq_getElem?_getD, List.getElem?_eq_getElem h2]
  rfl

theorem indexStrA_ok {t : TypeId} {u v : Value} {x y z : AV} {c : Prop} (h : indexStrA T t x y = some (c, z)) (hc : c) (hx : RV w X μ u x) (hy : RV w X μ v y) : ∃ r, (Instr.index t u v).run P w = .ok r w ∧ RV w X μ r z := by
  unfold indexStrA at h
  split at h
  · split at h
    · rename_i s kk i hd
      obtain ⟨ti, ht, hp⟩ := descIs_some hd
      simp only [Option.some.injEq, Prod.mk.injEq] at h
      obtain ⟨rfl, rfl⟩ := h
      obtain rfl := hx.scalar
      obtain rfl := hy.scalar
      obtain ⟨h0, h1⟩ := hc
      obtain ⟨n, rfl⟩ := Int.eq_ofNat_of_zero_le h0
      simp only [Int.toNat_natCast]
      have hn : n < s.size := by omega
      exact ⟨_, by simp [Instr.index, asIntOf, hg.und ht, isStr_eq hp, ba_get s n hn], .d (.v _)⟩
    · cases h
  · cases h

def mkIfc (t : TypeId) : AV → AV
  | .d x => .d (.ifc t x)
  | x => .ifc t x

omit hg in
theorem mkIfc_ok {u : Value} {x : AV} {t : TypeId} (hx : RV w X μ u x) : RV w X μ (.iface t u) (mkIfc t x) := by
  unfold mkIfc
  split
  · exact .d (.ifc hx.data)
  · exact .ifc hx

def makeIfaceA (T : Ty) (t : TypeId) (x : AV) : Ans := match T t with
  | some ti => if TypeDesc.isIface ti.desc then none else some (True, mkIfc t x)
  | none => none

theorem makeIfaceA_ok {t : TypeId} {u : Value} {x z : AV} {c : Prop} (h : makeIfaceA T t x = some (c, z)) (hx : RV w X μ u x) : ∃ r, (Instr.makeInterface t u).run P w = .ok r w ∧ RV w X μ r z := by
  unfold makeIfaceA at h
  split at h
  · rename_i ti ht
    split at h
    · cases h
    · rename_i hd
      simp only [Option.some.injEq, Prod.mk.injEq] at h
      obtain ⟨rfl, rfl⟩ := h
      refine ⟨_, ?_, mkIfc_ok hx⟩
      simp only [Instr.makeInterface, Sem.run_bind, hg.und ht, Result.andThen_ok]
      cases hdd : ti.desc <;> simp [hdd, TypeDesc.isIface] at hd ⊢
  · cases h

def extractA (i : Nat) : AV → Ans
  | .d (.tup vs) => vs[i]?.map fun x => (True, .d x)
  | .tup vs => vs[i]?.map fun x => (True, x)
  | _ => none

omit hg in
theorem extractA_ok {i : Nat} {u : Value} {x z : AV} {c : Prop} (h : extractA i x = some (c, z)) (hx : RV w X μ u x) : ∃ r, (Instr.extract u i).run P w = .ok r w ∧ RV w X μ r z := by
  unfold extractA at h
  split at h
  · obtain ⟨y, hy, he⟩ := Option.map_eq_some_iff.1 h
    simp only [Prod.mk.injEq] at he
    obtain ⟨rfl, rfl⟩ := he
    obtain ⟨arr, rfl, hn, hr⟩ := hx.data.tup_inv
    have hlt := (List.getElem?_eq_some_iff.1 hy).1
    have : arr[i]? = some arr[i] := by simp
    exact ⟨arr[i], by simp [Instr.extract, this], .d (hr i _ y this hy)⟩
  · obtain ⟨y, hy, he⟩ := Option.map_eq_some_iff.1 h
    simp only [Prod.mk.injEq] at he
    obtain ⟨rfl, rfl⟩ := he
    obtain ⟨arr, rfl, hn, hr⟩ := hx.tup_inv
    have hlt := (List.getElem?_eq_some_iff.1 hy).1
    have : arr[i]? = some arr[i] := by simp
    exact ⟨arr[i], by simp [Instr.extract, this], hr i _ y this hy⟩
  · cases h

def mkFn (f : Fn) (caps : List AV) : AV := match allD caps with
  | some ds => .d (.fn f ds)
  | none => .fn f caps

omit hg in
theorem mkFn_ok {f : Fn} {arr : Array Value} {caps : List AV} (hn : arr.size = caps.length) (hr : ∀ (j : Nat) (u : Value) (c : AV), arr[j]? = some u → caps[j]? = some c → RV w X μ u c) : RV w X μ (.func f #[] arr) (mkFn f caps) := by
  unfold mkFn
  split
  · rename_i ds hd
    rw [allD_eq hd] at hn hr
    exact .d (.fn (by simpa using hn) fun j u c hu hc => (hr j u (.d c) hu (by rw [List.getElem?_map, hc]; rfl)).data)
  · exact .fn hn hr

def unA (op : UnOp) : AV → Ans
  | .d (.v (.bool b)) => match op with | .not => some (True, bool !b) | _ => none
  | .d (.v (.int k n)) => match op with | .neg => (fit64 k (0 - n)).map fun (c, v) => (c, .d (.v v)) | _ => none
  | _ => none

omit hg in
theorem unA_ok {op : UnOp} {u : Value} {x z : AV} {c : Prop} (h : unA op x = some (c, z)) (hc : c) (hx : RV w X μ u x) : ∃ r, (Op.unary op u).run P w = .ok r w ∧ RV w X μ r z := by
  unfold unA at h
  split at h
  · split at h
    · simp only [Option.some.injEq, Prod.mk.injEq] at h
      obtain ⟨rfl, rfl⟩ := h
      obtain rfl := hx.scalar
      exact ⟨_, by simp [Op.unary], .d (.v _)⟩
    · cases h
  · split at h
    · obtain ⟨⟨c', v⟩, hf, he⟩ := Option.map_eq_some_iff.1 h
      simp only [Prod.mk.injEq] at he
      obtain ⟨rfl, rfl⟩ := he
      obtain rfl := hx.scalar
      have := fit64_ok hf hc
      subst this
      exact ⟨_, by simp [Op.unary, Op.intArith], .d (.v _)⟩
    · cases h
  · cases h

def convA (T : Ty) (dst : TypeId) : AV → Ans
  | .d (.v (.int _ n)) => match T dst with
    | some ti => match ti.desc with
      | .int k => (fit64 k n).map fun (c, v) => (c, .d (.v v))
      | _ => none
    | none => none
  | .d (.v (.string s)) => if descIs T dst TypeDesc.isStr then some (True, .d (.v (.string s))) else none
  | _ => none

theorem convA_ok {src dst : TypeId} (hsrc : (T src).isSome) {u : Value} {x z : AV} {c : Prop} (h : convA T dst x = some (c, z)) (hc : c) (hx : RV w X μ u x) : ∃ r, (convert src dst u).run P w = .ok r w ∧ RV w X μ r z := by
  obtain ⟨tis, hts⟩ := Option.isSome_iff_exists.1 hsrc
  unfold convA at h
  split at h
  · split at h
    · rename_i ti ht
      split at h
      · rename_i k hd
        obtain ⟨⟨c', v⟩, hf, he⟩ := Option.map_eq_some_iff.1 h
        simp only [Prod.mk.injEq] at he
        obtain ⟨rfl, rfl⟩ := he
        obtain rfl := hx.scalar
        have := fit64_ok hf hc
        subst this
        exact ⟨_, by simp [convert, hg.und hts, hg.und ht, hd, Conv.intToInt], .d (.v _)⟩
      · cases h
    · cases h
  · split at h
    · rename_i hd
      obtain ⟨ti, ht, hp⟩ := descIs_some hd
      simp only [Option.some.injEq, Prod.mk.injEq] at h
      obtain ⟨rfl, rfl⟩ := h
      obtain rfl := hx.scalar
      exact ⟨_, by simp [convert, hg.und hts, hg.und ht, isStr_eq hp], .d (.v _)⟩
    · cases h
  · cases h

def nilCheckA : AV → Ans
  | .d (.ip c) => some (True, .d (.ip c))
  | .ref r e j => some (True, .ref r e j)
  | _ => none

omit hg in
theorem nilCheckA_ok {u : Value} {x z : AV} {c : Prop} (h : nilCheckA x = some (c, z)) (hx : RV w X μ u x) : (∃ a, u = .pointer (some a)) ∧ RV w X μ u z := by
  unfold nilCheckA at h
  split at h
  · simp only [Option.some.injEq, Prod.mk.injEq] at h
    obtain ⟨rfl, rfl⟩ := h
    obtain ⟨b, off, f, rfl, _⟩ := hx.data.ip_inv
    exact ⟨⟨_, rfl⟩, hx⟩
  · simp only [Option.some.injEq, Prod.mk.injEq] at h
    obtain ⟨rfl, rfl⟩ := h
    obtain ⟨m, b, _, _, rfl⟩ := hx.ref_inv
    exact ⟨⟨_, rfl⟩, hx⟩
  · cases h

/-- Bounds of a slice expression: nothing, or an int. -/
def bound (G : Glob) (e : Env) : Option Operand → Option (Option Int)
  | none => some none
  | some o => match aeval G e o with
    | some (.d (.v (.int _ i))) => some (some i)
    | _ => none

def sliceA (T : Ty) (H : Heap) (t : TypeId) (x : AV) (lo hi : Option Int) : Ans :=
  let l := lo.getD 0
  match x with
  | .d (.v (.string s)) => if descIs T t TypeDesc.isStr then
      let h := hi.getD s.size
      some (0 ≤ l ∧ l ≤ h ∧ h ≤ s.size, .d (.v (.string (s.extract l.toNat h.toNat)))) else none
  | .d (.sl k els) => match elemSz T t with
    | some s =>
      let h := hi.getD els.length
      some (0 ≤ l ∧ l ≤ h ∧ h ≤ els.length ∧ (l = 0 ∨ ∀ el ∈ els, el.length = s), .d (.sl k ((els.drop l.toNat).take (h - l).toNat)))
    | none => none
  | .own r off n => match elemSz T t, H r with
    | some s, some (.sl _ sz _) =>
      let h := hi.getD n
      some (0 ≤ l ∧ l ≤ h ∧ h ≤ n ∧ (l = 0 ∨ l < n) ∧ sz = s, .own r (off + l.toNat) (h - l).toNat)
    | _, _ => none
  | _ => none

omit hg in
theorem run_bounds {isS : Bool} {len cap : Nat} {lo hi : Option Value} {l h : Int} (hl : (lo = none ∧ l = 0) ∨ ∃ k, lo = some (.int k l)) (hh : (hi = none ∧ h = len) ∨ ∃ k, hi = some (.int k h)) (h0 : 0 ≤ l) (h1 : l ≤ h) (h2 : h ≤ cap) :
    (Instr.sliceBounds isS len cap lo hi none).run P w = .ok (l.toNat, h.toNat, cap) w := by
  have e1 : 0 ≤ h := by omega
  rcases hh with ⟨rfl, rfl⟩ | ⟨k, rfl⟩ <;> rcases hl with ⟨rfl, rfl⟩ | ⟨k', rfl⟩
  · simp [Instr.sliceBounds]
  · simp [Instr.sliceBounds, Instr.sliceBound, asIntOf, h0, h1]
  · simp [Instr.sliceBounds, Instr.sliceBound, asIntOf, e1, h2]
  · have e3 : l ≤ max h 0 := by omega
    simp [Instr.sliceBounds, Instr.sliceBound, asIntOf, e1, h2, h0, e3]

theorem sliceA_ok (hs : Sim w X μ H) {t : TypeId} {u : Value} {x z : AV} {c : Prop} {lo hi : Option Int} {vlo vhi : Option Value} (h : sliceA T H t x lo hi = some (c, z)) (hc : c) (hx : RV w X μ u x)
    (hlo : (vlo = none ∧ lo = none) ∨ ∃ k l, vlo = some (.int k l) ∧ lo = some l) (hhi : (vhi = none ∧ hi = none) ∨ ∃ k l, vhi = some (.int k l) ∧ hi = some l) :
    ∃ r, (Instr.sliceAt t u vlo vhi none).run P w = .ok r w ∧ RV w X μ r z := by
  have hL : (vlo = none ∧ lo.getD 0 = 0) ∨ ∃ k, vlo = some (.int k (lo.getD 0)) := by
    rcases hlo with ⟨rfl, rfl⟩ | ⟨k, l, rfl, rfl⟩
    · exact .inl ⟨rfl, rfl⟩
    · exact .inr ⟨k, rfl⟩
  have hH : ∀ n : Nat, (vhi = none ∧ hi.getD n = n) ∨ ∃ k, vhi = some (.int k (hi.getD n)) := by
    intro n
    rcases hhi with ⟨rfl, rfl⟩ | ⟨k, l, rfl, rfl⟩
    · exact .inl ⟨rfl, rfl⟩
    · exact .inr ⟨k, rfl⟩
  unfold sliceA at h
  dsimp only at h
  split at h
  · rename_i s
    split at h
    · rename_i hd
      obtain ⟨ti, ht, hp⟩ := descIs_some hd
      simp only [Option.some.injEq, Prod.mk.injEq] at h
      obtain ⟨rfl, rfl⟩ := h
      obtain rfl := hx.scalar
      obtain ⟨h0, h1, h2⟩ := hc
      exact ⟨_, by simp [Instr.sliceAt, hg.und ht, isStr_eq hp, Instr.slice, run_bounds (P := P) (w := w) hL (hH s.size) h0 h1 h2], .d (.v _)⟩
    · cases h
  · rename_i k els
    split at h
    · rename_i s he
      simp only [Option.some.injEq, Prod.mk.injEq] at h
      obtain ⟨rfl, rfl⟩ := h
      obtain ⟨h0, h1, h2, h3⟩ := hc
      unfold elemSz at he
      split at he
      · rename_i ti ht
        split at he
        · rename_i e hd
          obtain ⟨te, hte, rfl⟩ := Option.map_eq_some_iff.1 he
          generalize lo.getD 0 = l at *
          have hH' := hH els.length
          generalize hi.getD ↑els.length = hh at *
          obtain ⟨l, rfl⟩ := Int.eq_ofNat_of_zero_le h0
          obtain ⟨hh, rfl⟩ := Int.eq_ofNat_of_zero_le (show 0 ≤ hh by omega)
          have e1 : ((hh : Int) - l).toNat = hh - l := by omega
          simp only [Int.toNat_natCast, e1]
          rcases hx.data.sl_inv with ⟨rfl, rfl, hk⟩ | ⟨a, cap, rfl, hk, hcap, hm, hr⟩
          · have l0 : l = 0 := by simp at h2; omega
            have hh0 : hh = 0 := by simp at h2; omega
            subst l0 hh0
            have := run_bounds (P := P) (w := w) (isS := true) (cap := 0) hL hH' h0 h1 (by simp)
            refine ⟨.slice none 0 0, ?_, .d (by simpa using .nil hk)⟩
            simp at this
            simp [Instr.sliceAt, hg.und ht, hd, Instr.slice, this, hg.sizeOf hte]
          · have := run_bounds (P := P) (w := w) (isS := true) (cap := cap) hL hH' h0 h1 (by omega)
            refine ⟨.slice (some (if cap = l then a else a.add (l * te.size))) (hh - l) (cap - l), ?_, .d ?_⟩
            · simp [Instr.sliceAt, hg.und ht, hd, Instr.slice, this, hg.sizeOf hte]
              split <;> rfl
            · by_cases hz : hh - l = 0
              · rw [hz, List.take_zero]
                exact .empty hk (by unfold maxLen at *; omega)
              · rcases hr with rfl | ⟨b, off, sz, f, rfl, hX, hsz, hall, hcell, hrr⟩
                · simp at h2; omega
                · have hcl : ¬ cap = l := by omega
                  rw [if_neg hcl, addr_add]
                  have hls : l * te.size = l * sz := by
                    rcases h3 with h3 | h3
                    · have : l = 0 := by omega
                      simp [this]
                    · have hne : els ≠ [] := by intro e; simp [e] at h2; omega
                      obtain ⟨el, hel⟩ := List.exists_mem_of_ne_nil _ hne
                      rw [← h3 el hel, hall el hel]
                  rw [hls]
                  refine .sl (sz := sz) (f := fun i j => f (l + i) j) hk ?_ (by omega) (by unfold maxLen at *; omega) hX ?_ hsz (by omega) ?_ ?_
                  · simp; omega
                  · intro el hel
                    exact hall el (List.mem_of_mem_drop (List.mem_of_mem_take hel))
                  · intro i j hi hj
                    have := hcell (l + i) j (by omega) hj
                    rw [Nat.add_mul] at this
                    rw [← this]
                    congr 2
                    omega
                  · intro i j el c hel hc
                    rw [List.getElem?_take] at hel
                    split at hel
                    · rw [List.getElem?_drop] at hel
                      exact hrr _ j el c hel hc
                    · cases hel
        · cases he
      · cases he
    · cases h
  · rename_i r off n
    split at h
    · rename_i s ty sz els he hHr
      simp only [Option.some.injEq, Prod.mk.injEq] at h
      obtain ⟨rfl, rfl⟩ := h
      obtain ⟨h0, h1, h2, h3, rfl⟩ := hc
      unfold elemSz at he
      split at he
      · rename_i ti ht
        split at he
        · rename_i e hd
          obtain ⟨te, hte, rfl⟩ := Option.map_eq_some_iff.1 he
          generalize lo.getD 0 = l at *
          have hH' := hH n
          generalize hi.getD ↑n = hh at *
          obtain ⟨l, rfl⟩ := Int.eq_ofNat_of_zero_le h0
          obtain ⟨hh, rfl⟩ := Int.eq_ofNat_of_zero_le (show 0 ≤ hh by omega)
          have e1 : ((hh : Int) - l).toNat = hh - l := by omega
          simp only [Int.toNat_natCast, e1]
          obtain ⟨m, hm, hu⟩ := hx.own_inv
          obtain ⟨m', hm', ok⟩ := hs.rows r _ hHr
          rw [hm] at hm'
          obtain rfl := Option.some.inj hm'
          have hsz : m.sz = te.size := by cases ok <;> assumption
          rcases hu with ⟨hb, rfl, rfl, rfl⟩ | ⟨b, hb, rfl, hle⟩
          · have l0 : l = 0 := by omega
            have hh0 : hh = 0 := by omega
            subst l0 hh0
            have := run_bounds (P := P) (w := w) (isS := true) (cap := 0) hL hH' h0 h1 (by simp)
            refine ⟨.slice none 0 0, ?_, .own hm (.inl ⟨hb, rfl, rfl, rfl⟩)⟩
            simp [Instr.sliceAt, hg.und ht, hd, Instr.slice, hg.sizeOf hte]
            simp at this
            simp [this]
          · have := run_bounds (P := P) (w := w) (isS := true) (cap := m.cap - off) hL hH' h0 h1 (by omega)
            refine ⟨.slice (some (if m.cap - off = l then ⟨b, off * m.sz, none⟩ else (⟨b, off * m.sz, none⟩ : Addr).add (l * te.size))) (hh - l) (m.cap - off - l), ?_, .own hm (.inr ⟨b, hb, ?_, by omega⟩)⟩
            · simp [Instr.sliceAt, hg.und ht, hd, Instr.slice, this, hg.sizeOf hte]
              split <;> rfl
            · rw [addr_add, ← hsz, ← Nat.add_mul]
              have e3 : m.cap - off - l = m.cap - (off + l) := by omega
              rw [e3]
              split
              · have : l = 0 := by omega
                subst this
                simp
              · rfl
        · cases he
      · cases he
    · cases h
  · cases h
end

end Go.Av
