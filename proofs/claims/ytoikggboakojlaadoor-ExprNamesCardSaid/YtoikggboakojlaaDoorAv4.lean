/-
  More operations that only yield a value: operators, lengths, strings, conversions of integers, interfaces, tuples; and all of them in one function.
-/
import Derived.Test.YtoikggboakojlaaDoorAv3
namespace Go.Av

def bitsI (op : BinOp) (k : IntKind) (x y : Int) : Int :=
  let a := BitVec.ofInt k.bits x
  let b := BitVec.ofInt k.bits y
  match op with
  | .and => k.wrap (a &&& b).toNat
  | .or => k.wrap (a ||| b).toNat
  | .xor => k.wrap (a ^^^ b).toNat
  | _ => k.wrap (a &&& ~~~b).toNat

def fit64 (k : IntKind) (n : Int) : Option (Prop × Value) := match k with
  | .i64 => some (-9223372036854775808 ≤ n ∧ n ≤ 9223372036854775807, .int .i64 n)
  | k => some (True, .int k (k.wrap n))

def binI (op : BinOp) (k : IntKind) (a b : Int) : Option (Prop × Value) := match op with
  | .add => fit64 k (a + b)
  | .sub => fit64 k (a - b)
  | .mul => fit64 k (a * b)
  | .quo => some (b ≠ 0, .int k (k.wrap (a.tdiv b)))
  | .rem => some (b ≠ 0, .int k (a.tmod b))
  | .and => some (True, .int k (bitsI .and k a b))
  | .or => some (True, .int k (bitsI .or k a b))
  | .xor => some (True, .int k (bitsI .xor k a b))
  | .andNot => some (True, .int k (bitsI .andNot k a b))
  | .eql => some (True, .bool (a == b))
  | .neq => some (True, .bool (a != b))
  | .lss => some (True, .bool (decide (a < b)))
  | .leq => some (True, .bool (decide (a ≤ b)))
  | .gtr => some (True, .bool (decide (a > b)))
  | .geq => some (True, .bool (decide (a ≥ b)))
  | _ => none

def shI (op : BinOp) (k : IntKind) (a b : Int) : Option (Prop × Value) := match op with
  | .shl => some (0 ≤ b, .int k (k.wrap (a * 2 ^ (min b.toNat k.bits))))
  | .shr => some (0 ≤ b, .int k (a.fdiv (2 ^ (min b.toNat k.bits))))
  | _ => none

def isSh : BinOp → Bool
  | .shl | .shr => true
  | _ => false

def binS (op : BinOp) (a b : ByteArray) : Option (Prop × Value) := match op with
  | .add => some (a.size + b.size ≤ 9223372036854775807, .string (a ++ b))
  | .eql => some (True, .bool (a.toList == b.toList))
  | .neq => some (True, .bool (!(a.toList == b.toList)))
  | .lss => some (True, .bool (Op.bytesLess a.toList b.toList))
  | .leq => some (True, .bool (Op.bytesLess a.toList b.toList || a.toList == b.toList))
  | .gtr => some (True, .bool (!(Op.bytesLess a.toList b.toList || a.toList == b.toList)))
  | .geq => some (True, .bool (!Op.bytesLess a.toList b.toList))
  | _ => none

theorem wrap_fit {n : Int} (h : -9223372036854775808 ≤ n ∧ n ≤ 9223372036854775807) : IntKind.i64.wrap n = n := by rw [IntKind.wrap_i64]; omega

theorem fit64_ok {k : IntKind} {n : Int} {c : Prop} {v : Value} (h : fit64 k n = some (c, v)) (hc : c) : v = .int k (k.wrap n) := by
  cases k <;> simp only [fit64, Option.some.injEq, Prod.mk.injEq] at h <;> obtain ⟨rfl, rfl⟩ := h
  all_goals first | rfl | (rw [wrap_fit hc])

theorem binI_ok {P : Program} {op : BinOp} (hop : isSh op = false) {k : IntKind} {a b : Int} {c : Prop} {v : Value} (h : binI op k a b = some (c, v)) (hc : c) (t : TypeId) (w : World) : (binOp op t (.int k a) (.int k b)).run P w = .ok v w := by
  unfold binI at h
  cases op <;> simp only [Option.some.injEq, Prod.mk.injEq] at h
  all_goals first
    | (exact absurd hop (by decide))
    | (have := fit64_ok h hc; subst this; simp [binOp, Op.intArith])
    | (obtain ⟨rfl, rfl⟩ := h; simp [binOp, Op.intCmp]; done)
    | (obtain ⟨rfl, rfl⟩ := h; simp [binOp, Op.intBits, bitsI]; done)
    | (obtain ⟨rfl, rfl⟩ := h; simp [binOp, Op.intDiv, hc]; done)

theorem shI_ok {P : Program} {op : BinOp} {k yk : IntKind} {a b : Int} {c : Prop} {v : Value} (h : shI op k a b = some (c, v)) (hc : c) (t : TypeId) (w : World) : (binOp op t (.int k a) (.int yk b)).run P w = .ok v w := by
  unfold shI at h
  cases op <;> simp only [Option.some.injEq, Prod.mk.injEq, reduceCtorEq] at h
  all_goals
    obtain ⟨rfl, rfl⟩ := h
    have : ¬ b < 0 := by omega
    simp [binOp, Op.shift, this]

theorem binS_ok {P : Program} {op : BinOp} {a b : ByteArray} {c : Prop} {v : Value} (h : binS op a b = some (c, v)) (hc : c) (t : TypeId) (w : World) : (binOp op t (.string a) (.string b)).run P w = .ok v w := by
  unfold binS at h
  cases op <;> simp only [Option.some.injEq, Prod.mk.injEq, reduceCtorEq] at h
  all_goals obtain ⟨rfl, rfl⟩ := h
  case add =>
    have : ¬ (((a.size + b.size : Nat) : Int) > IntKind.i64.max) := by simp [IntKind.max, IntKind.signed, IntKind.bits]; omega
    simp [binOp, Op.stringOp, this]
    try omega
  all_goals simp [binOp, Op.stringOp]

/-- == and != where the outcome is known. -/
def eqv (op : BinOp) (c : Prop) (b : Bool) : Ans := match op with
  | .eql => some (c, bool b)
  | .neq => some (c, bool !b)
  | _ => none

def descIs (T : Ty) (t : TypeId) (p : TypeDesc → Bool) : Bool := match T t with
  | some ti => p ti.desc
  | none => false
def TypeDesc.isIface : TypeDesc → Bool | .interface _ => true | _ => false
def TypeDesc.isPtr : TypeDesc → Bool | .pointer _ => true | _ => false
def TypeDesc.isSlice : TypeDesc → Bool | .slice _ => true | _ => false
def TypeDesc.isFunc : TypeDesc → Bool | .func .. => true | _ => false
def TypeDesc.isBool : TypeDesc → Bool | .bool => true | _ => false
def TypeDesc.isStr : TypeDesc → Bool | .string => true | _ => false

/-- Does this nil fit that type? -/
def nilFits : TypeDesc → Value → Bool
  | .interface _, .nilIface | .pointer _, .pointer none | .func _ _ _, .nilFunc | .slice _, .slice none 0 0 => true
  | _, _ => false

/-- A value against nil: is it nil? -/
def nilA : AV → Value → Option (Prop × Bool)
  | .d (.ifc _ _), .nilIface => some (True, false)
  | .ifc _ _, .nilIface => some (True, false)
  | .d (.v .nilIface), .nilIface => some (True, true)
  | .d (.ip _), .pointer none => some (True, false)
  | .ref _ _ _, .pointer none => some (True, false)
  | .d (.v (.pointer none)), .pointer none => some (True, true)
  | .d (.fn _ _), .nilFunc => some (True, false)
  | .fn _ _, .nilFunc => some (True, false)
  | .d (.v .nilFunc), .nilFunc => some (True, true)
  | .d (.sl (some b) _), .slice none 0 0 => some (True, !b)
  | .d (.sl none els), .slice none 0 0 => some (els ≠ [], false)
  | .own _ _ n, .slice none 0 0 => some (0 < n, false)
  | _, _ => none

def constOf : Operand → Option Value
  | .const v => some v
  | _ => none

def nilBin (T : Ty) (op : BinOp) (t : TypeId) (oy : Operand) (x : AV) : Ans := match constOf oy with
  | some v => if descIs T t (nilFits · v) then (nilA x v).bind fun (c, b) => eqv op c b else none
  | none => none

def binA (T : Ty) (op : BinOp) (t : TypeId) (oy : Operand) (x y : AV) : Ans := match x, y with
  | .d (.v (.int k a)), .d (.v (.int k' b)) =>
    if isSh op then (shI op k a b).map fun (c, v) => (c, .d (.v v)) else if k = k' then (binI op k a b).map fun (c, v) => (c, .d (.v v)) else none
  | .d (.v (.string a)), .d (.v (.string b)) => (binS op a b).map fun (c, v) => (c, .d (.v v))
  | .d (.v (.bool a)), .d (.v (.bool b)) => if descIs T t TypeDesc.isBool then eqv op True (a == b) else none
  | x, _ => nilBin T op t oy x

theorem run_eqv {P : Program} {w : World} {op : BinOp} {t : TypeId} {u v : Value} {c : Prop} {b : Bool} {z : AV} {X : Nat → Prop} {μ : Mu} (h : eqv op c b = some (c, z)) (hb : (binOp .eql t u v).run P w = .ok (.bool b) w)
    (hn : (binOp .neq t u v).run P w = .ok (.bool !b) w) : ∃ r, (binOp op t u v).run P w = .ok r w ∧ RV w X μ r z := by
  unfold eqv at h
  split at h
  · simp only [Option.some.injEq, Prod.mk.injEq, true_and] at h; subst h; exact ⟨_, hb, .d (.v _)⟩
  · simp only [Option.some.injEq, Prod.mk.injEq, true_and] at h; subst h; exact ⟨_, hn, .d (.v _)⟩
  · cases h

theorem descIs_some {T : Ty} {t : TypeId} {p : TypeDesc → Bool} (h : descIs T t p = true) : ∃ ti, T t = some ti ∧ p ti.desc = true := by
  unfold descIs at h
  split at h
  · rename_i ti ht; exact ⟨ti, ht, h⟩
  · cases h

theorem eqv_cond {op : BinOp} {c c' : Prop} {b : Bool} {z : AV} (h : eqv op c b = some (c', z)) : c' = c := by
  unfold eqv at h
  split at h <;> simp only [Option.some.injEq, Prod.mk.injEq, reduceCtorEq] at h
  · exact h.1.symm
  · exact h.1.symm

section
variable {P : Program} {w : World} {t : TypeId}
theorem equal_depth (u v : Value) : Op.equal t u v = Op.equalIn (9999 + 1) t u v := rfl
theorem eq_iface_no {ms : Array (String × TypeId)} (h : P.underlying t = some (.interface ms)) (d : Nat) (t' : TypeId) (x : Value) : (Op.equalIn (d + 1) t (.iface t' x) .nilIface).run P w = .ok false w := by
  simp [Op.equalIn, run_underlying h]
theorem eq_iface_yes {ms : Array (String × TypeId)} (h : P.underlying t = some (.interface ms)) (d : Nat) : (Op.equalIn (d + 1) t .nilIface .nilIface).run P w = .ok true w := by
  simp [Op.equalIn, run_underlying h]
theorem eq_ptr_no {e : TypeId} (h : P.underlying t = some (.pointer e)) (d : Nat) (a : Addr) : (Op.equalIn (d + 1) t (.pointer (some a)) (.pointer none)).run P w = .ok false w := by
  simp [Op.equalIn, run_underlying h]
theorem eq_ptr_yes {e : TypeId} (h : P.underlying t = some (.pointer e)) (d : Nat) : (Op.equalIn (d + 1) t (.pointer none) (.pointer none)).run P w = .ok true w := by
  simp [Op.equalIn, run_underlying h]
theorem eq_fn_no {a b : Array TypeId} {c : Bool} (h : P.underlying t = some (.func a b c)) (d : Nat) (f : Fn) (x y : Array Value) : (Op.equalIn (d + 1) t (.func f x y) .nilFunc).run P w = .ok false w := by
  simp [Op.equalIn, run_underlying h]
theorem eq_fn_yes {a b : Array TypeId} {c : Bool} (h : P.underlying t = some (.func a b c)) (d : Nat) : (Op.equalIn (d + 1) t .nilFunc .nilFunc).run P w = .ok true w := by
  simp [Op.equalIn, run_underlying h]
theorem eq_sl_no {e : TypeId} (h : P.underlying t = some (.slice e)) (d : Nat) (a : Addr) (n c : Nat) : (Op.equalIn (d + 1) t (.slice (some a) n c) (.slice none 0 0)).run P w = .ok false w := by
  simp [Op.equalIn, run_underlying h]
theorem eq_sl_yes {e : TypeId} (h : P.underlying t = some (.slice e)) (d : Nat) : (Op.equalIn (d + 1) t (.slice none 0 0) (.slice none 0 0)).run P w = .ok true w := by
  simp [Op.equalIn, run_underlying h]
theorem eq_bool (h : P.underlying t = some .bool) (d : Nat) (a b : Bool) : (Op.equalIn (d + 1) t (.bool a) (.bool b)).run P w = .ok (a == b) w := by
  simp [Op.equalIn, run_underlying h]
end

/-- No operator of its own on these: == and != go by 'equal'. -/
def byEqual : Value → Bool
  | .int _ _ | .string _ | .float _ _ | .complex _ _ _ => false
  | _ => true

theorem by_equal {P : Program} {w : World} {t : TypeId} {u v : Value} {b : Bool} (hu : byEqual u = true) (h : (Op.equalIn (9999 + 1) t u v).run P w = .ok b w) :
    (binOp .eql t u v).run P w = .ok (.bool b) w ∧ (binOp .neq t u v).run P w = .ok (.bool !b) w := by
  have h' : (Op.equal t u v).run P w = .ok b w := h
  cases u <;> simp [byEqual] at hu <;> constructor <;> simp [binOp, h']

theorem guard_ok {P : Program} {w : World} {op : BinOp} {t : TypeId} {ox oy : Operand} {u v : Value} (h : ¬ (u = .nilIface ∧ v = .nilIface) ∨ (∃ c, ox = .const c) ∨ ∃ c, oy = .const c) (ha : ∀ a, u ≠ .agg a) :
    (eqGuard op t ox oy u v).run P w = .ok () w := by
  unfold eqGuard
  cases op <;> first | rfl | skip
  all_goals
    cases u <;> cases v <;> first | rfl | skip
    · rcases h with h | ⟨c, rfl⟩ | ⟨c, rfl⟩
      · simp at h
      · rfl
      · cases ox <;> rfl
    · exact absurd rfl (ha _)

theorem nilA_run {P : Program} {T : Ty} (hg : Good P T) {w : World} {X : Nat → Prop} {μ : Mu} {t : TypeId} {u v : Value} {x : AV} {c : Prop} {b : Bool} (h : nilA x v = some (c, b)) (hc : c) (hx : RV w X μ u x)
    (hf : descIs T t (nilFits · v) = true) : ((binOp .eql t u v).run P w = .ok (.bool b) w ∧ (binOp .neq t u v).run P w = .ok (.bool !b) w) ∧ ∀ a, u ≠ .agg a := by
  obtain ⟨ti, ht, hp⟩ := descIs_some hf
  have hu := (hg t ti ht).1
  unfold nilA at h
  split at h <;> first | cases h; done | skip
  all_goals
    simp only [Option.some.injEq, Prod.mk.injEq] at h
    obtain ⟨rfl, rfl⟩ := h
    cases hdd : ti.desc <;> simp [hdd, nilFits] at hp
    rw [hdd] at hu
  · obtain ⟨v', rfl, _⟩ := hx.data.ifc_inv; exact ⟨by_equal rfl (eq_iface_no hu _ _ _), by simp⟩
  · obtain ⟨v', rfl, _⟩ := hx.ifc_inv; exact ⟨by_equal rfl (eq_iface_no hu _ _ _), by simp⟩
  · obtain rfl := hx.scalar; exact ⟨by_equal rfl (eq_iface_yes hu _), by simp⟩
  · obtain ⟨b, off, f, rfl, _⟩ := hx.data.ip_inv; exact ⟨by_equal rfl (eq_ptr_no hu _ _), by simp⟩
  · obtain ⟨m, b, _, _, rfl⟩ := hx.ref_inv; exact ⟨by_equal rfl (eq_ptr_no hu _ _), by simp⟩
  · obtain rfl := hx.scalar; exact ⟨by_equal rfl (eq_ptr_yes hu _), by simp⟩
  · obtain ⟨arr, rfl, _⟩ := hx.data.fn_inv; exact ⟨by_equal rfl (eq_fn_no hu _ _ _ _), by simp⟩
  · obtain ⟨arr, rfl, _⟩ := hx.fn_inv; exact ⟨by_equal rfl (eq_fn_no hu _ _ _ _), by simp⟩
  · obtain rfl := hx.scalar; exact ⟨by_equal rfl (eq_fn_yes hu _), by simp⟩
  · rename_i bb els e
    rcases hx.data.sl_inv with ⟨rfl, _, hk⟩ | ⟨a, cap, rfl, hk, _⟩
    · cases bb
      · exact ⟨by_equal rfl (eq_sl_yes hu _), by simp⟩
      · exact absurd rfl hk
    · cases bb
      · exact absurd rfl hk
      · exact ⟨by_equal rfl (eq_sl_no hu _ _ _ _), by simp⟩
  · rcases hx.data.sl_inv with ⟨rfl, he, hk⟩ | ⟨a, cap, rfl, hk, _⟩
    · exact absurd he hc
    · exact ⟨by_equal rfl (eq_sl_no hu _ _ _ _), by simp⟩
  · obtain ⟨m, _, hh⟩ := hx.own_inv
    rcases hh with ⟨_, _, _, rfl⟩ | ⟨b, _, rfl, _⟩
    · omega
    · exact ⟨by_equal rfl (eq_sl_no hu _ _ _ _), by simp⟩

/-- The operator, its guard and all. -/
theorem binA_ok {P : Program} {T : Ty} {G : Glob} {N : Nat} (hg : Good P T) {w : World} {X : Nat → Prop} {μ : Mu} {a : Act} {σ : St} (hi : In w X G μ N a σ) {op : BinOp} {t : TypeId} {ox oy : Operand} {x y z : AV} {c : Prop}
    (hx : aeval G σ.env ox = some x) (hy : aeval G σ.env oy = some y) (h : binA T op t oy x y = some (c, z)) (hc : c) :
    ∃ r, (do eqGuard op t ox oy (a.eval ox) (a.eval oy); binOp op t (a.eval ox) (a.eval oy) : Sem Value).run P w = .ok r w ∧ RV w X μ r z := by
  have hx' := hi.eval hx
  have hy' := hi.eval hy
  have plain : ∀ (u v : Value), a.eval ox = u → a.eval oy = v → (∀ b, u ≠ .agg b) → u ≠ .nilIface → (∃ r, (binOp op t u v).run P w = .ok r w ∧ RV w X μ r z) →
      ∃ r, (do eqGuard op t ox oy (a.eval ox) (a.eval oy); binOp op t (a.eval ox) (a.eval oy) : Sem Value).run P w = .ok r w ∧ RV w X μ r z := by
    rintro u v hu hv h1 h2 ⟨r, hr, hrz⟩
    refine ⟨r, ?_, hrz⟩
    rw [hu, hv, Sem.run_bind, guard_ok (.inl fun e => h2 e.1) h1]
    exact hr
  unfold binA at h
  split at h
  · rename_i k a1 k' b1
    have e1 := hx'.scalar
    have e2 := hy'.scalar
    refine plain _ _ e1 e2 (by simp) (by simp) ?_
    split at h
    · obtain ⟨⟨c', v'⟩, hs, he⟩ := Option.map_eq_some_iff.1 h
      simp only [Prod.mk.injEq] at he
      obtain ⟨rfl, rfl⟩ := he
      exact ⟨_, shI_ok hs hc _ _, .d (.v _)⟩
    · rename_i hsh
      split at h
      · rename_i hk
        subst hk
        obtain ⟨⟨c', v'⟩, hs, he⟩ := Option.map_eq_some_iff.1 h
        simp only [Prod.mk.injEq] at he
        obtain ⟨rfl, rfl⟩ := he
        exact ⟨_, binI_ok (by simpa using hsh) hs hc _ _, .d (.v _)⟩
      · cases h
  · obtain ⟨⟨c', v'⟩, hs, he⟩ := Option.map_eq_some_iff.1 h
    simp only [Prod.mk.injEq] at he
    obtain ⟨rfl, rfl⟩ := he
    exact plain _ _ hx'.scalar hy'.scalar (by simp) (by simp) ⟨_, binS_ok hs hc _ _, .d (.v _)⟩
  · rename_i b1 b2
    split at h
    · rename_i hb
      obtain ⟨ti, ht, hp⟩ := descIs_some hb
      cases hdd : ti.desc <;> simp [hdd, TypeDesc.isBool] at hp
      have hu := (hg t ti ht).1
      rw [hdd] at hu
      have := by_equal (P := P) (w := w) (u := .bool b1) (v := .bool b2) rfl (eq_bool hu 9999 _ _)
      obtain rfl := eqv_cond h
      exact plain _ _ hx'.scalar hy'.scalar (by simp) (by simp) (run_eqv h this.1 this.2)
    · cases h
  · unfold nilBin at h
    split at h
    · rename_i v hv
      cases oy with
      | const v' =>
        simp only [constOf, Option.some.injEq] at hv
        subst hv
        split at h
        · rename_i hf
          obtain ⟨⟨c', b'⟩, hn, he⟩ := Option.bind_eq_some_iff.1 h
          dsimp only at he
          obtain rfl := eqv_cond he
          obtain ⟨hr, ha⟩ := nilA_run hg hn hc hx' hf
          obtain ⟨r, hr', hz⟩ := run_eqv (X := X) (μ := μ) he hr.1 hr.2
          refine ⟨r, ?_, hz⟩
          rw [Sem.run_bind, guard_ok (.inr (.inr ⟨_, rfl⟩)) ha]
          exact hr'
        · cases h
      | _ => cases hv
    · cases h

end Go.Av
