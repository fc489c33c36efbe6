/-
  Texts that belong together, in one file: LB3, LK, RN, LW, LE0.
-/
import Derived.Test.YthnjfeielmbfkaaGreatDoorSb28
import Derived.Shelf.Strconv.Itoa3
import Derived.Shelf.Strconv.Itoa4
import Derived.Shelf.Strconv.AtoiAll
import Derived.Shelf.Strconv.ParseIntPublic10
import Derived.Lib.ParseIntBTie
set_option linter.unusedSimpArgs false
set_option linter.unusedVariables false
namespace Go.Proofs.YthnjfeielmbfkaaGreatDoor
open Go.Av Go.Shelf Go.RowKit
def HasP10 (G : Glob) : Prop := G 6 = some (.tab (Lib.pow10Tab.map fun z => Value.int .u64 z).toArray)
def errV (v : Value) : Prop := v = .nilIface ∨ ∃ te pe, v = .iface te pe
def HasNE (G : Glob) (es er : Value) : Prop := (G 7 = some (.ip [.v es]) ∧ errV es) ∧ G 8 = some (.ip [.v er]) ∧ errV er
theorem glob_cell1 {G : Glob} {g : Nat} {v : Value} {w : World} {X : Nat → Prop} (hm : G g = some (.ip [.v v])) (hgl : ∀ g x, G g = some x → RD w X (.pointer (some ⟨g, 0, none⟩)) x) : w.cell? ⟨g, 0, none⟩ = some v := by
 obtain ⟨b', off, f, hp, _, _, hcell, hr⟩ := (hgl _ _ hm).ip_inv
 have h0 := hcell 0 (by simp)
 have h1 := (hr 0 _ rfl).scalar
 rw [h1] at h0
 injection hp with hp
 injection hp with hp
 injection hp with hp1 hp2 _
 subst hp1 hp2; exact h0
theorem p10_tab {G : Glob} (h : HasP10 G) {w : World} {X : Nat → Prop} (hgl : ∀ g x, G g = some x → RD w X (.pointer (some ⟨g, 0, none⟩)) x) : Lib.TabIs Tryz.prog w "internal/strconv.uint64pow10" .u64 Lib.pow10Tab := by
 have h1 := hgl _ _ h
 obtain ⟨ty, fr, hh⟩ : ∃ ty fr, w.heap[6]? = some (.cells (Lib.pow10Tab.map fun z => Value.int .u64 z).toArray ty fr) := by
  generalize hy : D.tab _ = y at h1
  cases h1 <;> cases hy
  exact ⟨_, _, by assumption⟩
 unfold Lib.TabIs World.var?; rw [show Tryz.prog.globalNamed "internal/strconv.uint64pow10" = some 6 by kernel_rfl]; simp only [Option.bind_some, hh]
theorem grow_grew (w : World) (os : Array Obj) : Grew w (Go.Sort.grow w os) := ⟨by simp [Go.Sort.grow], rfl, rfl, rfl, fun b hb => by simp [Go.Sort.grow, Array.getElem?_append_left hb]⟩
theorem Grew.trans' {w w1 w2 : World} (h : Grew w w1) (h2 : Grew w1 w2) : Grew w w2 := ⟨Nat.le_trans h.size h2.size, h2.os.trans h.os, h2.tape.trans h.tape, h2.output.trans h.output, fun b hb => (h2.same b (Nat.lt_of_lt_of_le hb h.size)).trans (h.same b hb)⟩
theorem itoa_spec (G : Glob) (hP : HasP10 G) (n : Int) (h0 : -9223372036854775808 ≤ n) (h1 : n ≤ 9223372036854775807) : PureC Tryz.prog G 53 [.v (.int .i64 n)] (dS (Lib.itoa n)) := by
 refine PureC.of_calls (Fun.of Tryz.func53 rfl rfl) fun X w vs hsz hrd hgl => ?_
 obtain ⟨u, rfl⟩ : ∃ u, vs = #[u] := by
  match vs, hsz with
  | ⟨[u]⟩, _ => exact ⟨u, rfl⟩
 have hu := (hrd 0 u _ rfl rfl).scalar
 subst hu; refine (Any.strconv_Itoa Tryz.lays171 n h0 h1 w (p10_tab hP hgl)).mono fun e w' ⟨he, k, os, hw⟩ => ⟨_, he, by rw [hw]; exact Grew.trans' (drewN_grew w k) (grow_grew _ _), .v _⟩
def dNumErr (f s : Tx) (ev : Value) : D := .ifc 326 (.ip [dS f, dS s, .v ev])
def dNumEnd (f s : Tx) (es er : Value) : D := match Lib.atoiAll s with
 | .ok v => .tup [.v (.int .i64 v), .v .nilIface]
 | .range => .tup [.v (.int .i64 (Lib.atoiSat s)), dNumErr f s er]
 | _ => .tup [.v (.int .i64 0), dNumErr f s es]
theorem rd_ok {w : World} {X : Nat → Prop} (v : Int) : RD w X (.tuple #[.int .i64 v, .nilIface]) (.tup [.v (.int .i64 v), .v .nilIface]) := .tup rfl fun j u c hu hc => by
 match j, hu, hc with
 | 0, hu, hc => simp at hu hc; subst hu hc; exact .v _
 | 1, hu, hc => simp at hu hc; subst hu hc; exact .v _
 | j + 2, hu, hc => simp at hu
theorem rd_bad {w w' : World} {X : Nat → Prop} (hfit : ∀ b, X b → b < w.heap.size) {v : Int} {f s : Tx} {ev : Value} {N : Nat} {T : TypeId} (hN : w.heap.size ≤ N) (hc : w'.heap[N]? = some (.cells #[.string (bs f), .string (bs s), ev] T (0, 0))) :
  RD w' X (.tuple #[.int .i64 v, .iface 326 (.pointer (some ⟨N, 0, none⟩))]) (.tup [.v (.int .i64 v), dNumErr f s ev]) := by
 have hcell : ∀ j, w'.cell? ⟨N, j, none⟩ = (#[.string (bs f), .string (bs s), ev] : Array Value)[j]? := fun j => by simp [World.cell?, hc]
 refine .tup rfl fun j u c hu hx => ?_
 match j, hu, hx with
 | 0, hu, hx => simp at hu hx; subst hu hx; exact .v _
 | 1, hu, hx =>
  simp at hu hx; subst hu hx; refine .ifc (.ip (f := fun j => (w'.cell? ⟨N, j, none⟩).getD undef) (fun hx => by have := hfit _ hx; omega) (Array.getElem?_eq_some_iff.1 hc).1 (fun j hj => ?_) fun j c hc2 => ?_)
  ·have hj3 : j < 3 := by simpa using hj
   rw [Nat.zero_add, hcell]
   match j, hj3 with
   | 0, _ => rfl
   | 1, _ => rfl
   | 2, _ => rfl
  ·rw [hcell]
   match j, hc2 with
   | 0, hc2 => simp at hc2; subst hc2; exact .v _
   | 1, hc2 => simp at hc2; subst hc2; exact .v _
   | 2, hc2 => simp at hc2; subst hc2; exact .v _
   | j + 3, hc2 => simp at hc2
 | j + 2, hu, hx => simp at hu
theorem bytesWorld_grew (w : World) (e : TypeId) (s : ByteArray) : Grew w (Lib.bytesWorld w e s) := below_grew (Lib.bytesWorld_below w e s)
def atoiN : Tx := [65, 116, 111, 105]
theorem atoi_spec (G : Glob) {es er : Value} (hE : HasNE G es er) (s : Tx) (hs : s.length < 2^40) : PureC Tryz.prog G 153 [dS s] (dNumEnd atoiN s es er) := by
 obtain ⟨⟨h1, h1v⟩, h2, h2v⟩ := hE
 refine of_callsX (Fun.of Tryz.func153 rfl rfl) fun X w vs hfit hsz hrd hgl => ?_
 obtain ⟨u, rfl⟩ : ∃ u, vs = #[u] := by
  match vs, hsz with
  | ⟨[u]⟩, _ => exact ⟨u, rfl⟩
 have hu := (hrd 0 u _ rfl rfl).scalar
 subst hu
 have hss : (bs s).size < 2^40 := by rw [bs_size]; exact hs
 unfold dNumEnd
 cases hn : Lib.atoiAll s with
 | ok v =>
  refine (Any.strconv_Atoi_ok Tryz.lays172 (bs s) (by omega) v hn w).mono fun e w' ⟨he, hw⟩ => ⟨_, he, ?_, rd_ok v⟩
  rcases hw with rfl | ⟨t, rfl⟩
  ·exact Grew.refl _
  ·exact bytesWorld_grew _ _ _
 | range =>
  refine (Any.strconv_Atoi_range Tryz.lays172 (bs s) (by omega) hn er w (glob_cell1 h2 hgl) h2v).mono fun e w' ⟨N, he, hN, hc, hB⟩ => ⟨_, he, below_grew hB, rd_bad hfit hN hc⟩
 | _ =>
  refine (Any.strconv_Atoi_syntax Tryz.lays172 (bs s) (by omega) hn es w (glob_cell1 h1 hgl) h1v).mono fun e w' ⟨N, he, hN, hc, hB⟩ => ⟨_, he, below_grew hB, rd_bad hfit hN hc⟩
end Go.Proofs.YthnjfeielmbfkaaGreatDoor
namespace Go.Proofs.YthnjfeielmbfkaaGreatDoor
open Go.Av
def kindN (l : List NmP) (k : Int) : Nat → List Int
 | 0 => []
 | i + 1 => kindN l k i ++ if (l.getD i ⟨[], 0, 0⟩).kind = k then [(i : Int)] else []
theorem kindN_len (l : List NmP) (k : Int) : ∀ n, (kindN l k n).length ≤ n
 | 0 => Nat.le_refl _
 | n + 1 => by rw [kindN, List.length_append]; have := kindN_len l k n; split <;> simp <;> omega
theorem kindN_zero (l : List NmP) (k : Int) : kindN l k 0 = [] := rfl
theorem kindN_succ {l : List NmP} {k : Int} {i : Nat} (h : i < l.length) : kindN l k (i + 1) = kindN l k i ++ if l[i].kind = k then [(i : Int)] else [] := by
 rw [kindN, List.getD_eq_getElem?_getD, List.getElem?_eq_getElem h]; rfl
set_option maxHeartbeats 4000000 in
theorem lkind_spec (G : Glob) (p : PgP) (hl : p.names.length < 2^40) (k : Int) : PureC Tryz.prog G 12 [dPg p, .v (.int .i64 k)] (.sl none ((kindN p.names k p.names.length).map fun x => [.v (.int .i64 x)])) := by
 simp only [dPg, cPg, dNms, dRgs]; generalize p.rungs.map cRg = R; refine PureC.of_body (tyOf_good _) Tryz.func12 rfl rfl (rs := [.tmp 4]) Tryz.results12 (by simp [Tryz.ntmps12]) fun X => ?_; simp only [Tryz.ntmps12, List.map]; refine rg0 [1,2] [2] ?_; refine AW.imp (Imp.freezeB 2 trivial) ?_; refine AW.st (by simp; rfl) ?_; refine rg0 [1,2,5] [] ?_; refine AW_then fun K1 hK1 => ?_; refine rg0 [1,5,9,10,11] [] ?_; refine AW_for (S := Nat) (fun i => i ≤ p.names.length) (fun i => ⟨lst [(1, .d (.v (.int .i64 k))), (5, .own 300 0 (kindN p.names k i).length), (9, .d (.sl none (p.names.map cNm))), (10, int p.names.length), (11, int i)], hlst [(300, .sl 3 1 ((kindN p.names k i).map fun x => [.v (.int .i64 x)]))]⟩) (fun i => p.names.length - i) 0 ?_ (by simp) ?_
 ·refine (Imp.adopt 5 300 3 1 rfl rfl).trans ?_; refine Imp.to' (fun _ _ => trivial) (by simp [kindN_zero]) (by simp [kindN_zero])
 ·intro i hi
  have hkl := kindN_len p.names k i
  have hsuc := fun h => kindN_succ (l := p.names) (k := k) (i := i) h
  generalize hkL : kindN p.names k i = L at hkl hsuc ⊢; refine rg0 [1,5,9,10,11,12] [300] ?_; refine AW_then fun K2 hK2 => ?_; refine AW_cond' (b := i < p.names.length) (by simp [D.le, D.le.go, takeMap]) (fun hc => ?_) (fun hc => ?_)
  ·have hlt := hc
   have hs2 := hsuc hlt
   have hcn : cNm p.names[i] = [.v (.string (bs p.names[i].name)), .v (.int .i64 p.names[i].kind), .v (.int .i64 p.names[i].count)] := rfl
   generalize p.names[i].name = nm at hcn; generalize p.names[i].kind = kd at hcn hs2; generalize p.names[i].count = ct at hcn; refine AW_skip (hK2 _ ?_); refine AW_then fun K3 hK3 => ?_; refine AW_block ?_
   have qf := (Aq @hlt @hcn)
   refine rgqv [1,5,6,7,9,10,11] [300,7] ?_; refine AW.imp (Imp.freezeB 7 trivial) ?_; refine AW.st (by simp; rfl) ?_
   by_cases heq : kd = k
   ·rw [if_pos heq] at hs2
    have qf := @heq
    refine rgqv [1,5,6,9,10,11,19] [300] ?_; refine AW_tt rfl ?_; refine AW_re (tyOf_good _) fun K' hK' => ?_; (repeat (refine sxn fun K2 hK2 => ?_; simp [List.take_of_length_le]; (repeat (refine ⟨by omega, ?_⟩)); refine hK2 _ ?_; clear hK2 K2)); refine sxz (hK' _ ?_); clear hK' K'; refine hK3 _ (AW.norm [1, 5, 9, 10, 11] [300] (fun _ _ => trivial) (AW.st (by simp [List.take_of_length_le]; rfl) ?_)); refine AW_re (tyOf_good _) fun K' hK' => ?_; (repeat (refine sxn fun K2 hK2 => ?_; simp; (repeat (refine ⟨by omega, ?_⟩)); refine hK2 _ ?_; clear hK2 K2)); refine sxz (hK' _ ?_); clear hK' K'; (try simp only [thn, inb]); refine Again.mk (i + 1) (by omega) (by omega) ?_; refine Imp.to' (fun _ _ => trivial) (by simp [hs2]) (by simp [hs2])
   ·rw [if_neg heq, List.append_nil] at hs2
    have qf := @heq
    refine rgqv [1,5,6,9,10,11,19] [300] ?_; refine AW_ff rfl ?_; refine AW_skip (hK3 _ ?_); refine AW_re (tyOf_good _) fun K' hK' => ?_; (repeat (refine sxn fun K2 hK2 => ?_; simp; (repeat (refine ⟨by omega, ?_⟩)); refine hK2 _ ?_; clear hK2 K2)); refine sxz (hK' _ ?_); clear hK' K'; (try simp only [thn, inb]); refine Again.mk (i + 1) (by omega) (by omega) ?_; refine Imp.to' (fun _ _ => trivial) (by simp [hs2]) (by simp [hs2])
  ·obtain rfl : i = p.names.length := by omega
   refine AW_exit (hK1 _ ?_); refine AW.imp (Imp.freeze 300 trivial) ?_; refine AW.st (by simp [List.take_of_length_le]; rfl) ?_; refine rg0 [4] [] ?_; refine AW_ret ?_; simp [D.le, D.le.go, takeMap, D.leGo_refl, D.le_refl, hkL]
end Go.Proofs.YthnjfeielmbfkaaGreatDoor
namespace Go.Proofs.YthnjfeielmbfkaaGreatDoor
open Go.Av
theorem renH_hlst {r r' : Nat} (hr : r ≠ r') (l : List (Nat × Row)) (hl : ∀ p ∈ l, p.1 ≠ r') : renH r r' (hlst l) = hlst (l.map fun p => (if p.1 = r then r' else p.1, p.2.tr (renO r r') (renF r r'))) := by
 funext q
 unfold renH
 induction l with
 | nil => simp [hlst, List.lookup]
 | cons p l ih =>
  have ih := ih fun p hp => hl p (by simp [hp])
  have hp := hl p (by simp)
  obtain ⟨k, row⟩ := p
  simp only [hlst, List.lookup, List.map_cons] at ih ⊢
  by_cases h1 : q = r'
  ·subst h1; simp only [if_true] at ih ⊢
   by_cases h2 : k = r
   ·subst h2; simp
   ·have a1 : (r == k) = false := by simpa using fun e => h2 e.symm
    have a2 : (q == k) = false := by simpa using fun e => hp e.symm
    simp only [h2, if_false, a1, a2]; exact ih
  ·simp only [h1, if_false] at ih ⊢
   by_cases h2 : q = r
   ·subst h2; simp only [if_true] at ih ⊢
    by_cases h3 : k = q
    ·have a1 : (q == r') = false := by simpa using h1
     simp only [h3, if_true, a1]; exact ih
    ·have a1 : (q == k) = false := by simpa using fun e => h3 e.symm
     simp only [h3, if_false, a1]; exact ih
   ·simp only [h2, if_false] at ih ⊢
    by_cases h3 : k = r
    ·have a1 : (q == k) = false := by rw [h3]; simpa using h2
     have a2 : (q == r') = false := by simpa using h1
     simp only [h3, if_true, a2] at a1 ⊢; rw [a1]; exact ih
    ·simp only [h3, if_false]
     by_cases h4 : q = k
     ·subst h4; simp
     ·have a1 : (q == k) = false := by simpa using h4
      simp only [a1]; exact ih
end Go.Proofs.YthnjfeielmbfkaaGreatDoor
namespace Go.Proofs.YthnjfeielmbfkaaGreatDoor
open Go.Av
theorem badGw_some (p : PgP) (k : Int) (s : Tx) (e : Ex) : badG p ⟨k, s, some e⟩ = if !(decide (1 ≤ k) && decide (k ≤ 6)) then 1 else if numP p s < 0 then 7 else if !decide (wantP k = (p.names.getD (numP p s).toNat ⟨[], 0, 0⟩).kind) then 1 else if (namesE true e).any fun s => decide (numP p s < 0) then 7 else 0 := by
 have h : (decide (k < 1) || decide (k > 6)) = !(decide (1 ≤ k) && decide (k ≤ 6)) := by
  by_cases h1 : 1 ≤ k <;> by_cases h2 : k ≤ 6 <;> simp [h1, h2] <;> omega
 show (if decide (k < 1) || decide (k > 6) then (1 : Int) else _) = _
 rw [h]; simp only [Bool.not_eq_true', decide_eq_false_iff_not, ne_eq]
end Go.Proofs.YthnjfeielmbfkaaGreatDoor
namespace Go.Proofs.YthnjfeielmbfkaaGreatDoor
open Go.Av
theorem nms_sub {s : Tx} : ∀ (n : Nat) (e : Ex), SizeOf.sizeOf e ≤ n → s ∈ nmsE false e → s ∈ nmsE true e
 | 0, e, hn, _ => by cases e <;> simp at hn
 | n + 1, e, hn, h => by
  have many : ∀ l : List Ex, (∀ x ∈ l, SizeOf.sizeOf x ≤ n) → s ∈ nmsL false l → s ∈ nmsL true l := by
   intro l
   induction l with
   | nil => intro _ h; simp [nmsL] at h
   | cons x l ih =>
    intro hl h
    rw [nmsL, List.mem_append] at h ⊢
    rcases h with h | h
    ·exact .inl (nms_sub n x (hl x (by simp)) h)
    ·exact .inr (ih (fun y hy => hl y (by simp [hy])) h)
  have inside : ∀ (l : List Ex), SizeOf.sizeOf l ≤ n → ∀ x ∈ l, SizeOf.sizeOf x ≤ n := fun l hl x hx => by
   have := List.sizeOf_lt_of_mem hx; omega
  cases e with
  | cst b => simp [nmsE, nmE, one1] at h
  | bit t => simp [nmsE, nmE, one1] at h
  | rise t => exact h
  | fall t => exact h
  | not e => exact nms_sub n e (by simp at hn; omega) h
  | and l => exact many l (inside l (by simp at hn; omega)) h
  | or l => exact many l (inside l (by simp at hn; omega)) h
theorem names_sub {s : Tx} {e : Ex} (h : s ∈ namesE false e) : s ∈ namesE true e := namesE_mem.2 (nms_sub _ e (Nat.le_refl _) (namesE_mem.1 h))
theorem checkP_rung {p : PgP} (h : checkP p = none) : ∀ r ∈ p.rungs, (1 ≤ r.kind ∧ r.kind ≤ 6) ∧ ¬ numP p r.name < 0 ∧ ∃ e, r.cond = some e ∧ ∀ s ∈ namesE true e, ¬ numP p s < 0 := fun r hr => by
 unfold checkP at h
 split at h
 ·cases h
 split at h
 ·cases h
 split at h
 ·cases h
 rename_i hB
 obtain ⟨k, hk, rfl⟩ := List.mem_iff_getElem.1 hr
 have h0 := firstBad_none hB k hk
 generalize p.rungs[k] = r at h0
 obtain ⟨kd, nm, cd⟩ := r
 cases cd with
 | none => cases (show (1 : Int) = 0 from h0)
 | some e =>
  rw [badGw_some] at h0
  split at h0
  ·cases h0
  rename_i h1
  split at h0
  ·cases h0
  rename_i h2
  split at h0
  ·cases h0
  split at h0
  ·cases h0
  rename_i h4
  refine ⟨by simpa using h1, h2, e, rfl, fun s hs hn => h4 ?_⟩; exact List.any_eq_true.2 ⟨s, hs, by simpa using hn⟩
end Go.Proofs.YthnjfeielmbfkaaGreatDoor
