/-
  Texts that belong together, in one file: LB3, LK, U1.
-/
import Derived.Test.YthnjfeielmbfkaaGreatDoorLp35
import Derived.Shelf.Strconv.Itoa3
import Derived.Shelf.Strconv.Itoa4
import Derived.Shelf.Strconv.AtoiAll
import Derived.Shelf.Strconv.ParseIntPublic10
import Derived.Lib.ParseIntBTie
set_option linter.unusedSimpArgs false
set_option linter.unusedVariables false
namespace Go.Proofs.YthnjfeielmbfkaaGreatDoor
open Go.Av Go.Shelf Go.RowKit
def HasP10 (G : Glob) : Prop := G 6 = some (.tab (Lib.pow10Tab.map fun z => Value.int .u64 z).toArray)
def errV (v : Value) : Prop := v = .nilIface ∨ ∃ te pe, v = .iface te pe
def HasNE (G : Glob) (es er : Value) : Prop := (G 7 = some (.ip [.v es]) ∧ errV es) ∧ G 8 = some (.ip [.v er]) ∧ errV er
theorem glob_cell1 {G : Glob} {g : Nat} {v : Value} {w : World} {X : Nat → Prop} (hm : G g = some (.ip [.v v])) (hgl : ∀ g x, G g = some x → RD w X (.pointer (some ⟨g, 0, none⟩)) x) : w.cell? ⟨g, 0, none⟩ = some v := by
 obtain ⟨b', off, f, hp, _, _, hcell, hr⟩ := (hgl _ _ hm).ip_inv
 have h0 := hcell 0 (by simp)
 have h1 := (hr 0 _ rfl).scalar
 rw [h1] at h0
 injection hp with hp
 injection hp with hp
 injection hp with hp1 hp2 _
 subst hp1 hp2; exact h0
theorem p10_tab {G : Glob} (h : HasP10 G) {w : World} {X : Nat → Prop} (hgl : ∀ g x, G g = some x → RD w X (.pointer (some ⟨g, 0, none⟩)) x) : Lib.TabIs Tryz.prog w "internal/strconv.uint64pow10" .u64 Lib.pow10Tab := by
 have h1 := hgl _ _ h
 obtain ⟨ty, fr, hh⟩ : ∃ ty fr, w.heap[6]? = some (.cells (Lib.pow10Tab.map fun z => Value.int .u64 z).toArray ty fr) := by
  generalize hy : D.tab _ = y at h1
  cases h1 <;> cases hy
  exact ⟨_, _, by assumption⟩
 unfold Lib.TabIs World.var?; rw [show Tryz.prog.globalNamed "internal/strconv.uint64pow10" = some 6 by kernel_rfl]; simp only [Option.bind_some, hh]
theorem grow_grew (w : World) (os : Array Obj) : Grew w (Go.Sort.grow w os) := ⟨by simp [Go.Sort.grow], rfl, rfl, rfl, fun b hb => by simp [Go.Sort.grow, Array.getElem?_append_left hb]⟩
theorem Grew.trans' {w w1 w2 : World} (h : Grew w w1) (h2 : Grew w1 w2) : Grew w w2 := ⟨Nat.le_trans h.size h2.size, h2.os.trans h.os, h2.tape.trans h.tape, h2.output.trans h.output, fun b hb => (h2.same b (Nat.lt_of_lt_of_le hb h.size)).trans (h.same b hb)⟩
theorem itoa_spec (G : Glob) (hP : HasP10 G) (n : Int) (h0 : -9223372036854775808 ≤ n) (h1 : n ≤ 9223372036854775807) : PureC Tryz.prog G 53 [.v (.int .i64 n)] (dS (Lib.itoa n)) := by
 refine PureC.of_calls (Fun.of Tryz.func53 rfl rfl) fun X w vs hsz hrd hgl => ?_
 obtain ⟨u, rfl⟩ : ∃ u, vs = #[u] := by
  match vs, hsz with
  | ⟨[u]⟩, _ => exact ⟨u, rfl⟩
 have hu := (hrd 0 u _ rfl rfl).scalar
 subst hu; refine (Any.strconv_Itoa Tryz.lays171 n h0 h1 w (p10_tab hP hgl)).mono fun e w' ⟨he, k, os, hw⟩ => ⟨_, he, by rw [hw]; exact Grew.trans' (drewN_grew w k) (grow_grew _ _), .v _⟩
theorem formatInt_spec (G : Glob) (hP : HasP10 G) (n : Int) (h0 : -9223372036854775808 ≤ n) (h1 : n ≤ 9223372036854775807) : PureC Tryz.prog G 137 [.v (.int .i64 n), .v (.int .i64 10)] (dS (Lib.itoa n)) := by
 refine PureC.of_calls (Fun.of Tryz.func137 rfl rfl) fun X w vs hsz hrd hgl => ?_
 obtain ⟨u, v, rfl⟩ : ∃ u v, vs = #[u, v] := by
  match vs, hsz with
  | ⟨[u, v]⟩, _ => exact ⟨u, v, rfl⟩
 have hu := (hrd 0 u _ rfl rfl).scalar
 have hv := (hrd 1 v _ rfl rfl).scalar
 subst hu hv; refine (Any.strconv_FormatInt_10 Tryz.lays173 n h0 h1 w (p10_tab hP hgl)).mono fun e w' ⟨he, k, os, hw⟩ => ⟨_, he, by rw [hw]; exact Grew.trans' (drewN_grew w k) (grow_grew _ _), .v _⟩
def dNumErr (f s : Tx) (ev : Value) : D := .ifc 326 (.ip [dS f, dS s, .v ev])
def dNumEnd (f s : Tx) (es er : Value) : D := match Lib.atoiAll s with
 | .ok v => .tup [.v (.int .i64 v), .v .nilIface]
 | .range => .tup [.v (.int .i64 (Lib.atoiSat s)), dNumErr f s er]
 | _ => .tup [.v (.int .i64 0), dNumErr f s es]
theorem rd_ok {w : World} {X : Nat → Prop} (v : Int) : RD w X (.tuple #[.int .i64 v, .nilIface]) (.tup [.v (.int .i64 v), .v .nilIface]) := .tup rfl fun j u c hu hc => by
 match j, hu, hc with
 | 0, hu, hc => simp at hu hc; subst hu hc; exact .v _
 | 1, hu, hc => simp at hu hc; subst hu hc; exact .v _
 | j + 2, hu, hc => simp at hu
theorem rd_bad {w w' : World} {X : Nat → Prop} (hfit : ∀ b, X b → b < w.heap.size) {v : Int} {f s : Tx} {ev : Value} {N : Nat} {T : TypeId} (hN : w.heap.size ≤ N) (hc : w'.heap[N]? = some (.cells #[.string (bs f), .string (bs s), ev] T (0, 0))) :
  RD w' X (.tuple #[.int .i64 v, .iface 326 (.pointer (some ⟨N, 0, none⟩))]) (.tup [.v (.int .i64 v), dNumErr f s ev]) := by
 have hcell : ∀ j, w'.cell? ⟨N, j, none⟩ = (#[.string (bs f), .string (bs s), ev] : Array Value)[j]? := fun j => by simp [World.cell?, hc]
 refine .tup rfl fun j u c hu hx => ?_
 match j, hu, hx with
 | 0, hu, hx => simp at hu hx; subst hu hx; exact .v _
 | 1, hu, hx =>
  simp at hu hx; subst hu hx; refine .ifc (.ip (f := fun j => (w'.cell? ⟨N, j, none⟩).getD undef) (fun hx => by have := hfit _ hx; omega) (Array.getElem?_eq_some_iff.1 hc).1 (fun j hj => ?_) fun j c hc2 => ?_)
  ·have hj3 : j < 3 := by simpa using hj
   rw [Nat.zero_add, hcell]
   match j, hj3 with
   | 0, _ => rfl
   | 1, _ => rfl
   | 2, _ => rfl
  ·rw [hcell]
   match j, hc2 with
   | 0, hc2 => simp at hc2; subst hc2; exact .v _
   | 1, hc2 => simp at hc2; subst hc2; exact .v _
   | 2, hc2 => simp at hc2; subst hc2; exact .v _
   | j + 3, hc2 => simp at hc2
 | j + 2, hu, hx => simp at hu
theorem bytesWorld_grew (w : World) (e : TypeId) (s : ByteArray) : Grew w (Lib.bytesWorld w e s) := below_grew (Lib.bytesWorld_below w e s)
def atoiN : Tx := [65, 116, 111, 105]
def parseIntN : Tx := [80, 97, 114, 115, 101, 73, 110, 116]
theorem atoi_spec (G : Glob) {es er : Value} (hE : HasNE G es er) (s : Tx) (hs : s.length < 2^40) : PureC Tryz.prog G 153 [dS s] (dNumEnd atoiN s es er) := by
 obtain ⟨⟨h1, h1v⟩, h2, h2v⟩ := hE
 refine of_callsX (Fun.of Tryz.func153 rfl rfl) fun X w vs hfit hsz hrd hgl => ?_
 obtain ⟨u, rfl⟩ : ∃ u, vs = #[u] := by
  match vs, hsz with
  | ⟨[u]⟩, _ => exact ⟨u, rfl⟩
 have hu := (hrd 0 u _ rfl rfl).scalar
 subst hu
 have hss : (bs s).size < 2^40 := by rw [bs_size]; exact hs
 unfold dNumEnd
 cases hn : Lib.atoiAll s with
 | ok v =>
  refine (Any.strconv_Atoi_ok Tryz.lays172 (bs s) (by omega) v hn w).mono fun e w' ⟨he, hw⟩ => ⟨_, he, ?_, rd_ok v⟩
  rcases hw with rfl | ⟨t, rfl⟩
  ·exact Grew.refl _
  ·exact bytesWorld_grew _ _ _
 | range =>
  refine (Any.strconv_Atoi_range Tryz.lays172 (bs s) (by omega) hn er w (glob_cell1 h2 hgl) h2v).mono fun e w' ⟨N, he, hN, hc, hB⟩ => ⟨_, he, below_grew hB, rd_bad hfit hN hc⟩
 | _ =>
  refine (Any.strconv_Atoi_syntax Tryz.lays172 (bs s) (by omega) hn es w (glob_cell1 h1 hgl) h1v).mono fun e w' ⟨N, he, hN, hc, hB⟩ => ⟨_, he, below_grew hB, rd_bad hfit hN hc⟩
theorem parseInt_spec (G : Glob) {es er : Value} (hE : HasNE G es er) (s : Tx) (hs : s.length < 2^40) : PureC Tryz.prog G 136 [dS s, .v (.int .i64 10), .v (.int .i64 64)] (dNumEnd parseIntN s es er) := by
 obtain ⟨⟨h1, h1v⟩, h2, h2v⟩ := hE
 refine of_callsX (Fun.of Tryz.func136 rfl rfl) fun X w vs hfit hsz hrd hgl => ?_
 obtain ⟨u, v1, v2, rfl⟩ : ∃ u v1 v2, vs = #[u, v1, v2] := by
  match vs, hsz with
  | ⟨[u, v1, v2]⟩, _ => exact ⟨u, v1, v2, rfl⟩
 have hu := (hrd 0 u _ rfl rfl).scalar
 have hv1 := (hrd 1 v1 _ rfl rfl).scalar
 have hv2 := (hrd 2 v2 _ rfl rfl).scalar
 subst hu hv1 hv2
 have hss : (bs s).size < 2^40 := by rw [bs_size]; exact hs
 have e64 : Lib.parseIntB 64 (bs s).data.toList = Lib.atoiAll s := by rw [bs_data]; exact Lib.parseIntB_64 s
 unfold dNumEnd
 cases hn : Lib.atoiAll s with
 | ok v =>
  refine (Any.strconv_ParseInt_10_at64_ok Tryz.lays174 (bs s) (by omega) v (e64.trans hn) w).mono fun e w' ⟨he, hw⟩ => ⟨_, he, ?_, rd_ok v⟩
  rcases hw with rfl | ⟨t, rfl⟩
  ·exact Grew.refl _
  ·exact bytesWorld_grew _ _ _
 | range =>
  refine (Any.strconv_ParseInt_10_at64_range Tryz.lays174 (bs s) (by omega) (e64.trans hn) er w (glob_cell1 h2 hgl) h2v).mono fun e w' ⟨N, he, hN, hc, hB⟩ => ⟨_, by rw [bs_data, Lib.intSat_64] at he; exact he, below_grew hB, rd_bad hfit hN hc⟩
 | _ =>
  refine (Any.strconv_ParseInt_10_at64_syntax Tryz.lays174 (bs s) (by omega) (e64.trans hn) es w (glob_cell1 h1 hgl) h1v).mono fun e w' ⟨N, he, hN, hc, hB⟩ => ⟨_, he, below_grew hB, rd_bad hfit hN hc⟩
end Go.Proofs.YthnjfeielmbfkaaGreatDoor
namespace Go.Proofs.YthnjfeielmbfkaaGreatDoor
open Go.Av
def cRw' (r : RgP) : List D := [.v (.int .i64 r.kind), dS r.name, dOR r.cond]
def cPw (p : PgP) : List D := [dNms p.names, .sl none (p.rungs.map cRw')]
def dPw (p : PgP) : D := .agg (cPw p)
set_option maxHeartbeats 2000000 in
theorem wnum_spec (G : Glob) (p : PgP) (hl : p.names.length < 2^62) (s : List UInt8) : PureC Tryz.prog G 82 [dPw p, dS s] (.v (.int .i64 (numP p s))) := by
 unfold numP; simp only [dPw, cPw, dNms, dS]; generalize p.rungs.map cRw' = R; refine PureC.of_body (tyOf_good _) Tryz.func82 rfl rfl (rs := [.tmp 4]) Tryz.results82 (by simp [Tryz.ntmps82]) fun X => ?_; simp only [Tryz.ntmps82, List.map]; refine rg0 [1,2] [2] ?_; refine AW.imp (Imp.freezeB 2 trivial) ?_; refine AW.st (by simp; rfl) ?_; refine AW_then fun K1 hK1 => ?_; refine rg0 [1,8,9,10] [] ?_; refine AW_for (S := Nat) (fun n => n ≤ p.names.length ∧ ∀ i (hi : i < p.names.length), i < n → (p.names[i].name == s) = false) (fun n => ⟨lst [(1, .d (.v (.string (bs s)))), (8, .d (.sl none (p.names.map cNm))), (9, int p.names.length), (10, int n)], hlst []⟩) (fun n => p.names.length - n) 0 ?_ (by simp) ?_
 ·refine Imp.to' (fun _ _ => trivial) (by simp) (by simp)
 ·rintro n ⟨hn, hp⟩
  refine rg0 [1,8,9,10,11] [] ?_; refine AW_then fun K2 hK2 => ?_; refine AW_cond' (b := n < p.names.length) (by simp [D.le, D.le.go, takeMap]) (fun hc => ?_) (fun hc => ?_)
  ·have hlt := hc
   have hcn : cNm p.names[n] = [.v (.string (bs p.names[n].name)), .v (.int .i64 p.names[n].kind), .v (.int .i64 p.names[n].count)] := rfl
   refine AW_skip (hK2 _ ?_); refine AW_then fun K3 hK3 => ?_; refine AW_block ?_
   have qf := (Aq @hlt @hcn)
   refine rgqv [1,5,6,8,9,10] [6] ?_; refine AW.imp (Imp.freezeB 6 trivial) ?_; refine AW.st (by simp; rfl) ?_
   by_cases heq : p.names[n].name = s
   ·refine rg [1, 5, 8, 9, 10, 18] [] (fun _ _ => trivial) fun K' hK' => ?_; (repeat (refine sxn fun K2 hK2 => ?_; simp [binS, bs_list, heq]; (repeat (refine ⟨by omega, ?_⟩)); refine hK2 _ ?_; clear hK2 K2)); refine sxz (hK' _ (AW.st (by simp [binS, bs_list, heq]; rfl) ?_)); clear hK' K'; refine AW_tt rfl ?_; refine rg0 [4] [] ?_; refine AW_ret ?_; simp [D.le, D.le.go, takeMap]; exact (idx_hit (p := fun m : NmP => m.name == s) hlt (by simp [heq]) fun i hi => hp i (by omega) hi).symm
   ·refine rg [1, 5, 8, 9, 10, 18] [] (fun _ _ => trivial) fun K' hK' => ?_; (repeat (refine sxn fun K2 hK2 => ?_; simp [binS, bs_list, heq]; (repeat (refine ⟨by omega, ?_⟩)); refine hK2 _ ?_; clear hK2 K2)); refine sxz (hK' _ (AW.st (by simp [binS, bs_list, heq]; rfl) ?_)); clear hK' K'; refine AW_cond false (by simp [heq]) (fun h => by cases h) (fun _ => ?_); refine AW_skip (hK3 _ ?_); refine AW_re (tyOf_good _) fun K' hK' => ?_; (repeat (refine sxn fun K2 hK2 => ?_; simp; (repeat (refine ⟨by omega, ?_⟩)); refine hK2 _ ?_; clear hK2 K2)); refine sxz (hK' _ ?_); clear hK' K'; (try simp only [thn, inb]); refine Again.mk (n + 1) ⟨by omega, fun i hi hin => ?_⟩ (by omega) ?_
    ·by_cases h : i = n
     ·subst h; simpa using heq
     ·exact hp i hi (by omega)
    refine Imp.to' (fun _ _ => trivial) (by simp) (by simp)
  ·refine AW_exit (hK1 _ ?_); refine rg0 [4] [] ?_; refine AW_ret ?_; simp [D.le, D.le.go, takeMap]; exact (idx_miss (p := fun m : NmP => m.name == s) fun i hi => hp i hi (by omega)).symm
end Go.Proofs.YthnjfeielmbfkaaGreatDoor
namespace Go.Proofs.YthnjfeielmbfkaaGreatDoor
open Go.Av
def kidsR : Ex → List Ex
 | .not e => [e]
 | .and l => l
 | .or l => l
 | _ => []
def kR : Ex → Option Bool
 | .not _ => none
 | .and _ => none
 | .or _ => none
 | _ => some false
theorem ofR_form (e : Ex) : ofR e = .sl (kR e) ((kidsR e).map fun x => [dR x]) := by
 cases e <;> simp [ofR, kidsR, kR, dNil, dRs_map]
theorem bE_kids (e : Ex) : bEs (kidsR e) ≤ bE e := by cases e <;> simp [bE, kidsR, bEs] <;> omega
theorem sz_kids {e x : Ex} (h : x ∈ kidsR e) : SizeOf.sizeOf x < SizeOf.sizeOf e := by
 cases e with
 | not y => simp only [kidsR, List.mem_singleton] at h; subst h; simp
 | and l => simp only [kidsR] at h; have := List.sizeOf_lt_of_mem h; simp only [Ex.and.sizeOf_spec]; omega
 | or l => simp only [kidsR] at h; have := List.sizeOf_lt_of_mem h; simp only [Ex.or.sizeOf_spec]; omega
 | _ => simp [kidsR] at h
end Go.Proofs.YthnjfeielmbfkaaGreatDoor
