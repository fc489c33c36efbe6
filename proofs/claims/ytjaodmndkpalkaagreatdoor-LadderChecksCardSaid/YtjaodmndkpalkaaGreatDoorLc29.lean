/-
  Texts that belong together, in one file: Sh8, IT, RT7, SB, SB2, SB3, SB4, RT8, LT0, LE1, LT1, LT2, V5, LD, RR4, R1.
-/
import Derived.Test.YtjaodmndkpalkaaGreatDoorLc28
import Derived.Test.YtjaodmndkpalkaaGreatDoorProg
import Derived.Ground.NamesProg
import Derived.Shelf.Strconv.Itoa3
import Derived.Shelf.Strings.OnBuilder
set_option linter.unusedSimpArgs false
set_option linter.unusedVariables false
namespace Go.Proofs
open Go.Shelf
def Tryz.lays171_ren : Go.Shelf.Ren := ⟨fun | 171 => 59 | 243 => 113 | 246 => 169 | 283 => 217 | 284 => 218 | 285 => 219 | 286 => 220 | 129 => 202 | 317 => 253 | 318 => 254 | 319 => 255 | 320 => 256 | 337 => 278 | 338 => 279 | n => n, fun | 3 => 3 | 9 => 9 | 2 => 2 | 4 => 4 | 171 => 311 | 0 => 0 | 53 => 299 | 37 => 172 | 5 => 5 | 173 => 313 | 212 => 347 | 51 => 297 | 20 => 20 | 213 => 348 | 46 => 132 | 232 => 388 | 233 => 389 | n => n, fun | 17 => 6 | 18 => 11 | 19 => 12 | n => n⟩
theorem Tryz.lays171 : Go.Proofs.LaysM.n171 Tryz.prog Tryz.lays171_ren := {
 mixed := by kernel_rfl
 f129 := Tryz.func202.trans (congrArg some (by kernel_rfl))
 f171 := Tryz.func59.trans (congrArg some (by kernel_rfl))
 f243 := Tryz.func113.trans (congrArg some (by kernel_rfl))
 f246 := Tryz.func169.trans (congrArg some (by kernel_rfl))
 f283 := Tryz.func217.trans (congrArg some (by kernel_rfl))
 f284 := Tryz.func218.trans (congrArg some (by kernel_rfl))
 f285 := Tryz.func219.trans (congrArg some (by kernel_rfl))
 f286 := Tryz.func220.trans (congrArg some (by kernel_rfl))
 f317 := Tryz.func253.trans (congrArg some (by kernel_rfl))
 f318 := Tryz.func254.trans (congrArg some (by kernel_rfl))
 f319 := Tryz.func255.trans (congrArg some (by kernel_rfl))
 f320 := Tryz.func256.trans (congrArg some (by kernel_rfl))
 f337 := Tryz.func278.trans (congrArg some (by kernel_rfl))
 f338 := Tryz.func279.trans (congrArg some (by kernel_rfl))
 t0 := Tryz.underlying0
 a0 := Tryz.isAgg0
 z0 := Tryz.sizeOf0
 v0 := Tryz.zeroValue0
 t2 := Tryz.underlying2
 a2 := Tryz.isAgg2
 z2 := Tryz.sizeOf2
 v2 := Tryz.zeroValue2
 t3 := Tryz.underlying3
 a3 := Tryz.isAgg3
 z3 := Tryz.sizeOf3
 v3 := Tryz.zeroValue3
 t4 := Tryz.underlying4
 a4 := Tryz.isAgg4
 z4 := Tryz.sizeOf4
 v4 := Tryz.zeroValue4
 t5 := Tryz.underlying5
 a5 := Tryz.isAgg5
 z5 := Tryz.sizeOf5
 v5 := Tryz.zeroValue5
 t9 := Tryz.underlying9
 a9 := Tryz.isAgg9
 z9 := Tryz.sizeOf9
 v9 := Tryz.zeroValue9
 t20 := Tryz.underlying20
 a20 := Tryz.isAgg20
 z20 := Tryz.sizeOf20
 v20 := Tryz.zeroValue20
 t37 := Tryz.underlying172
 a37 := Tryz.isAgg172
 z37 := Tryz.sizeOf172
 v37 := Tryz.zeroValue172
 t46 := Tryz.underlying132
 a46 := Tryz.isAgg132
 z46 := Tryz.sizeOf132
 v46 := Tryz.zeroValue132
 t51 := Tryz.underlying297
 a51 := Tryz.isAgg297
 z51 := Tryz.sizeOf297
 v51 := Tryz.zeroValue297
 t53 := Tryz.underlying299
 a53 := Tryz.isAgg299
 z53 := Tryz.sizeOf299
 v53 := Tryz.zeroValue299
 t171 := Tryz.underlying311
 a171 := Tryz.isAgg311
 z171 := Tryz.sizeOf311
 v171 := Tryz.zeroValue311
 t173 := Tryz.underlying313
 a173 := Tryz.isAgg313
 z173 := Tryz.sizeOf313
 v173 := Tryz.zeroValue313
 t212 := Tryz.underlying347
 a212 := Tryz.isAgg347
 z212 := Tryz.sizeOf347
 v212 := Tryz.zeroValue347
 t213 := Tryz.underlying348
 a213 := Tryz.isAgg348
 z213 := Tryz.sizeOf348
 t232 := Tryz.underlying388
 a232 := Tryz.isAgg388
 z232 := Tryz.sizeOf388
 v232 := Tryz.zeroValue388
 t233 := Tryz.underlying389
 a233 := Tryz.isAgg389
 z233 := Tryz.sizeOf389
 v233 := Tryz.zeroValue389
 g17 := by kernel_rfl
 g18 := by kernel_rfl
 g19 := by kernel_rfl
 i0 := by kernel_rfl
 i2 := by kernel_rfl
 i3 := by kernel_rfl
 i4 := by kernel_rfl
 i5 := by kernel_rfl
 i9 := by kernel_rfl
 i20 := by kernel_rfl
 i37 := by kernel_rfl
 i46 := by kernel_rfl
 i51 := by kernel_rfl
 i53 := by kernel_rfl
 i171 := by kernel_rfl
 i173 := by kernel_rfl
 i212 := by kernel_rfl
 i232 := by kernel_rfl
 i233 := by kernel_rfl
 m17 := by kernel_rfl
 m18 := by kernel_rfl
 m19 := by kernel_rfl }
end Go.Proofs
namespace Go.Proofs.YtjaodmndkpalkaaGreatDoor
open Go.Av Go.Shelf
theorem itoa_small (G : Glob) (i : Nat) (hi : i < 100) : PureC Tryz.prog G 59 [dNum i] (dS (Lib.decDigits i)) := by
 refine PureC.of_calls (Fun.of Tryz.func59 rfl rfl) fun X w vs hsz hrd hgl => ?_
 obtain ⟨u, rfl⟩ : ∃ u, vs = #[u] := by
  match vs, hsz with
  | ⟨[u]⟩, _ => exact ⟨u, rfl⟩
 have hu := (hrd 0 u _ rfl rfl).scalar
 subst hu
 have hL : Lays.n171 Tryz.prog Tryz.lays171_ren := { Tryz.lays171 with }
 refine (Any.strconv_Itoa_small hL i hi w).mono fun e w' ⟨he, hw⟩ => ⟨_, he, by rw [hw]; exact Grew.refl _, ?_⟩; exact .v _
end Go.Proofs.YtjaodmndkpalkaaGreatDoor
namespace Go.Proofs.YtjaodmndkpalkaaGreatDoor
open Go.Av
theorem binS_add (a b : List UInt8) : binS .add (bs a) (bs b) = some (a.length + b.length ≤ 9223372036854775807, .string (bs (a ++ b))) := by
 unfold binS; simp only [bs_size, bs_append]
abbrev dig (n : Nat) : List UInt8 := Lib.decDigits n
theorem dig_len {n : Nat} (h : n < 100) : (dig n).length ≤ 2 := by
 have : ∀ k : Fin 100, (Lib.decDigits k.val).length ≤ 2 := by decide +kernel
 exact this ⟨n, h⟩
theorem lx32 : (⟨#[32]⟩ : ByteArray) = bs [32] := rfl
theorem lx10 : (⟨#[10]⟩ : ByteArray) = bs [10] := rfl
theorem itoaI_spec (G : Glob) (i : Int) (h : 0 ≤ i ∧ i < 100) : PureC Tryz.prog G 59 [.v (.int .i64 i)] (.v (.string (bs (dig i.toNat)))) := by
 have := itoa_small G i.toNat (by omega)
 rwa [dNum, Int.toNat_of_nonneg h.1] at this
set_option maxHeartbeats 2000000 in
theorem told_spec (G : Glob) (n : Int) (h : 0 ≤ n ∧ n < 100) : PureC Tryz.prog G 82 [.sl none [[.v (.int .i64 n)]]] (.v (.string (bs (dig n.toNat)))) := by
 have hI := itoaI_spec G n h
 have hd := dig_len (n := n.toNat) (by omega)
 have hj := join_spec G [dig n.toNat] [32] (by simp [Lib.join_one]; omega) (by simp)
 rw [Lib.join_one] at hj; simp only [List.map_cons, List.map_nil, dS] at hj; generalize dig n.toNat = tx at hI hd hj; refine PureC.of_body (tyOf_good _) Tryz.func82 rfl rfl (rs := [.tmp 2]) Tryz.results82 (by simp [Tryz.ntmps82]) fun X => ?_; simp only [Tryz.ntmps82, List.map]; refine rg0 [0] [] ?_; refine rg0 [0,3] [] ?_; refine AW_then fun K1 hK1 => ?_; refine rg0 [3,6,7,8] [] ?_; refine AW_for (S := Nat) (fun i => i ≤ 1) (fun i => ⟨lst [(3, .own 300 0 i), (6, .d (.sl none [[.v (.int .i64 n)]])), (7, int 1), (8, int i)], hlst [(300, .sl 9 1 (List.take i [[.v (.string (bs tx))]]))]⟩) (fun i => 1 - i) 0 ?_ (by simp) ?_
 ·refine (Imp.adopt 3 300 9 1 rfl rfl).trans ?_; refine Imp.to' (fun _ _ => trivial) (by simp) (by simp)
 ·intro i hi
  refine rg0 [3,6,7,8,9] [300] ?_; refine AW_then fun K2 hK2 => ?_; refine AW_cond' (b := i < 1) (by simp; omega) (fun hc => ?_) (fun hc => ?_)
  ·obtain rfl : i = 0 := by omega
   refine AW_skip (hK2 _ ?_); refine AW_then fun K3 hK3 => ?_; refine AW_block ?_; refine rg0 [3,5,6,7,8] [300] ?_; refine AW_re (tyOf_good _) fun K' hK' => ?_; (repeat (refine sxn fun K2 hK2 => ?_; simp; (repeat (refine ⟨by omega, ?_⟩)); refine hK2 _ ?_; clear hK2 K2)); refine sxn fun K2 hK2 => ?_; simp; refine callK.data (hI) (by simp; rfl) (by first | exact D.leGo_refl _ | simp [takeMap, List.map_map, Function.comp_def, D.le, D.le.go, D.le_refl, D.leGo_refl]) ?_; refine hK2 _ ?_; clear hK2 K2; simp only [putd, upd_lst]; (repeat (refine sxn fun K2 hK2 => ?_; simp; (repeat (refine ⟨by omega, ?_⟩)); refine hK2 _ ?_; clear hK2 K2)); refine sxz (hK' _ ?_); clear hK' K'; refine hK3 _ (AW.norm [3, 6, 7, 8] [300] (fun _ _ => trivial) (AW.st (by simp; rfl) ?_)); refine AW_re (tyOf_good _) fun K' hK' => ?_; (repeat (refine sxn fun K2 hK2 => ?_; simp; (repeat (refine ⟨by omega, ?_⟩)); refine hK2 _ ?_; clear hK2 K2)); refine sxz (hK' _ ?_); clear hK' K'; (try simp only [thn, inb]); refine Again.mk 1 (by omega) (by omega) ?_; refine Imp.to' (fun _ _ => trivial) (by simp) (by simp)
  ·obtain rfl : i = 1 := by omega
   refine AW_exit (hK1 _ ?_); refine AW.imp (Imp.freeze 300 trivial) ?_; refine AW.st (by simp; rfl) ?_
   have qf := @lx32
   refine rgcv hj [2] [] ?_; refine AW_ret ?_; simp [D.le, D.le.go, takeMap]
end Go.Proofs.YtjaodmndkpalkaaGreatDoor
namespace Go.Proofs.YtjaodmndkpalkaaGreatDoor
open Go.Av
def sbB (a : AV) (l : List UInt8) : List (Nat × Row) := [(500, .box 174 [a, .own 501 0 l.length]), (501, .sl 5 1 (l.map fun b => [.v (.int .u8 b.toNat)]))]
def SbA (a : AV) : Prop := a = .d (.v (.pointer none)) ∨ a = .ref 500 0 0
section
variable {X Mv : Nat → Prop} {w w' : World} {μ : Mu} {H : Heap}
theorem sim_write (hs : Sim w X μ H) {r b : Nat} {m : MRow} (hm : μ r = some m) (hb : m.blk = some b) (hz : w'.heap.size = w.heap.size) (ho : w'.os = w.os) (ht : w'.tape = w.tape) (hout : w'.output = w.output)
  (hsame : ∀ k, k ≠ b → w'.heap[k]? = w.heap[k]?) {row : Row} (ok : Ev Mv w μ w' μ → RowOk w' X μ m row) : Sim w' X μ (hup H r row) ∧ Ev Mv w μ w' μ := by
 have ev : Ev Mv w μ w' μ := ⟨by omega, ho, ht, hout, fun k hk hr => ⟨hsame k fun e => hr ⟨r, m, hm, e ▸ hb⟩, hr⟩, fun _ _ h _ => h⟩
 have ok := ok ev
 refine ⟨⟨fun q row' hq => ?_, fun q m' hq => ?_, hs.inj, hs.frame, fun b hb => by have := hs.fits b hb; omega⟩, ev⟩
 ·dsimp only [hup] at hq
  split at hq
  ·rename_i e
   subst e
   obtain rfl := Option.some.inj hq
   exact ⟨m, hm, ok⟩
  ·rename_i e
   obtain ⟨m', hm', ok'⟩ := hs.rows q row' hq
   exact ⟨m', hm', ok'.same ev (fun _ _ h => h) fun k hk => hsame k fun e' => e (hs.inj q r m' m k hm' hm hk (e' ▸ hb))⟩
 ·by_cases e : q = r
  ·exact ⟨row, by simp [hup, e]⟩
  ·obtain ⟨row', hr'⟩ := hs.dom q m' hq
   exact ⟨row', by simp [hup, e, hr']⟩
end
theorem copyCheck_mc (G : Glob) (a : AV) (ha : SbA a) (l : List UInt8) : MC Tryz.prog G [500, 501] 140 [.ref 500 0 0] (hlst (sbB a l)) (.d (.tup [])) (hlst (sbB (.ref 500 0 0) l)) := by
 refine ⟨Fun.of Tryz.func140 rfl rfl, fun X w μ vs hs hgl hsz hv => ?_⟩
 obtain ⟨v, rfl⟩ : ∃ v, vs = #[v] := by
  match vs, hsz with
  | ⟨[v]⟩, _ => exact ⟨v, rfl⟩
 obtain ⟨m, b, hm, hb, rfl⟩ := (hv 0 v _ rfl rfl).ref_inv
 rw [Nat.zero_mul, Nat.zero_add]
 have hL : Lays.n240 Tryz.prog Tryz.lays156_ren := { Tryz.lays156 with }
 obtain ⟨m', hm', ok⟩ := hs.rows 500 (.box 174 [a, .own 501 0 l.length]) rfl
 rw [hm] at hm'
 obtain rfl := Option.some.inj hm'
 cases ok with
 | box hb' hs9 hcap hh hn hr hx =>
  rename_i b' cur
  rw [hb] at hb'
  obtain rfl := Option.some.inj hb'
  have hcs : cur.size = 2 := (hx rfl).symm
  obtain ⟨x0, x1, rfl⟩ : ∃ x0 x1, cur = #[x0, x1] := by
   match cur, hcs with
   | ⟨[x0, x1]⟩, _ => exact ⟨x0, x1, rfl⟩
  have h0 := hr 0 x0 a rfl rfl
  have hbl : b < w.heap.size := hs.blk_lt ⟨500, m, hm, hb⟩
  rcases ha with rfl | rfl
  ·have hc0 : x0 = .pointer none := h0.scalar
   subst hc0; refine (Any.Builder_copyCheck_fresh hL Tryz.Builder_Extra_156.toX72 b w (by rw [Lib.cell_of_heap hh]; rfl) (by simp [World.shape?, hh]; rfl) (Lib.frozen_of_heap hh 0)).mono fun e w' ⟨he, hw⟩ => ?_; subst hw
   have hh' : (w.setCell ⟨b, 0, none⟩ (.pointer (some ⟨b, 0, none⟩))).heap[b]? = some (.cells #[.pointer (some ⟨b, 0, none⟩), x1] 174 (0, 0)) := by
    simp [World.setCell, Array.getElem?_modify, hh]
   obtain ⟨h1, h2⟩ := sim_write (Mv := notIn [500, 501]) (w' := w.setCell ⟨b, 0, none⟩ (.pointer (some ⟨b, 0, none⟩))) hs hm hb (by simp [World.setCell]) rfl rfl rfl (fun k hk => by simp [World.setCell, Array.getElem?_modify, Ne.symm hk]) (row := .box 174 [.ref 500 0 0, .own 501 0 l.length]) fun ev =>
    .box hb rfl hcap hh' (by simp) (hx := fun _ => rfl) fun j u c hu hc => by
     match j, hu, hc with
     | 0, hu, hc =>
      simp at hu hc; subst hu hc
      have := RV.ref (w := w.setCell ⟨b, 0, none⟩ (.pointer (some ⟨b, 0, none⟩))) (X := X) (e := 0) (j := 0) hm hb
      simpa using this
     | 1, hu, hc => exact (hr 1 u c (by simpa using hu) hc).same ev fun _ _ h => h
     | j + 2, hu, hc => simp at hc
   have hH : hup (hlst (sbB (.d (.v (.pointer none))) l)) 500 (.box 174 [.ref 500 0 0, .own 501 0 l.length]) = hlst (sbB (.ref 500 0 0) l) := by
    funext q
    by_cases h : q = 500
    ·subst h; rfl
    ·have hq : (q == 500) = false := by simpa using h
     simp only [hup, if_neg h, sbB, hlst, List.lookup, hq]
   rw [hH] at h1; exact ⟨_, _, _, μ, he, ⟨rfl, rfl⟩, .d (.tup rfl fun j u c hu hc => by simp at hu), h1, h2⟩
  ·obtain ⟨m2, b2, hm2, hb2, hc0⟩ := h0.ref_inv
   rw [hm] at hm2
   obtain rfl := Option.some.inj hm2
   rw [hb] at hb2
   obtain rfl := Option.some.inj hb2
   rw [Nat.zero_mul, Nat.zero_add] at hc0; subst hc0; refine (Any.Builder_copyCheck_used hL Tryz.Builder_Extra_156.toX72 b w (by rw [Lib.cell_of_heap hh]; rfl)).mono fun e w' ⟨he, hw⟩ => ?_; subst hw; exact ⟨_, _, _, μ, he, ⟨rfl, rfl⟩, .d (.tup rfl fun j u c hu hc => by simp at hu), hs, .refl _ _ _⟩
end Go.Proofs.YtjaodmndkpalkaaGreatDoor
namespace Go.Proofs.YtjaodmndkpalkaaGreatDoor
open Go.Av
theorem byteEls_bs (s : List UInt8) : byteEls (bs s) = s.map fun b => [D.v (.int .u8 b.toNat)] := rfl
set_option maxHeartbeats 4000000 in
theorem wstr_mc (G : Glob) (a : AV) (ha : SbA a) (l s : List UInt8) (hn : l.length + s.length ≤ 2^40) : MC Tryz.prog G [500] 79 [.ref 500 0 0, .d (dS s)] (hlst (sbB a l)) (.d (.tup [dNum s.length, .v .nilIface])) (hlst (sbB (.ref 500 0 0) (l ++ s))) := by
 have hcc := copyCheck_mc G a ha l
 simp only [sbB] at hcc ⊢
 have htk : List.take l.length (l.map fun b => [D.v (.int .u8 b.toNat)]) = l.map fun b => [D.v (.int .u8 b.toNat)] := List.take_of_length_le (by simp)
 rcases ha with rfl | rfl
 ·refine MC.of_body (tyOf_good _) Tryz.func79 rfl rfl (rs := [.tmp 4, .tmp 5]) Tryz.results79 (by simp [Tryz.ntmps79]) rfl fun X => ?_; simp only [Tryz.ntmps79]
  have fw := (Aq @dNum.eq_1 @dS.eq_1)
  refine rgq fw [0,1] [500,501] ?_; refine rgm fw hcc [0,1] [500,501] ?_
  have qf := (Aq fw (Aq @byteEls_bs (Aq @bs_size @htk)))
  refine rgqv [1] [500,501] ?_
  have qf := (Aq fw @bs_size)
  refine rgqv [4,5] [500,501] ?_; refine AW_ret ?_; simp [D.le, D.le.go, takeMap, dNum, dS, dNum, D.le_refl]
 ·refine MC.of_body (tyOf_good _) Tryz.func79 rfl rfl (rs := [.tmp 4, .tmp 5]) Tryz.results79 (by simp [Tryz.ntmps79]) rfl fun X => ?_; simp only [Tryz.ntmps79]
  have fw := (Aq @dNum.eq_1 @dS.eq_1)
  refine rgq fw [0,1] [500,501] ?_; refine rgm fw hcc [0,1] [500,501] ?_
  have qf := (Aq fw (Aq @byteEls_bs (Aq @bs_size @htk)))
  refine rgqv [1] [500,501] ?_
  have qf := (Aq fw @bs_size)
  refine rgqv [4,5] [500,501] ?_; refine AW_ret ?_; simp [D.le, D.le.go, takeMap, dNum, dS, dNum, D.le_refl]
end Go.Proofs.YtjaodmndkpalkaaGreatDoor
namespace Go.Proofs.YtjaodmndkpalkaaGreatDoor
open Go.Av Go.Shelf Go.RowKit
section
variable {P : Program} {ρ : Ren}
set_option maxHeartbeats 2000000 in
set_option maxRecDepth 100000 in
theorem str_some (L : Lays.n169 P ρ) (E : Builder.Extra P ρ) (b g cap : Nat) (p : Value) (cur : Array Value) (l : List UInt8) (h0 : l ≠ []) (w : World)
  (hbk : w.heap[b]? = some (.cells #[p, .slice (some ⟨g, 0, none⟩) l.length cap] (ρ.t 72) (0, 0))) (hg : w.heap[g]? = some (.cells cur (ρ.t 5) (0, 0))) (hn : l.length ≤ cap) (hcm : cap ≤ maxLen) (hcs : cur.size = cap)
  (hcell : ∀ (j : Nat) x, l[j]? = some x → cur[j]? = some (.int .u8 x.toNat)) :
  Calls P (ρ.f 169) #[.pointer (some ⟨b, 0, none⟩)] w fun e w' => e = .returned (.string ⟨l.toArray⟩) ∧ w' = w.drew.freeze ⟨g, 0, none⟩ l.length := by
 have hg' : w.drew.heap[g]? = some (.cells cur (ρ.t 5) (0, 0)) := hg
 have c1 : w.drew.cell? ⟨b, 1, none⟩ = some (.slice (some ⟨g, 0, none⟩) l.length cap) := by
  have : w.drew.heap[b]? = some (.cells #[p, .slice (some ⟨g, 0, none⟩) l.length cap] (ρ.t 72) (0, 0)) := hbk
  rw [Lib.cell_of_heap this]; rfl
 have hlp := List.length_pos_iff.2 h0
 have hSD : (Builtin.unsafeSliceData_ #[(ρ.t 37)] (ρ.t 127) #[.slice (some ⟨g, 0, none⟩) l.length cap]).run P w.drew = .ok (.pointer (some ⟨g, 0, none⟩)) w.drew :=
  Lib.run_unsafeSliceData_row _ _ _ _ _ _ (by omega)
 have hUS : (Builtin.unsafeString_ #[(ρ.t 127), (ρ.t 3)] (ρ.t 9) #[.pointer (some ⟨g, 0, none⟩), .int .i64 l.length]).run P w.drew = .ok (.string ⟨l.toArray⟩) (w.drew.freeze ⟨g, 0, none⟩ l.length) := by
  refine Lib.run_unsafeString_row w.drew (ρ.t 127) (ρ.t 3) (ρ.t 9) (ρ.t 5) L.t127 E.cellsByte g cur.size (by simp [World.shape?, hg']) l h0 (by omega) (by unfold maxLen at hcm; omega) fun j x hx => ?_; rw [addr_add, cell_of_row w.drew g _ cur (ρ.t 5) (0, 0) hg']; simpa using hcell j x hx
 have mixed := L.mixed
 have t72 := L.t72; have a72 := L.a72; have z72 := L.z72; have v72 := L.v72; have u72 := run_underlying L.t72
 have t70 := L.t70; have a70 := L.a70; have z70 := L.z70; have v70 := L.v70; have u70 := run_underlying L.t70
 have t37 := L.t37; have a37 := L.a37; have z37 := L.z37; have v37 := L.v37; have u37 := run_underlying L.t37
 have t127 := L.t127; have a127 := L.a127; have z127 := L.z127; have v127 := L.v127; have u127 := run_underlying L.t127
 have t3 := L.t3; have a3 := L.a3; have z3 := L.z3; have v3 := L.v3; have u3 := run_underlying L.t3
 have t9 := L.t9; have a9 := L.a9; have z9 := L.z9; have v9 := L.v9; have u9 := run_underlying L.t9
 have t5 := E.t5; have a5 := E.a5; have z5 := E.z5; have v5 := E.v5; have u5 := run_underlying E.t5
 go_enter L.f169, Body.n169_ntmps ρ
 go_wp2
 go_region_o
 all_goals (go_wp2; go_ret; exact ⟨rfl, rfl⟩)
end
theorem string_mc (G : Glob) (a : AV) (l : List UInt8) : MC Tryz.prog G [] 81 [.ref 500 0 0] (hlst (sbB a l)) (.d (dS l)) hno := by
 refine ⟨Fun.of Tryz.func81 rfl rfl, fun X w μ vs hs hgl hsz hv => ?_⟩
 obtain ⟨v, rfl⟩ : ∃ v, vs = #[v] := by
  match vs, hsz with
  | ⟨[v]⟩, _ => exact ⟨v, rfl⟩
 obtain ⟨m, b, hm, hb, rfl⟩ := (hv 0 v _ rfl rfl).ref_inv
 rw [Nat.zero_mul, Nat.zero_add]
 have hL : Lays.n169 Tryz.prog Tryz.lays156_ren := { Tryz.lays156 with }
 have fin : ∀ w' : World, w.heap.size ≤ w'.heap.size → w'.os = w.os → w'.tape = w.tape → w'.output = w.output → (∀ k, k < w.heap.size → ¬ ran μ k → w'.heap[k]? = w.heap[k]?) →
   Sim w' X (fun _ => none) hno ∧ Ev (notIn []) w μ w' (fun _ => none) := fun w' h1 ho ht hout hk =>
  ⟨Sim.none fun b hb => Nat.lt_of_lt_of_le (hs.fits b hb) h1, ⟨h1, ho, ht, hout, fun k hk' hr => ⟨hk k hk' hr, fun ⟨_, _, h, _⟩ => by cases h⟩, fun q m _ hn => absurd rfl hn⟩⟩
 obtain ⟨m', hm', ok⟩ := hs.rows 500 (.box 174 [a, .own 501 0 l.length]) rfl
 rw [hm] at hm'
 obtain rfl := Option.some.inj hm'
 cases ok with
 | box hb' hs9 hcap hh hn hr hx =>
  rename_i b' cur
  rw [hb] at hb'
  obtain rfl := Option.some.inj hb'
  have hcs : cur.size = 2 := (hx rfl).symm
  obtain ⟨x0, x1, rfl⟩ : ∃ x0 x1, cur = #[x0, x1] := by
   match cur, hcs with
   | ⟨[x0, x1]⟩, _ => exact ⟨x0, x1, rfl⟩
  obtain ⟨m5, hm5, hown⟩ := (hr 1 x1 (.own 501 0 l.length) rfl rfl).own_inv
  obtain ⟨m6, hm6, ok5⟩ := hs.rows 501 (.sl 5 1 (l.map fun b => [.v (.int .u8 b.toNat)])) rfl
  rw [hm5] at hm6
  obtain rfl := Option.some.inj hm6
  rcases hown with ⟨hbk, rfl, _, hl0⟩ | ⟨g, hbk, rfl, hl1⟩
  ·have hl : l = [] := List.eq_nil_of_length_eq_zero hl0
   subst hl; refine (Any.Builder_String_nil hL Tryz.Builder_Extra_156 w.heap.size b x0 w hh).mono fun e w' ⟨he, hbl⟩ => ?_
   obtain ⟨h1, h2⟩ := fin w' hbl.size hbl.os hbl.tape hbl.output fun k hk _ => hbl.block k hk
   exact ⟨_, _, _, _, he, ⟨rfl, rfl⟩, .d (.v _), h1, h2⟩
  ·generalize hels : (l.map fun b => [D.v (.int .u8 b.toNat)]) = els at ok5
   cases ok5 with
   | nil h _ => rw [h] at hbk; cases hbk
   | sl hb5 hs5 hh5 hc5 hn5 hm5' hl5 hz5 hr5 =>
    rename_i g' cur5
    rw [hbk] at hb5
    obtain rfl := Option.some.inj hb5
    rw [hs5, Nat.zero_mul, Nat.sub_zero] at hh
    by_cases h0 : l = []
    ·subst h0
     by_cases hc0 : m5.cap = 0
     ·rw [hc0] at hh; refine (Any.Builder_String_noroom hL Tryz.Builder_Extra_156 w.heap.size b g x0 cur5 w (Nat.le_refl _) hh hh5).mono fun e w' ⟨he, hbl⟩ => ?_
      obtain ⟨h1, h2⟩ := fin w' hbl.size hbl.os hbl.tape hbl.output fun k hk _ => hbl.block k hk
      exact ⟨_, _, _, _, he, ⟨rfl, rfl⟩, .d (.v _), h1, h2⟩
     ·refine (Any.Builder_String_room hL Tryz.Builder_Extra_156 w.heap.size b g m5.cap x0 w hc0 hh).mono fun e w' ⟨he, hbl⟩ => ?_
      obtain ⟨h1, h2⟩ := fin w' hbl.size hbl.os hbl.tape hbl.output fun k hk _ => hbl.block k hk
      exact ⟨_, _, _, _, he, ⟨rfl, rfl⟩, .d (.v _), h1, h2⟩
    ·refine (str_some hL Tryz.Builder_Extra_156 b g m5.cap x0 cur5 l h0 w hh hh5 (by omega) hm5' (by omega) fun j x hx => ?_).mono fun e w' ⟨he, hw⟩ => ?_
     ·obtain ⟨u, hu, hrd⟩ := hr5 j 0 [.v (.int .u8 x.toNat)] _ (by rw [← hels, List.getElem?_map, hx]; rfl) rfl
      rw [Nat.mul_one, Nat.add_zero] at hu; rw [hu, hrd.scalar]
     ·subst hw
      have hsz9 : (w.drew.freeze ⟨g, 0, none⟩ l.length).heap.size = w.drew.heap.size := by simp [World.freeze, h0]
      have hos9 : (w.drew.freeze ⟨g, 0, none⟩ l.length).os = w.os ∧ (w.drew.freeze ⟨g, 0, none⟩ l.length).tape = w.tape ∧ (w.drew.freeze ⟨g, 0, none⟩ l.length).output = w.output := by
       simp only [World.freeze, List.length_eq_zero_iff, h0, if_false]; exact ⟨rfl, rfl, rfl⟩
      obtain ⟨h1, h2⟩ := fin (w.drew.freeze ⟨g, 0, none⟩ l.length) (Nat.le_of_eq hsz9.symm) hos9.1 hos9.2.1 hos9.2.2 fun k hk hr => by
       have hne : k ≠ g := fun e => hr ⟨501, m5, hm5, e ▸ hbk⟩
       have e : (w.drew.freeze ⟨g, 0, none⟩ l.length).heap[k]? = w.drew.heap[k]? := by simp [World.freeze, h0, Array.getElem?_modify, Ne.symm hne]
       exact e
      exact ⟨_, _, _, _, he, ⟨rfl, rfl⟩, .d (.v _), h1, h2⟩
end Go.Proofs.YtjaodmndkpalkaaGreatDoor
namespace Go.Proofs.YtjaodmndkpalkaaGreatDoor
open Go.Av
set_option maxHeartbeats 4000000 in
theorem wbyte_mc (G : Glob) (a : AV) (ha : SbA a) (l : List UInt8) (c : UInt8) (hn : l.length + 1 ≤ 2^40) : MC Tryz.prog G [500] 80 [.ref 500 0 0, .d (.v (.int .u8 c.toNat))] (hlst (sbB a l)) (.d (.v .nilIface)) (hlst (sbB (.ref 500 0 0) (l ++ [c]))) := by
 have hcc := copyCheck_mc G a ha l
 simp only [sbB] at hcc ⊢
 have htk : List.take l.length (l.map fun b => [D.v (.int .u8 b.toNat)]) = l.map fun b => [D.v (.int .u8 b.toNat)] := List.take_of_length_le (by simp)
 rcases ha with rfl | rfl
 ·refine MC.of_body (tyOf_good _) Tryz.func80 rfl rfl (rs := [.tmp 4]) Tryz.results80 (by simp [Tryz.ntmps80]) rfl fun X => ?_; simp only [Tryz.ntmps80]
  have fw := (Aq @dNum.eq_1 @dS.eq_1)
  refine rgq fw [0,1] [500,501] ?_; refine rgm fw hcc [0,1] [500,501] ?_
  have qf := (Aq fw @htk)
  refine rgqv [] [500,501] ?_; refine rgq fw [4] [500,501] ?_; refine AW_ret ?_; simp [D.le, D.le.go, takeMap, dNum, dS, D.le_refl]
 ·refine MC.of_body (tyOf_good _) Tryz.func80 rfl rfl (rs := [.tmp 4]) Tryz.results80 (by simp [Tryz.ntmps80]) rfl fun X => ?_; simp only [Tryz.ntmps80]
  have fw := (Aq @dNum.eq_1 @dS.eq_1)
  refine rgq fw [0,1] [500,501] ?_; refine rgm fw hcc [0,1] [500,501] ?_
  have qf := (Aq fw @htk)
  refine rgqv [] [500,501] ?_; refine rgq fw [4] [500,501] ?_; refine AW_ret ?_; simp [D.le, D.le.go, takeMap, dNum, dS, D.le_refl]
end Go.Proofs.YtjaodmndkpalkaaGreatDoor
namespace Go.Proofs.YtjaodmndkpalkaaGreatDoor
open Go.Av
def txB (l : List UInt8) : List (List D) := l.map fun b => [.v (.int .u8 b.toNat)]
theorem txB_nil : txB [] = [] := rfl
theorem wS (G : Glob) (c s c' : List UInt8) (h : c' = c ++ s) (hn : c.length + s.length ≤ 2^40) : MC Tryz.prog G [500] 79 [.ref 500 0 0, .d (.v (.string (bs s)))] (hlst [(500, .box 174 [.ref 500 0 0, .own 501 0 (c).length]), (501, .sl 5 1 (txB (c)))]) (.d (.tup [dNum s.length, .v .nilIface])) (hlst [(500, .box 174 [.ref 500 0 0, .own 501 0 (c').length]), (501, .sl 5 1 (txB (c')))]) := by
 subst h; exact wstr_mc G (.ref 500 0 0) (.inr rfl) c s hn
theorem wS0 (G : Glob) (s : List UInt8) (hn : s.length ≤ 2^40) : MC Tryz.prog G [500] 79 [.ref 500 0 0, .d (.v (.string (bs s)))] (hlst [(500, .box 174 [.d (.v (.pointer none)), .own 501 0 0]), (501, .sl 5 1 [])]) (.d (.tup [dNum s.length, .v .nilIface])) (hlst [(500, .box 174 [.ref 500 0 0, .own 501 0 (s).length]), (501, .sl 5 1 (txB (s)))]) :=
 wstr_mc G (.d (.v (.pointer none))) (.inl rfl) [] s (by simpa using hn)
theorem wB (G : Glob) (c : List UInt8) (b : UInt8) (c' : List UInt8) (h : c' = c ++ [b]) (hn : c.length + 1 ≤ 2^40) : MC Tryz.prog G [500] 80 [.ref 500 0 0, .d (.v (.int .u8 b.toNat))] (hlst [(500, .box 174 [.ref 500 0 0, .own 501 0 (c).length]), (501, .sl 5 1 (txB (c)))]) (.d (.v .nilIface)) (hlst [(500, .box 174 [.ref 500 0 0, .own 501 0 (c').length]), (501, .sl 5 1 (txB (c')))]) := by
 subst h; exact wbyte_mc G (.ref 500 0 0) (.inr rfl) c b hn
theorem ub10 : (10 : UInt8).toNat = 10 := rfl
end Go.Proofs.YtjaodmndkpalkaaGreatDoor
namespace Go.Proofs.YtjaodmndkpalkaaGreatDoor
open Go.Av
def headN (k : Int) : List UInt8 := if k = 1 then [105, 110, 112, 117, 116, 32] else if k = 2 then [99, 111, 105, 108, 32] else if k = 3 then [116, 105, 109, 101, 114, 32] else [99, 111, 117, 110, 116, 101, 114, 32]
def cntT (n : NmP) : List UInt8 := if 3 ≤ n.kind then 32 :: dig n.count.toNat else []
def nameT (n : NmP) : List UInt8 := headN n.kind ++ n.name ++ cntT n ++ [10]
def namesTx (l : List NmP) : List UInt8 := l.flatMap nameT
def headG (k : Int) : List UInt8 := if k = 1 then [] else if k = 2 then [115, 101, 116, 32] else if k = 3 then [114, 101, 115, 101, 116, 32] else if k = 4 then [114, 117, 110, 32] else if k = 5 then [99, 111, 117, 110, 116, 32] else [122, 101, 114, 111, 32]
def condT (c : Option Ex) : List UInt8 := match c with
 | none => []
 | some e => wrE e 0
def rungT (r : RgP) : List UInt8 := headG r.kind ++ r.name ++ [32, 61, 32] ++ condT r.cond ++ [10]
def rungsTx (l : List RgP) : List UInt8 := l.flatMap rungT
def progT (p : PgP) : List UInt8 := namesTx p.names ++ rungsTx p.rungs
structure TxP (p : PgP) : Prop where
 nm : ∀ n ∈ p.names, (1 ≤ n.kind ∧ n.kind ≤ 4) ∧ (0 ≤ n.count ∧ n.count < 100) ∧ n.name.length ≤ 2^10
 rg : ∀ r ∈ p.rungs, (1 ≤ r.kind ∧ r.kind ≤ 6) ∧ r.name.length ≤ 2^10 ∧ ∃ e, r.cond = some e ∧ bE e ≤ 2^28 ∧ WfE e
 nl : p.names.length ≤ 100
 rl : p.rungs.length ≤ 100
 ne : p.names = [] → p.rungs = []
theorem headN_len (k : Int) : 1 ≤ (headN k).length ∧ (headN k).length ≤ 8 := by
 unfold headN; repeat' split
 all_goals simp
theorem headG_len (k : Int) : (headG k).length ≤ 6 := by
 unfold headG; repeat' split
 all_goals simp
theorem nameT_len {n : NmP} (h : (0 ≤ n.count ∧ n.count < 100) ∧ n.name.length ≤ 2^10) : 1 ≤ (nameT n).length ∧ (nameT n).length ≤ 2^11 := by
 have h1 := headN_len n.kind
 have h2 := dig_len (n := n.count.toNat) (by omega)
 have h3 : (cntT n).length ≤ 3 := by unfold cntT; split <;> simp; omega
 simp only [nameT, List.length_append, List.length_cons, List.length_nil]
 omega
theorem wr0_bd (e : Ex) : (wrE e 0).length ≤ bE e := Nat.le_trans (wr_two e 0).1 (wr_len e)
theorem rungT_len {r : RgP} (h : r.name.length ≤ 2^10 ∧ ∃ e, r.cond = some e ∧ bE e ≤ 2^28 ∧ WfE e) : (rungT r).length ≤ 2^29 := by
 obtain ⟨h1, e, he, hb, _⟩ := h
 have h2 := headG_len r.kind
 have h3 := wr0_bd e
 simp only [rungT, List.length_append, List.length_cons, List.length_nil, he, condT]
 omega
theorem flatT_len {α : Type} {f : α → List UInt8} {m : Nat} : ∀ {l : List α}, (∀ a ∈ l, (f a).length ≤ m) → (l.flatMap f).length ≤ m * l.length
 | [], _ => by simp
 | a :: l, h => by
  have := flatT_len fun a ha => h a (List.mem_cons_of_mem _ ha)
  have := h a (by simp)
  rw [List.flatMap_cons, List.length_append, List.length_cons, Nat.mul_add]; omega
theorem flatT_succ {α : Type} {f : α → List UInt8} {l : List α} {i : Nat} (h : i < l.length) : (l.take (i + 1)).flatMap f = (l.take i).flatMap f ++ f l[i] := by
 rw [List.take_succ_eq_append_getElem h, List.flatMap_append]; simp
theorem take_in {α : Type} {l : List α} {i : Nat} {a : α} (h : a ∈ l.take i) : a ∈ l := List.mem_of_mem_take h
theorem namesTx_len {p : PgP} (h : TxP p) (i : Nat) : (namesTx (p.names.take i)).length ≤ 2^20 := by
 have := flatT_len (f := nameT) (m := 2^11) (l := p.names.take i) fun a ha => (nameT_len (h.nm a (take_in ha)).2).2
 have h2 := h.nl
 rw [List.length_take] at this
 have h3 : 2^11 * min i p.names.length ≤ 2^11 * 100 := Nat.mul_le_mul_left _ (by omega)
 unfold namesTx; omega
theorem rungsTx_len {p : PgP} (h : TxP p) (i : Nat) : (rungsTx (p.rungs.take i)).length ≤ 2^36 := by
 have := flatT_len (f := rungT) (m := 2^29) (l := p.rungs.take i) fun a ha => rungT_len (h.rg a (take_in ha)).2
 have h2 := h.rl
 rw [List.length_take] at this
 have h3 : 2^29 * min i p.rungs.length ≤ 2^29 * 100 := Nat.mul_le_mul_left _ (by omega)
 unfold rungsTx; omega
def heads7 : List D := [.v (.string (bs [])), .v (.string (bs [])), .v (.string (bs [115, 101, 116, 32])), .v (.string (bs [114, 101, 115, 101, 116, 32])), .v (.string (bs [114, 117, 110, 32])), .v (.string (bs [99, 111, 117, 110, 116, 32])), .v (.string (bs [122, 101, 114, 111, 32]))]
def HasHeads (G : Glob) : Prop := G 1 = some (.ip heads7)
def adB (c : List UInt8) : AV := if c = [] then .d (.v (.pointer none)) else .ref 500 0 0
theorem adB_nil : adB [] = .d (.v (.pointer none)) := rfl
theorem adB_ne {c : List UInt8} (h : c ≠ []) : adB c = .ref 500 0 0 := if_neg h
theorem adB_tr (c : List UInt8) (ns : List Nat) (h : ns.contains 500 = true) : AV.tr (onlyO ns) (onlyF ns) (adB c) = adB c := by
 unfold adB; split <;> simp [AV.tr, onlyO, onlyF]; simpa using h
theorem names_ne {p : PgP} (h : TxP p) (hr : p.rungs ≠ []) : namesTx p.names ≠ [] := fun e => by
 cases hn : p.names with
 | nil => exact hr (h.ne hn)
 | cons n l =>
  have h1 := (nameT_len (h.nm n (by rw [hn]; simp)).2).1
  rw [hn, namesTx, List.flatMap_cons] at e
  have := congrArg List.length e
  simp only [List.length_append, List.length_nil] at this
  omega
theorem namesTx_zero : namesTx [] = [] := rfl
theorem rungsTx_zero : rungsTx [] = [] := rfl
theorem aS (G : Glob) (c : List UInt8) : MC Tryz.prog G [] 81 [.ref 500 0 0] (hlst [(500, .box 174 [adB c, .own 501 0 (c).length]), (501, .sl 5 1 (txB (c)))]) (.d (.v (.string (bs c)))) (hlst []) := string_mc G (adB c) c
end Go.Proofs.YtjaodmndkpalkaaGreatDoor
namespace Go.Proofs.YtjaodmndkpalkaaGreatDoor
open Go.Av
set_option maxHeartbeats 1000000 in
theorem ldw_ix (G : Glob) (k0 : Option Bool) (t : List (List UInt8)) (s : List UInt8) (hs : s ≠ []) (ht : t.length < 2^60) : PureC Tryz.prog G 87 [.sl k0 (t.map fun x => [dS x]), dS s] (dNum (idx (fun x => x == s) t)) := by
 have hs0 : s.isEmpty = false := by rw [List.isEmpty_eq_false_iff]; exact hs
 refine PureC.of_body (tyOf_good _) Tryz.func87 rfl rfl (rs := [.tmp 4]) Tryz.results87 (by simp [Tryz.ntmps87]) fun X => ?_; simp only [Tryz.ntmps87, List.map]
 have fw := @dNum.eq_1
 refine rgq fw [0,1] [] ?_; refine AW_then fun K1 hK1 => ?_; refine rgq fw [1,7,8,9] [] ?_; refine AW_for (S := Nat) (fun n => n ≤ t.length ∧ ∀ i (hi : i < t.length), i < n → (t[i] == s) = false) (fun n => ⟨lst [(1, .d (dS s)), (7, .d (.sl k0 (t.map fun x => [dS x]))), (8, int t.length), (9, int n)], hlst []⟩) (fun n => t.length - n) 0 ?_ (by simp) ?_
 ·refine Imp.to' (fun _ _ => trivial) (by simp [dNum]) (by simp [dNum])
 ·rintro n ⟨hn, hp⟩
  refine rgq fw [1,7,8,9,10] [] ?_; refine AW_then fun K2 hK2 => ?_; refine AW_cond' (b := n < t.length) (by simp [D.le, D.le.go, takeMap, dNum]) (fun hc => ?_) (fun hc => ?_)
  ·have hnt : n < t.length := hc
   refine AW_skip (hK2 _ ?_); refine AW_then fun K3 hK3 => ?_; refine AW_block ?_
   have qf := (Aq fw @hnt)
   refine rgqv [1,5,6,7,8,9] [] ?_
   cases he : (t[n] == s) with
   | true =>
    have he2 : t[n] = s := by simpa using he
    refine rg [1, 5, 7, 8, 9, 20] [] (fun _ _ => trivial) fun K' hK' => ?_; (repeat (refine sxn fun K2 hK2 => ?_; simp [dNum, dS, he2, binS, bs_nil, bs_list, hs, hs0]; (repeat (refine ⟨by omega, ?_⟩)); refine hK2 _ ?_; clear hK2 K2)); refine sxz (hK' _ (AW.st (by simp [dNum, dS, he2, binS, bs_nil, bs_list, hs, hs0]; rfl) ?_)); clear hK' K'; refine AW_tt rfl ?_; refine rgq fw [4] [] ?_; refine AW_ret ?_; simp [D.le, D.le.go, takeMap, dNum]; exact (idx_hit hnt he fun i hi => hp i (by omega) hi).symm
   | false =>
    have he2 : ¬ t[n] = s := by simpa using he
    refine rg [1, 5, 7, 8, 9, 20] [] (fun _ _ => trivial) fun K' hK' => ?_; (repeat (refine sxn fun K2 hK2 => ?_; simp [dNum, dS, he, he2, binS, bs_nil, bs_list]; (repeat (refine ⟨by omega, ?_⟩)); refine hK2 _ ?_; clear hK2 K2)); refine sxz (hK' _ (AW.st (by simp [dNum, dS, he, he2, binS, bs_nil, bs_list]; rfl) ?_)); clear hK' K'; refine AW_ff rfl ?_; refine AW_skip ?_; refine hK3 _ (AW.norm [1, 7, 8, 9] [] (fun _ _ => trivial) (AW.st (by simp [dNum]; rfl) ?_)); refine AW_re (tyOf_good _) fun K' hK' => ?_; (repeat (refine sxn fun K2 hK2 => ?_; simp [dNum]; (repeat (refine ⟨by omega, ?_⟩)); refine hK2 _ ?_; clear hK2 K2)); refine sxz (hK' _ ?_); clear hK' K'; (try simp only [thn, inb]); refine Again.mk (n + 1) ⟨by omega, fun i hi hin => ?_⟩ (by omega) ?_
    ·by_cases h : i = n
     ·subst h; exact he
     ·exact hp i hi (by omega)
    refine Imp.to' (fun _ _ => trivial) (by simp [dNum, dS]) (by simp [dNum, dS])
  ·refine AW_exit (hK1 _ ?_); refine rgq fw [4] [] ?_; refine AW_ret ?_; simp [D.le, D.le.go, takeMap, dNum]; exact (idx_miss fun i hi => hp i hi (by omega)).symm
theorem edgN_len {p : PgP} (h : ∀ r ∈ p.rungs, ∃ e, r.cond = some e ∧ bE e ≤ 2^28) : ∀ {n : Nat}, n ≤ p.rungs.length → (edgN p n).length ≤ 2^28 * n
 | 0, _ => by simp [edgN]
 | n + 1, hn => by
  have ih := edgN_len h (n := n) (by omega)
  obtain ⟨e, he, hb⟩ := h p.rungs[n] (List.getElem_mem _)
  rw [edgN_succ (by omega), List.length_append]
  have : (edgR p p.rungs[n]).length ≤ 2^28 := by
   unfold edgR; rw [he, List.length_map]
   have h1 := Lib.compact_length_le (sortT (nmsE false e))
   have h2 := sortT_len (nmsE false e)
   have h3 := nms_len false e
   show (namesE false e).length ≤ _
   unfold namesE; omega
  omega
set_option maxHeartbeats 16000000 in
theorem ledges_spec (G : Glob) (p : PgP) (hnl : p.names.length < 2^62) (hrl : p.rungs.length ≤ 100) (hg : ∀ r ∈ p.rungs, ∃ e, r.cond = some e ∧ bE e ≤ 2^28) : PureC Tryz.prog G 28 [dPg p] (.sl none ((Lib.compact (sortI (edgN p p.rungs.length))).map fun x => [.v (.int .i64 x)])) := by
 have hnum := fun s => lc_num G p hnl s
 have hlen := fun n hn => edgN_len (n := n) hg hn
 have hL := hlen _ (Nat.le_refl _)
 have hso := sortI_mc G 300 3 (edgN p p.rungs.length) (by omega)
 have hco := compactI_mc G 300 3 (sortI (edgN p p.rungs.length)) (by rw [sortI_len]; omega)
 rw [sortI_len] at hco
 have hcl := Lib.compact_length_le (sortI (edgN p p.rungs.length))
 rw [sortI_len] at hcl; generalize hLL : edgN p p.rungs.length = l at hso hco hcl hL ⊢; generalize sortI l = z at hso hco hcl ⊢
 have htk : List.take (Lib.compact z).length ((Lib.compact z ++ List.replicate (l.length - (Lib.compact z).length) 0).map fun s => [D.v (.int .i64 s)]) = (Lib.compact z).map fun s => [D.v (.int .i64 s)] := by
  rw [List.map_append, List.take_append_of_le_length (by simp), List.take_of_length_le (by simp)]
 have hyl : (Lib.compact z ++ List.replicate (l.length - (Lib.compact z).length) 0).length = l.length := by simp; omega
 generalize Lib.compact z ++ List.replicate (l.length - (Lib.compact z).length) 0 = y at hco htk hyl; generalize Lib.compact z = c at hco hcl htk ⊢; simp only [dPg, cPg, dNms, dRgs, dS] at hnum ⊢; refine PureC.of_body (tyOf_good _) Tryz.func28 rfl rfl (rs := [.tmp 2]) Tryz.results28 (by simp [Tryz.ntmps28]) fun X => ?_; simp only [Tryz.ntmps28, List.map]
 have fw := @dNum.eq_1
 refine rgq fw [1] [1] ?_; refine AW.imp (Imp.freezeB 1 trivial) ?_; refine AW.st (by simp [dNum]; rfl) ?_; refine rgq fw [1,3] [] ?_; refine AW_then fun K1 hK1 => ?_; refine rgq fw [1,3,9,10,11] [] ?_; refine AW_for (S := Nat) (fun i => i ≤ p.rungs.length) (fun i => ⟨lst [(1, .d (.ip [.sl none (p.names.map cNm), .sl none (p.rungs.map cRg)])), (3, .own 300 0 (edgN p i).length), (9, .d (.sl none (p.rungs.map cRg))), (10, int p.rungs.length), (11, int i)], hlst [(300, .sl 3 1 ((edgN p i).map fun x => [.v (.int .i64 x)]))]⟩) (fun i => p.rungs.length - i) 0 ?_ (by simp) ?_
 ·refine (Imp.adopt 3 300 3 1 rfl rfl).trans ?_; refine Imp.to' (fun _ _ => trivial) (by simp [dNum, edgN]) (by simp [dNum, edgN])
 ·intro i hi
  have hE1 := hlen i hi
  have hE2 : (edgN p i).length < 2^40 := by omega
  have hsuc := fun h => edgN_succ (p := p) (i := i) h
  have hfin : i = p.rungs.length → edgN p i = l := fun h => by rw [h]; exact hLL
  generalize hEE : edgN p i = E at hE2 hsuc hfin ⊢; refine rgq fw [1,3,9,10,11,12] [300] ?_; refine AW_then fun K2 hK2 => ?_; refine AW_cond' (b := i < p.rungs.length) (by simp [D.le, D.le.go, takeMap, dNum]) (fun hc => ?_) (fun hc => ?_)
  ·have hlt := hc
   obtain ⟨e, he, hb⟩ := hg _ (List.getElem_mem hlt)
   have hs2 := hsuc hlt
   have hcr : cRg p.rungs[i] = [.v (.int .i64 p.rungs[i].kind), .v (.string (bs p.rungs[i].name)), dC p.rungs[i].cond] := rfl
   have hed := edgesE_spec G e hb
   have hnl2 : (namesE false e).length ≤ 2^28 := by
    have h1 := Lib.compact_length_le (sortT (nmsE false e))
    have h2 := sortT_len (nmsE false e)
    have h3 := nms_len false e
    unfold namesE; omega
   unfold edgR at hs2; rw [he] at hs2 hcr; simp only [dC, dS] at hs2 hcr hed
   obtain ⟨ta, ca, hta⟩ := dE_ifc e
   rw [hta] at hcr hed; generalize namesE false e = ns at hs2 hed hnl2; generalize p.rungs[i].kind = kd at hcr; generalize p.rungs[i].name = nm at hcr; refine AW_skip (hK2 _ ?_); refine AW_then fun K3 hK3 => ?_; refine AW_block ?_
   have qf := (Aq fw (Aq @hlt @hcr))
   refine rgqv [1,3,5,9,10,11] [300,5] ?_; refine AW.imp (Imp.freezeB 5 trivial) ?_; refine AW.st (by simp [dNum]; rfl) ?_; refine rgc fw hed [1,3,9,10,11,17,18,19] [300] ?_
   obtain ⟨AA, hAA⟩ : ∃ f : Nat → List Int, f = fun j => E ++ (ns.take j).map (numP p) := ⟨_, rfl⟩
   have hA0 : AA 0 = E := by rw [hAA]; simp
   have hAe : AA ns.length = E ++ ns.map (numP p) := by rw [hAA]; simp
   have hAs0 : ∀ j (h : j < ns.length), AA (j + 1) = AA j ++ [numP p ns[j]] := fun j h => by rw [hAA]; dsimp only; rw [List.take_succ_eq_append_getElem h, List.map_append, List.append_assoc]; rfl
   have hAl0 : ∀ j, (AA j).length < 2^41 := fun j => by rw [hAA]; dsimp only; rw [List.length_append, List.length_map, List.length_take]; omega
   clear hAA; refine AW_for (S := Nat) (fun j => j ≤ ns.length) (fun j => ⟨lst [(1, .d (.ip [.sl none (p.names.map cNm), .sl none (p.rungs.map cRg)])), (3, .own 300 0 (AA j).length), (9, .d (.sl none (p.rungs.map cRg))), (10, int p.rungs.length), (11, int i), (17, .d (.sl none (ns.map fun s => [.v (.string (bs s))]))), (18, int ns.length), (19, int j)], hlst [(300, .sl 3 1 ((AA j).map fun x => [.v (.int .i64 x)]))]⟩) (fun j => ns.length - j) 0 ?_ (by simp) ?_
   ·refine Imp.to' (fun _ _ => trivial) (by simp [dNum, hA0]) (by simp [dNum, hA0])
   ·intro j hj
    have hAs := hAs0 j
    have hAl := hAl0 j
    have hAend : j = ns.length → E ++ ns.map (numP p) = AA j := fun h => by rw [h, hAe]
    generalize hAA : AA j = A at hAs hAl hAend ⊢; refine rgq fw [1,3,9,10,11,17,18,19,20] [300] ?_; refine AW_then fun K4 hK4 => ?_; refine AW_cond' (b := j < ns.length) (by simp [D.le, D.le.go, takeMap, dNum]) (fun hc => ?_) (fun hc => ?_)
    ·have hjl := hc
     have hA2 := hAs hjl
     have hnj := hnum ns[j]
     generalize numP p ns[j] = z2 at hA2 hnj; refine AW_skip (hK4 _ ?_); refine AW_then fun K5 hK5 => ?_; refine AW_block ?_
     have qf := (Aq fw @hjl)
     refine rgqv [1,3,7,9,10,11,17,18,19] [300] ?_; refine AW_re (tyOf_good _) fun K' hK' => ?_; (repeat (refine sxn fun K2 hK2 => ?_; simp [dNum, List.take_of_length_le]; (repeat (refine ⟨by omega, ?_⟩)); refine hK2 _ ?_; clear hK2 K2)); refine sxn fun K2 hK2 => ?_; simp [dNum, List.take_of_length_le]; refine callK.data (hnj) (by simp; rfl) (by first | exact D.leGo_refl _ | simp [takeMap, List.map_map, Function.comp_def, D.le, D.le.go, D.le_refl, D.leGo_refl, dNum, List.take_of_length_le]) ?_; refine hK2 _ ?_; clear hK2 K2; simp only [putd, upd_lst]; (repeat (refine sxn fun K2 hK2 => ?_; simp [dNum, List.take_of_length_le]; (repeat (refine ⟨by omega, ?_⟩)); refine hK2 _ ?_; clear hK2 K2)); refine sxz (hK' _ ?_); clear hK' K'; refine hK5 _ (AW.norm [1, 3, 9, 10, 11, 17, 18, 19] [300] (fun _ _ => trivial) (AW.st (by simp [dNum, List.take_of_length_le]; rfl) ?_)); refine AW_re (tyOf_good _) fun K' hK' => ?_; (repeat (refine sxn fun K2 hK2 => ?_; simp [dNum]; (repeat (refine ⟨by omega, ?_⟩)); refine hK2 _ ?_; clear hK2 K2)); refine sxz (hK' _ ?_); clear hK' K'; (try simp only [thn, inb]); refine Again.mk (j + 1) (by omega) (by omega) ?_; refine Imp.to' (fun _ _ => trivial) (by simp [dNum, hA2]) (by simp [dNum, hA2])
    ·obtain rfl : j = ns.length := by omega
     rw [hAend rfl] at hs2; refine AW_exit (hK3 _ ?_); refine AW_re (tyOf_good _) fun K' hK' => ?_; (repeat (refine sxn fun K2 hK2 => ?_; simp [dNum]; (repeat (refine ⟨by omega, ?_⟩)); refine hK2 _ ?_; clear hK2 K2)); refine sxz (hK' _ ?_); clear hK' K'; (try simp only [thn, inb]); refine Again.mk (i + 1) (by omega) (by omega) ?_; refine Imp.to' (fun _ _ => trivial) (by simp [dNum, hs2]) (by simp [dNum, hs2])
  ·obtain rfl := hfin (by omega)
   refine AW_exit (hK1 _ ?_); refine rgm fw hso [3] [300] ?_; refine rgm fw hco [2] [300] ?_
   have hle : c.length ≤ y.length := by omega
   by_cases hcy : c.length = y.length
   ·have htk2 : (y.map fun s => [D.v (.int .i64 s)]) = c.map fun s => [D.v (.int .i64 s)] := by rw [← htk, hcy, List.take_of_length_le (by simp)]
    refine AW.imp (Imp.freeze 300 trivial) ?_; refine AW.st (by simp [dNum, hcy, hle, htk2]; rfl) ?_; refine AW_ret ?_; simp [D.le, D.le.go, takeMap, dNum, D.le_refl, D.leGo_refl, hcy, htk2]
   ·refine AW.imp (Imp.freeze 300 trivial) ?_; refine AW.st (by simp [dNum, hcy, hle, htk]; rfl) ?_; refine AW_ret ?_; simp [D.le, D.le.go, takeMap, dNum, D.le_refl, D.leGo_refl, htk]
set_option maxHeartbeats 16000000 in
theorem wedges_spec (G : Glob) (hM : HasMax G) (p : PgP) (hnl : p.names.length < 2^40) (hnn : ∀ n ∈ p.names, n.name ≠ []) (hrl : p.rungs.length ≤ 100) (hg : ∀ r ∈ p.rungs, ∃ e, r.cond = some e ∧ bE e ≤ 2^28) : PureC Tryz.prog G 29 [dPw p] (.sl none ((wedN p p.names.length).map fun x => [.v (.int .i64 x)])) := by
 simp only [dPw, cPw, dNms]; refine PureC.of_body (tyOf_good _) Tryz.func29 rfl rfl (rs := [.tmp 2]) Tryz.results29 (by simp [Tryz.ntmps29]) fun X => ?_; simp only [Tryz.ntmps29, List.map]
 have fw := @dNum.eq_1
 refine rgq fw [1] [1] ?_; refine AW.imp (Imp.freezeB 1 trivial) ?_; refine AW.st (by simp [dNum]; rfl) ?_; refine rgq fw [1,3] [] ?_; refine AW_then fun K1 hK1 => ?_; refine rgq fw [1,3,9,10,11] [] ?_; refine AW_for (S := Nat) (fun i => i ≤ p.names.length) (fun i => ⟨lst [(1, .d (.ip [.sl none (p.names.map cNm), .sl none (p.rungs.map cRw')])), (3, .own 300 0 (wedN p i).length), (9, .d (.sl none (p.names.map cNm))), (10, int p.names.length), (11, int i)], hlst [(300, .sl 3 1 ((wedN p i).map fun x => [.v (.int .i64 x)]))]⟩) (fun i => p.names.length - i) 0 ?_ (by simp) ?_
 ·refine (Imp.adopt 3 300 3 1 rfl rfl).trans ?_; refine Imp.to' (fun _ _ => trivial) (by simp [dNum, wedN]) (by simp [dNum, wedN])
 ·intro i hi
  have hE2 := wedN_len p i
  have hsuc := fun h => wedN_succ (p := p) (i := i) h
  generalize hEE : wedN p i = E at hE2 hsuc ⊢; refine rgq fw [1,3,9,10,11,12] [300] ?_; refine AW_then fun K2 hK2 => ?_; refine AW_cond' (b := i < p.names.length) (by simp [D.le, D.le.go, takeMap, dNum]) (fun hc => ?_) (fun hc => ?_)
  ·have hlt := hc
   have hs2 := hsuc hlt
   have hne := hnn _ (List.getElem_mem hlt)
   have hcn : cNm p.names[i] = [.v (.string (bs p.names[i].name)), .v (.int .i64 p.names[i].kind), .v (.int .i64 p.names[i].count)] := rfl
   generalize p.names[i].name = nm at hcn hs2 hne; generalize p.names[i].kind = kd at hcn; generalize p.names[i].count = ct at hcn; refine AW_skip (hK2 _ ?_); refine AW_then fun K3 hK3 => ?_; refine AW_block ?_
   have qf := (Aq fw (Aq @hlt @hcn))
   refine rgqv [1,3,4,5,9,10,11] [300,5] ?_; refine AW.imp (Imp.freezeB 5 trivial) ?_; refine AW.st (by simp [dNum]; rfl) ?_; refine rgq fw [1,3,4,5,9,10,11,17,18,19] [300] ?_; refine AW_for (S := Nat) (fun j => j ≤ p.rungs.length ∧ ∀ k (hk : k < p.rungs.length), k < j → hasE nm p.rungs[k] = false) (fun j => ⟨lst [(1, .d (.ip [.sl none (p.names.map cNm), .sl none (p.rungs.map cRw')])), (3, .own 300 0 E.length), (4, int i), (5, .d (.ip [.v (.string (bs nm)), .v (.int .i64 kd), .v (.int .i64 ct)])), (9, .d (.sl none (p.names.map cNm))), (10, int p.names.length), (11, int i), (17, .d (.sl none (p.rungs.map cRw'))), (18, int p.rungs.length), (19, int j)], hlst [(300, .sl 3 1 (E.map fun x => [.v (.int .i64 x)]))]⟩) (fun j => p.rungs.length - j) 0 ?_ (by simp) ?_
   ·refine Imp.to' (fun _ _ => trivial) (by simp [dNum]) (by simp [dNum])
   ·rintro j ⟨hj, hno⟩
    refine rgq fw [1,3,4,5,9,10,11,17,18,19,20] [300] ?_; refine AW_then fun K4 hK4 => ?_; refine AW_cond' (b := j < p.rungs.length) (by simp [D.le, D.le.go, takeMap, dNum]) (fun hc => ?_) (fun hc => ?_)
    ·have hjl := hc
     obtain ⟨e, he, hb⟩ := hg _ (List.getElem_mem hjl)
     have hcr : cRw' p.rungs[j] = [.v (.int .i64 p.rungs[j].kind), .v (.string (bs p.rungs[j].name)), dOR p.rungs[j].cond] := rfl
     have hnext : hasE nm p.rungs[j] = false → ∀ k (hk : k < p.rungs.length), k < j + 1 → hasE nm p.rungs[k] = false := fun h0 k hk hkj => by
      by_cases h : k = j
      ·subst h; exact h0
      ·exact hno k hk (by omega)
     have hhit : hasE nm p.rungs[j] = true → p.rungs.any (hasE nm) = true := fun h => List.any_eq_true.2 ⟨_, List.getElem_mem hjl, h⟩
     have hval : hasE nm p.rungs[j] = decide (0 ≤ idx (fun x => x == nm) (namesE false e)) := by unfold hasE; rw [he]
     have hed := redges_spec G hM e hb
     have hnl2 : (namesE false e).length ≤ 2^28 := by
      have h1 := Lib.compact_length_le (sortT (nmsE false e))
      have h2 := sortT_len (nmsE false e)
      have h3 := nms_len false e
      unfold namesE; omega
     have hix := ldw_ix G none (namesE false e) nm hne (by omega)
     rw [he] at hcr; simp only [dOR] at hcr
     obtain ⟨ec, hec⟩ : ∃ c, dR e = .ip c := ⟨_, dR_form e⟩
     rw [hec] at hcr hed; generalize namesE false e = ns at hed hix hval; generalize idx (fun x => x == nm) ns = ix at hix hval; generalize hasE nm p.rungs[j] = hv at hnext hhit hval; simp only [dS, dNum] at hed hix; generalize p.rungs[j].kind = kd2 at hcr; generalize p.rungs[j].name = nm2 at hcr; refine AW_skip (hK4 _ ?_); refine AW_then fun K5 hK5 => ?_; refine AW_block ?_
     have qf := (Aq fw (Aq @hjl @hcr))
     refine rgqv [1,3,4,5,7,9,10,11,17,18,19] [300,7] ?_; refine AW.imp (Imp.freezeB 7 trivial) ?_; refine AW.st (by simp [dNum]; rfl) ?_; refine AW_rd (tyOf_good _) (by kernel_rfl) [1, 3, 4, 5, 9, 10, 11, 17, 18, 19, 29] [300] (fun _ _ => trivial) (by kernel_rfl) fun K' hK' => ?_; (repeat (refine sxd_next fun K2 hK2 => ?_; simp [dNum]; (repeat (refine ⟨by omega, ?_⟩)); refine hK2 _ ?_; clear hK2 K2)); refine sxd_next fun K2 hK2 => ?_; simp [dNum]; refine callQ.data (hed) (by simp; rfl) (by simp; rfl) (by first | exact D.leGo_refl _ | simp [takeMap, List.map_map, Function.comp_def, D.le, D.le.go, D.le_refl, D.leGo_refl, dNum]) ?_; refine hK2 _ ?_; clear hK2 K2; simp only [putd, upd_lst]; (repeat (refine sxd_next fun K2 hK2 => ?_; simp [dNum]; (repeat (refine ⟨by omega, ?_⟩)); refine hK2 _ ?_; clear hK2 K2)); refine sxd_next fun K2 hK2 => ?_; simp [dNum]; refine callQ.data (hix) (by simp; rfl) (by simp; rfl) (by first | exact D.leGo_refl _ | simp [takeMap, List.map_map, Function.comp_def, D.le, D.le.go, D.le_refl, D.leGo_refl, dNum]) ?_; refine hK2 _ ?_; clear hK2 K2; simp only [putd, upd_lst]; (repeat (refine sxd_next fun K2 hK2 => ?_; simp [dNum]; (repeat (refine ⟨by omega, ?_⟩)); refine hK2 _ ?_; clear hK2 K2)); refine sxd_nil (hK' _ ?_); refine AW.st (by simp [dNum]; rfl) ?_; clear hK' K'
     by_cases h0 : 0 ≤ ix
     ·have hv1 : hv = true := by rw [hval]; simpa using h0
      rw [if_pos (hhit hv1)] at hs2; refine AW_cond true (by simp [h0]) (fun _ => ?_) (fun h => by cases h); refine rg [1, 3, 9, 10, 11] [300] (fun _ _ => trivial) fun K' hK' => ?_; (repeat (refine sxn fun K2 hK2 => ?_; simp [dNum, List.take_of_length_le]; (repeat (refine ⟨by omega, ?_⟩)); refine hK2 _ ?_; clear hK2 K2)); refine sxz (hK' _ (AW.st (by simp [dNum, List.take_of_length_le]; rfl) ?_)); clear hK' K'; refine AW_exit (hK3 _ ?_); refine AW_re (tyOf_good _) fun K' hK' => ?_; (repeat (refine sxn fun K2 hK2 => ?_; simp [dNum]; (repeat (refine ⟨by omega, ?_⟩)); refine hK2 _ ?_; clear hK2 K2)); refine sxz (hK' _ ?_); clear hK' K'; (try simp only [thn, inb]); refine Again.mk (i + 1) (by omega) (by omega) ?_; refine Imp.to' (fun _ _ => trivial) (by simp [dNum, hs2]) (by simp [dNum, hs2])
     ·have hv1 : hv = false := by rw [hval]; simpa using h0
      refine AW_cond false (by simp [h0]) (fun h => by cases h) (fun _ => ?_); refine AW_skip (hK5 _ ?_); refine AW_re (tyOf_good _) fun K' hK' => ?_; (repeat (refine sxn fun K2 hK2 => ?_; simp [dNum]; (repeat (refine ⟨by omega, ?_⟩)); refine hK2 _ ?_; clear hK2 K2)); refine sxz (hK' _ ?_); clear hK' K'; (try simp only [thn, inb]); refine Again.mk (j + 1) ⟨by omega, hnext hv1⟩ (by omega) ?_; refine Imp.to' (fun _ _ => trivial) (by simp [dNum]) (by simp [dNum])
    ·have hany : p.rungs.any (hasE nm) = false := by
      rw [List.any_eq_false]
      intro r hr
      obtain ⟨k, hk, rfl⟩ := List.mem_iff_getElem.1 hr
      simpa using hno k hk (by omega)
     rw [hany, if_neg (by decide), List.append_nil] at hs2; refine AW_exit (hK3 _ ?_); refine AW_re (tyOf_good _) fun K' hK' => ?_; (repeat (refine sxn fun K2 hK2 => ?_; simp [dNum]; (repeat (refine ⟨by omega, ?_⟩)); refine hK2 _ ?_; clear hK2 K2)); refine sxz (hK' _ ?_); clear hK' K'; (try simp only [thn, inb]); refine Again.mk (i + 1) (by omega) (by omega) ?_; refine Imp.to' (fun _ _ => trivial) (by simp [dNum, hs2]) (by simp [dNum, hs2])
  ·obtain rfl : i = p.names.length := by omega
   refine AW_exit (hK1 _ ?_); refine AW.imp (Imp.freeze 300 trivial) ?_; refine AW.st (by simp [dNum, List.take_of_length_le]; rfl) ?_; refine rgq fw [2] [] ?_; refine AW_ret ?_; simp [D.le, D.le.go, takeMap, dNum, D.leGo_refl, D.le_refl, hEE]
end Go.Proofs.YtjaodmndkpalkaaGreatDoor
namespace Go.Proofs.YtjaodmndkpalkaaGreatDoor
open Go.Av
theorem lxn1 : (⟨#[105, 110, 112, 117, 116, 32]⟩ : ByteArray) = bs [105, 110, 112, 117, 116, 32] := rfl
theorem lxn2 : (⟨#[99, 111, 105, 108, 32]⟩ : ByteArray) = bs [99, 111, 105, 108, 32] := rfl
theorem lxn3 : (⟨#[116, 105, 109, 101, 114, 32]⟩ : ByteArray) = bs [116, 105, 109, 101, 114, 32] := rfl
theorem lxn4 : (⟨#[99, 111, 117, 110, 116, 101, 114, 32]⟩ : ByteArray) = bs [99, 111, 117, 110, 116, 101, 114, 32] := rfl
theorem lxeq : (⟨#[32, 61, 32]⟩ : ByteArray) = bs [32, 61, 32] := rfl
theorem lxe : (⟨#[]⟩ : ByteArray) = bs [] := rfl
set_option maxHeartbeats 16000000 in
theorem ladderText_spec (G : Glob) (hH : HasHeads G) (p : PgP) (hp : TxP p) : PureC Tryz.prog G 26 [dPg p] (.v (.string (bs (progT p)))) := by
 unfold HasHeads at hH
 have hT : progT p = namesTx p.names ++ rungsTx p.rungs := rfl
 have ⟨hnm, hrg, hnl, hrl, _⟩ := hp
 have hN := namesTx_len hp
 have hR := rungsTx_len hp
 have hne := names_ne hp
 simp only [dPg, cPg, dNms, dRgs]; refine PureC.of_body (tyOf_good _) Tryz.func26 rfl rfl (rs := [.tmp 2]) Tryz.results26 (by simp [Tryz.ntmps26]) fun X => ?_; simp only [Tryz.ntmps26, List.map]; refine rg0 [1] [1] ?_; refine AW.imp (Imp.freezeB 1 trivial) ?_; refine AW.st (by simp; rfl) ?_; refine rg0 [1,3] [3] ?_; refine AW.imp (Imp.ren (r := 3) (r' := 500) trivial (by simp)) ?_; refine AW.st (by simp [renO, renF, Go.Av.ren, renH_one]; rfl) ?_; refine AW.imp (Imp.adoptCell 500 1 501 5 1 rfl rfl rfl) ?_; refine AW.st (by simp; rfl) ?_; refine AW_then fun K1 hK1 => ?_; refine rg0 [1,3,9,10,11] [500,501] ?_; refine AW_for (S := Nat) (fun i => i ≤ p.names.length) (fun i => ⟨lst [(1, .d (.ip [.sl none (p.names.map cNm), .sl none (p.rungs.map cRg)])), (3, .ref 500 0 0), (9, .d (.sl none (p.names.map cNm))), (10, int p.names.length), (11, int i)], hlst [(500, .box 174 [adB (namesTx (p.names.take i)), .own 501 0 (namesTx (p.names.take i)).length]), (501, .sl 5 1 (txB (namesTx (p.names.take i))))]⟩) (fun i => p.names.length - i) 0 ?_ (by simp) ?_
 ·refine Imp.to' (fun _ _ => trivial) (by simp [namesTx_zero, adB_nil, txB_nil]) (by simp [namesTx_zero, adB_nil, txB_nil])
 ·intro i hi
  have hlc := hN i
  generalize hcur : namesTx (p.names.take i) = cur at hlc ⊢
  have qf := @adB_tr
  refine rgqv [1,3,9,10,11,12] [500,501] ?_; refine AW_then fun K2 hK2 => ?_; refine AW_cond' (b := i < p.names.length) (by simp [D.le, D.le.go, takeMap]) (fun hc => ?_) (fun hc => ?_)
  ·have hil := hc
   obtain ⟨hkd, hct, hnml⟩ := hnm _ (List.getElem_mem hil)
   have hsuc : namesTx (p.names.take (i + 1)) = cur ++ nameT p.names[i] := by rw [namesTx, flatT_succ hil, ← hcur]; rfl
   have hnt : nameT p.names[i] = headN p.names[i].kind ++ p.names[i].name ++ (if 3 ≤ p.names[i].kind then 32 :: dig p.names[i].count.toNat else []) ++ [10] := rfl
   have hcn : cNm p.names[i] = [.v (.string (bs p.names[i].name)), .v (.int .i64 p.names[i].kind), .v (.int .i64 p.names[i].count)] := rfl
   have tj := itoaI_spec G p.names[i].count hct
   have hlj := dig_len (n := p.names[i].count.toNat) (by omega)
   generalize nameT p.names[i] = nt at hsuc hnt; generalize dig p.names[i].count.toNat = dj at tj hlj hnt; generalize p.names[i].name = nm at hnml hnt hcn; generalize p.names[i].kind = kd at hkd hnt hcn; generalize p.names[i].count = ct at hct hcn tj; refine AW_skip (hK2 _ ?_); refine AW_then fun K3 hK3 => ?_; refine AW_block ?_
   have qf := (Aq @hil (Aq @hcn @adB_tr))
   refine rgqv [1,3,5,9,10,11] [500,501,5] ?_; refine AW.imp (Imp.freezeB 5 trivial) ?_; refine AW.st (by simp; rfl) ?_
   obtain ⟨c1, hc1⟩ : ∃ c, c = cur ++ (headN kd ++ nm) := ⟨_, rfl⟩
   have hhl := headN_len kd
   have hlc1 : c1.length ≤ 2^20 + 2^10 + 8 := by rw [hc1, List.length_append, List.length_append]; omega
   refine' lateG (fun hst => ?_) ?_
   rotate_left
   ·by_cases hce : cur = []
    ·skip
     by_cases k1 : kd = 1
     ·refine AW_rm (tyOf_good _) (by kernel_rfl) ([501]) ([]) ([9]) ([]) (List.range 10) [1, 3, 5, 9, 10, 11] [500, 501] (fun _ _ => trivial) (by kernel_rfl) (by simp [OffE]) fun K' hK' => ?_; (repeat (refine sxm_nextO rfl fun K2 hK2 => ?_; simp [k1, hce, adB_nil, txB_nil, lxn1, lxn2, lxn3, lxn4, lxe, binS_add]; (repeat (refine ⟨by omega, ?_⟩)); refine hK2 _ ?_; clear hK2 K2)); refine sxm_nextO rfl fun K2 hK2 => ?_; simp [k1, hce, adB_nil, txB_nil, lxn1, lxn2, lxn3, lxn4, lxe, binS_add]; refine hcK.mc (wS0 G (105 :: 110 :: 112 :: 117 :: 116 :: 32 :: nm) (by simp; omega)) (by simp [k1, hce, adB_nil, txB_nil, lxn1, lxn2, lxn3, lxn4, lxe, binS_add]) (by simp [k1, hce, adB_nil, txB_nil, lxn1, lxn2, lxn3, lxn4, lxe, binS_add]) (by simp [k1, hce, adB_nil, txB_nil, lxn1, lxn2, lxn3, lxn4, lxe, binS_add]) (by simp [k1, hce, adB_nil, txB_nil, lxn1, lxn2, lxn3, lxn4, lxe, binS_add]) (by simp [k1, hce, adB_nil, txB_nil, lxn1, lxn2, lxn3, lxn4, lxe, binS_add]) (by simp [k1, hce, adB_nil, txB_nil, lxn1, lxn2, lxn3, lxn4, lxe, binS_add]) (by simp [LdSame, k1, hce, adB_nil, txB_nil, lxn1, lxn2, lxn3, lxn4, lxe, binS_add]) ?_; simp [k1, hce, adB_nil, txB_nil, lxn1, lxn2, lxn3, lxn4, lxe, binS_add]; refine hK2 _ ?_; clear hK2 K2; (repeat (refine sxm_nextO rfl fun K2 hK2 => ?_; simp [k1, hce, adB_nil, txB_nil, lxn1, lxn2, lxn3, lxn4, lxe, binS_add]; (repeat (refine ⟨by omega, ?_⟩)); refine hK2 _ ?_; clear hK2 K2)); refine sxm_nilO (hK' _ ?_); refine AW.st (by simp [k1, hce, adB_nil, txB_nil, lxn1, lxn2, lxn3, lxn4, lxe, binS_add]; rfl) ?_; clear hK' K'; refine AW.st (show _ = (⟨lst [(1, .d (.ip [.sl none (p.names.map cNm), .sl none (p.rungs.map cRg)])), (3, .ref 500 0 0), (5, .d (.ip [.v (.string (bs nm)), .v (.int .i64 kd), .v (.int .i64 ct)])), (9, .d (.sl none (p.names.map cNm))), (10, int p.names.length), (11, int i)], hlst [(500, .box 174 [.ref 500 0 0, .own 501 0 (c1).length]), (501, .sl 5 1 (txB (c1)))]⟩ : St) by rw [hc1, hce, k1] <;> rfl) ?_; exact hst.out
     by_cases k2 : kd = 2
     ·refine AW_rm (tyOf_good _) (by kernel_rfl) ([501]) ([]) ([9]) ([]) (List.range 10) [1, 3, 5, 9, 10, 11] [500, 501] (fun _ _ => trivial) (by kernel_rfl) (by simp [OffE]) fun K' hK' => ?_; (repeat (refine sxm_nextO rfl fun K2 hK2 => ?_; simp [k2, hce, adB_nil, txB_nil, lxn1, lxn2, lxn3, lxn4, lxe, binS_add]; (repeat (refine ⟨by omega, ?_⟩)); refine hK2 _ ?_; clear hK2 K2)); refine sxm_nextO rfl fun K2 hK2 => ?_; simp [k2, hce, adB_nil, txB_nil, lxn1, lxn2, lxn3, lxn4, lxe, binS_add]; refine hcK.mc (wS0 G (99 :: 111 :: 105 :: 108 :: 32 :: nm) (by simp; omega)) (by simp [k2, hce, adB_nil, txB_nil, lxn1, lxn2, lxn3, lxn4, lxe, binS_add]) (by simp [k2, hce, adB_nil, txB_nil, lxn1, lxn2, lxn3, lxn4, lxe, binS_add]) (by simp [k2, hce, adB_nil, txB_nil, lxn1, lxn2, lxn3, lxn4, lxe, binS_add]) (by simp [k2, hce, adB_nil, txB_nil, lxn1, lxn2, lxn3, lxn4, lxe, binS_add]) (by simp [k2, hce, adB_nil, txB_nil, lxn1, lxn2, lxn3, lxn4, lxe, binS_add]) (by simp [k2, hce, adB_nil, txB_nil, lxn1, lxn2, lxn3, lxn4, lxe, binS_add]) (by simp [LdSame, k2, hce, adB_nil, txB_nil, lxn1, lxn2, lxn3, lxn4, lxe, binS_add]) ?_; simp [k2, hce, adB_nil, txB_nil, lxn1, lxn2, lxn3, lxn4, lxe, binS_add]; refine hK2 _ ?_; clear hK2 K2; (repeat (refine sxm_nextO rfl fun K2 hK2 => ?_; simp [k2, hce, adB_nil, txB_nil, lxn1, lxn2, lxn3, lxn4, lxe, binS_add]; (repeat (refine ⟨by omega, ?_⟩)); refine hK2 _ ?_; clear hK2 K2)); refine sxm_nilO (hK' _ ?_); refine AW.st (by simp [k2, hce, adB_nil, txB_nil, lxn1, lxn2, lxn3, lxn4, lxe, binS_add]; rfl) ?_; clear hK' K'; refine AW.st (show _ = (⟨lst [(1, .d (.ip [.sl none (p.names.map cNm), .sl none (p.rungs.map cRg)])), (3, .ref 500 0 0), (5, .d (.ip [.v (.string (bs nm)), .v (.int .i64 kd), .v (.int .i64 ct)])), (9, .d (.sl none (p.names.map cNm))), (10, int p.names.length), (11, int i)], hlst [(500, .box 174 [.ref 500 0 0, .own 501 0 (c1).length]), (501, .sl 5 1 (txB (c1)))]⟩ : St) by rw [hc1, hce, k2] <;> rfl) ?_; exact hst.out
     by_cases k3 : kd = 3
     ·refine AW_rm (tyOf_good _) (by kernel_rfl) ([501]) ([]) ([9]) ([]) (List.range 10) [1, 3, 5, 9, 10, 11] [500, 501] (fun _ _ => trivial) (by kernel_rfl) (by simp [OffE]) fun K' hK' => ?_; (repeat (refine sxm_nextO rfl fun K2 hK2 => ?_; simp [k3, hce, adB_nil, txB_nil, lxn1, lxn2, lxn3, lxn4, lxe, binS_add]; (repeat (refine ⟨by omega, ?_⟩)); refine hK2 _ ?_; clear hK2 K2)); refine sxm_nextO rfl fun K2 hK2 => ?_; simp [k3, hce, adB_nil, txB_nil, lxn1, lxn2, lxn3, lxn4, lxe, binS_add]; refine hcK.mc (wS0 G (116 :: 105 :: 109 :: 101 :: 114 :: 32 :: nm) (by simp; omega)) (by simp [k3, hce, adB_nil, txB_nil, lxn1, lxn2, lxn3, lxn4, lxe, binS_add]) (by simp [k3, hce, adB_nil, txB_nil, lxn1, lxn2, lxn3, lxn4, lxe, binS_add]) (by simp [k3, hce, adB_nil, txB_nil, lxn1, lxn2, lxn3, lxn4, lxe, binS_add]) (by simp [k3, hce, adB_nil, txB_nil, lxn1, lxn2, lxn3, lxn4, lxe, binS_add]) (by simp [k3, hce, adB_nil, txB_nil, lxn1, lxn2, lxn3, lxn4, lxe, binS_add]) (by simp [k3, hce, adB_nil, txB_nil, lxn1, lxn2, lxn3, lxn4, lxe, binS_add]) (by simp [LdSame, k3, hce, adB_nil, txB_nil, lxn1, lxn2, lxn3, lxn4, lxe, binS_add]) ?_; simp [k3, hce, adB_nil, txB_nil, lxn1, lxn2, lxn3, lxn4, lxe, binS_add]; refine hK2 _ ?_; clear hK2 K2; (repeat (refine sxm_nextO rfl fun K2 hK2 => ?_; simp [k3, hce, adB_nil, txB_nil, lxn1, lxn2, lxn3, lxn4, lxe, binS_add]; (repeat (refine ⟨by omega, ?_⟩)); refine hK2 _ ?_; clear hK2 K2)); refine sxm_nilO (hK' _ ?_); refine AW.st (by simp [k3, hce, adB_nil, txB_nil, lxn1, lxn2, lxn3, lxn4, lxe, binS_add]; rfl) ?_; clear hK' K'; refine AW.st (show _ = (⟨lst [(1, .d (.ip [.sl none (p.names.map cNm), .sl none (p.rungs.map cRg)])), (3, .ref 500 0 0), (5, .d (.ip [.v (.string (bs nm)), .v (.int .i64 kd), .v (.int .i64 ct)])), (9, .d (.sl none (p.names.map cNm))), (10, int p.names.length), (11, int i)], hlst [(500, .box 174 [.ref 500 0 0, .own 501 0 (c1).length]), (501, .sl 5 1 (txB (c1)))]⟩ : St) by rw [hc1, hce, k3] <;> rfl) ?_; exact hst.out
     have k4 : kd = 4 := by omega
     refine AW_rm (tyOf_good _) (by kernel_rfl) ([501]) ([]) ([9]) ([]) (List.range 10) [1, 3, 5, 9, 10, 11] [500, 501] (fun _ _ => trivial) (by kernel_rfl) (by simp [OffE]) fun K' hK' => ?_; (repeat (refine sxm_nextO rfl fun K2 hK2 => ?_; simp [k4, hce, adB_nil, txB_nil, lxn1, lxn2, lxn3, lxn4, lxe, binS_add]; (repeat (refine ⟨by omega, ?_⟩)); refine hK2 _ ?_; clear hK2 K2)); refine sxm_nextO rfl fun K2 hK2 => ?_; simp [k4, hce, adB_nil, txB_nil, lxn1, lxn2, lxn3, lxn4, lxe, binS_add]; refine hcK.mc (wS0 G (99 :: 111 :: 117 :: 110 :: 116 :: 101 :: 114 :: 32 :: nm) (by simp; omega)) (by simp [k4, hce, adB_nil, txB_nil, lxn1, lxn2, lxn3, lxn4, lxe, binS_add]) (by simp [k4, hce, adB_nil, txB_nil, lxn1, lxn2, lxn3, lxn4, lxe, binS_add]) (by simp [k4, hce, adB_nil, txB_nil, lxn1, lxn2, lxn3, lxn4, lxe, binS_add]) (by simp [k4, hce, adB_nil, txB_nil, lxn1, lxn2, lxn3, lxn4, lxe, binS_add]) (by simp [k4, hce, adB_nil, txB_nil, lxn1, lxn2, lxn3, lxn4, lxe, binS_add]) (by simp [k4, hce, adB_nil, txB_nil, lxn1, lxn2, lxn3, lxn4, lxe, binS_add]) (by simp [LdSame, k4, hce, adB_nil, txB_nil, lxn1, lxn2, lxn3, lxn4, lxe, binS_add]) ?_; simp [k4, hce, adB_nil, txB_nil, lxn1, lxn2, lxn3, lxn4, lxe, binS_add]; refine hK2 _ ?_; clear hK2 K2; (repeat (refine sxm_nextO rfl fun K2 hK2 => ?_; simp [k4, hce, adB_nil, txB_nil, lxn1, lxn2, lxn3, lxn4, lxe, binS_add]; (repeat (refine ⟨by omega, ?_⟩)); refine hK2 _ ?_; clear hK2 K2)); refine sxm_nilO (hK' _ ?_); refine AW.st (by simp [k4, hce, adB_nil, txB_nil, lxn1, lxn2, lxn3, lxn4, lxe, binS_add]; rfl) ?_; clear hK' K'; refine AW.st (show _ = (⟨lst [(1, .d (.ip [.sl none (p.names.map cNm), .sl none (p.rungs.map cRg)])), (3, .ref 500 0 0), (5, .d (.ip [.v (.string (bs nm)), .v (.int .i64 kd), .v (.int .i64 ct)])), (9, .d (.sl none (p.names.map cNm))), (10, int p.names.length), (11, int i)], hlst [(500, .box 174 [.ref 500 0 0, .own 501 0 (c1).length]), (501, .sl 5 1 (txB (c1)))]⟩ : St) by rw [hc1, hce, k4] <;> rfl) ?_; exact hst.out
    ·skip
     by_cases k1 : kd = 1
     ·have e : c1 = cur ++ (105 :: 110 :: 112 :: 117 :: 116 :: 32 :: nm) := by rw [hc1, k1]; rfl
      refine AW_rm (tyOf_good _) (by kernel_rfl) ([501]) ([]) ([9]) ([]) (List.range 10) [1, 3, 5, 9, 10, 11] [500, 501] (fun _ _ => trivial) (by kernel_rfl) (by simp [OffE]) fun K' hK' => ?_; (repeat (refine sxm_nextO rfl fun K2 hK2 => ?_; simp [k1, adB_ne hce, lxn1, lxn2, lxn3, lxn4, lxe, binS_add]; (repeat (refine ⟨by omega, ?_⟩)); refine hK2 _ ?_; clear hK2 K2)); refine sxm_nextO rfl fun K2 hK2 => ?_; simp [k1, adB_ne hce, lxn1, lxn2, lxn3, lxn4, lxe, binS_add]; refine hcK.mc (wS G cur (105 :: 110 :: 112 :: 117 :: 116 :: 32 :: nm) c1 e (by simp; omega)) (by simp [k1, adB_ne hce, lxn1, lxn2, lxn3, lxn4, lxe, binS_add]) (by simp [k1, adB_ne hce, lxn1, lxn2, lxn3, lxn4, lxe, binS_add]) (by simp [k1, adB_ne hce, lxn1, lxn2, lxn3, lxn4, lxe, binS_add]) (by simp [k1, adB_ne hce, lxn1, lxn2, lxn3, lxn4, lxe, binS_add]) (by simp [k1, adB_ne hce, lxn1, lxn2, lxn3, lxn4, lxe, binS_add]) (by simp [k1, adB_ne hce, lxn1, lxn2, lxn3, lxn4, lxe, binS_add]) (by simp [LdSame, k1, adB_ne hce, lxn1, lxn2, lxn3, lxn4, lxe, binS_add]) ?_; simp [k1, adB_ne hce, lxn1, lxn2, lxn3, lxn4, lxe, binS_add]; refine hK2 _ ?_; clear hK2 K2; (repeat (refine sxm_nextO rfl fun K2 hK2 => ?_; simp [k1, adB_ne hce, lxn1, lxn2, lxn3, lxn4, lxe, binS_add]; (repeat (refine ⟨by omega, ?_⟩)); refine hK2 _ ?_; clear hK2 K2)); refine sxm_nilO (hK' _ ?_); refine AW.st (by simp [k1, adB_ne hce, lxn1, lxn2, lxn3, lxn4, lxe, binS_add]; rfl) ?_; clear hK' K'; refine AW.st (show _ = (⟨lst [(1, .d (.ip [.sl none (p.names.map cNm), .sl none (p.rungs.map cRg)])), (3, .ref 500 0 0), (5, .d (.ip [.v (.string (bs nm)), .v (.int .i64 kd), .v (.int .i64 ct)])), (9, .d (.sl none (p.names.map cNm))), (10, int p.names.length), (11, int i)], hlst [(500, .box 174 [.ref 500 0 0, .own 501 0 (c1).length]), (501, .sl 5 1 (txB (c1)))]⟩ : St) by rw [k1] <;> rfl) ?_; exact hst.out
     by_cases k2 : kd = 2
     ·have e : c1 = cur ++ (99 :: 111 :: 105 :: 108 :: 32 :: nm) := by rw [hc1, k2]; rfl
      refine AW_rm (tyOf_good _) (by kernel_rfl) ([501]) ([]) ([9]) ([]) (List.range 10) [1, 3, 5, 9, 10, 11] [500, 501] (fun _ _ => trivial) (by kernel_rfl) (by simp [OffE]) fun K' hK' => ?_; (repeat (refine sxm_nextO rfl fun K2 hK2 => ?_; simp [k2, adB_ne hce, lxn1, lxn2, lxn3, lxn4, lxe, binS_add]; (repeat (refine ⟨by omega, ?_⟩)); refine hK2 _ ?_; clear hK2 K2)); refine sxm_nextO rfl fun K2 hK2 => ?_; simp [k2, adB_ne hce, lxn1, lxn2, lxn3, lxn4, lxe, binS_add]; refine hcK.mc (wS G cur (99 :: 111 :: 105 :: 108 :: 32 :: nm) c1 e (by simp; omega)) (by simp [k2, adB_ne hce, lxn1, lxn2, lxn3, lxn4, lxe, binS_add]) (by simp [k2, adB_ne hce, lxn1, lxn2, lxn3, lxn4, lxe, binS_add]) (by simp [k2, adB_ne hce, lxn1, lxn2, lxn3, lxn4, lxe, binS_add]) (by simp [k2, adB_ne hce, lxn1, lxn2, lxn3, lxn4, lxe, binS_add]) (by simp [k2, adB_ne hce, lxn1, lxn2, lxn3, lxn4, lxe, binS_add]) (by simp [k2, adB_ne hce, lxn1, lxn2, lxn3, lxn4, lxe, binS_add]) (by simp [LdSame, k2, adB_ne hce, lxn1, lxn2, lxn3, lxn4, lxe, binS_add]) ?_; simp [k2, adB_ne hce, lxn1, lxn2, lxn3, lxn4, lxe, binS_add]; refine hK2 _ ?_; clear hK2 K2; (repeat (refine sxm_nextO rfl fun K2 hK2 => ?_; simp [k2, adB_ne hce, lxn1, lxn2, lxn3, lxn4, lxe, binS_add]; (repeat (refine ⟨by omega, ?_⟩)); refine hK2 _ ?_; clear hK2 K2)); refine sxm_nilO (hK' _ ?_); refine AW.st (by simp [k2, adB_ne hce, lxn1, lxn2, lxn3, lxn4, lxe, binS_add]; rfl) ?_; clear hK' K'; refine AW.st (show _ = (⟨lst [(1, .d (.ip [.sl none (p.names.map cNm), .sl none (p.rungs.map cRg)])), (3, .ref 500 0 0), (5, .d (.ip [.v (.string (bs nm)), .v (.int .i64 kd), .v (.int .i64 ct)])), (9, .d (.sl none (p.names.map cNm))), (10, int p.names.length), (11, int i)], hlst [(500, .box 174 [.ref 500 0 0, .own 501 0 (c1).length]), (501, .sl 5 1 (txB (c1)))]⟩ : St) by rw [k2] <;> rfl) ?_; exact hst.out
     by_cases k3 : kd = 3
     ·have e : c1 = cur ++ (116 :: 105 :: 109 :: 101 :: 114 :: 32 :: nm) := by rw [hc1, k3]; rfl
      refine AW_rm (tyOf_good _) (by kernel_rfl) ([501]) ([]) ([9]) ([]) (List.range 10) [1, 3, 5, 9, 10, 11] [500, 501] (fun _ _ => trivial) (by kernel_rfl) (by simp [OffE]) fun K' hK' => ?_; (repeat (refine sxm_nextO rfl fun K2 hK2 => ?_; simp [k3, adB_ne hce, lxn1, lxn2, lxn3, lxn4, lxe, binS_add]; (repeat (refine ⟨by omega, ?_⟩)); refine hK2 _ ?_; clear hK2 K2)); refine sxm_nextO rfl fun K2 hK2 => ?_; simp [k3, adB_ne hce, lxn1, lxn2, lxn3, lxn4, lxe, binS_add]; refine hcK.mc (wS G cur (116 :: 105 :: 109 :: 101 :: 114 :: 32 :: nm) c1 e (by simp; omega)) (by simp [k3, adB_ne hce, lxn1, lxn2, lxn3, lxn4, lxe, binS_add]) (by simp [k3, adB_ne hce, lxn1, lxn2, lxn3, lxn4, lxe, binS_add]) (by simp [k3, adB_ne hce, lxn1, lxn2, lxn3, lxn4, lxe, binS_add]) (by simp [k3, adB_ne hce, lxn1, lxn2, lxn3, lxn4, lxe, binS_add]) (by simp [k3, adB_ne hce, lxn1, lxn2, lxn3, lxn4, lxe, binS_add]) (by simp [k3, adB_ne hce, lxn1, lxn2, lxn3, lxn4, lxe, binS_add]) (by simp [LdSame, k3, adB_ne hce, lxn1, lxn2, lxn3, lxn4, lxe, binS_add]) ?_; simp [k3, adB_ne hce, lxn1, lxn2, lxn3, lxn4, lxe, binS_add]; refine hK2 _ ?_; clear hK2 K2; (repeat (refine sxm_nextO rfl fun K2 hK2 => ?_; simp [k3, adB_ne hce, lxn1, lxn2, lxn3, lxn4, lxe, binS_add]; (repeat (refine ⟨by omega, ?_⟩)); refine hK2 _ ?_; clear hK2 K2)); refine sxm_nilO (hK' _ ?_); refine AW.st (by simp [k3, adB_ne hce, lxn1, lxn2, lxn3, lxn4, lxe, binS_add]; rfl) ?_; clear hK' K'; refine AW.st (show _ = (⟨lst [(1, .d (.ip [.sl none (p.names.map cNm), .sl none (p.rungs.map cRg)])), (3, .ref 500 0 0), (5, .d (.ip [.v (.string (bs nm)), .v (.int .i64 kd), .v (.int .i64 ct)])), (9, .d (.sl none (p.names.map cNm))), (10, int p.names.length), (11, int i)], hlst [(500, .box 174 [.ref 500 0 0, .own 501 0 (c1).length]), (501, .sl 5 1 (txB (c1)))]⟩ : St) by rw [k3] <;> rfl) ?_; exact hst.out
     have k4 : kd = 4 := by omega
     have e : c1 = cur ++ (99 :: 111 :: 117 :: 110 :: 116 :: 101 :: 114 :: 32 :: nm) := by rw [hc1, k4]; rfl
     refine AW_rm (tyOf_good _) (by kernel_rfl) ([501]) ([]) ([9]) ([]) (List.range 10) [1, 3, 5, 9, 10, 11] [500, 501] (fun _ _ => trivial) (by kernel_rfl) (by simp [OffE]) fun K' hK' => ?_; (repeat (refine sxm_nextO rfl fun K2 hK2 => ?_; simp [k4, adB_ne hce, lxn1, lxn2, lxn3, lxn4, lxe, binS_add]; (repeat (refine ⟨by omega, ?_⟩)); refine hK2 _ ?_; clear hK2 K2)); refine sxm_nextO rfl fun K2 hK2 => ?_; simp [k4, adB_ne hce, lxn1, lxn2, lxn3, lxn4, lxe, binS_add]; refine hcK.mc (wS G cur (99 :: 111 :: 117 :: 110 :: 116 :: 101 :: 114 :: 32 :: nm) c1 e (by simp; omega)) (by simp [k4, adB_ne hce, lxn1, lxn2, lxn3, lxn4, lxe, binS_add]) (by simp [k4, adB_ne hce, lxn1, lxn2, lxn3, lxn4, lxe, binS_add]) (by simp [k4, adB_ne hce, lxn1, lxn2, lxn3, lxn4, lxe, binS_add]) (by simp [k4, adB_ne hce, lxn1, lxn2, lxn3, lxn4, lxe, binS_add]) (by simp [k4, adB_ne hce, lxn1, lxn2, lxn3, lxn4, lxe, binS_add]) (by simp [k4, adB_ne hce, lxn1, lxn2, lxn3, lxn4, lxe, binS_add]) (by simp [LdSame, k4, adB_ne hce, lxn1, lxn2, lxn3, lxn4, lxe, binS_add]) ?_; simp [k4, adB_ne hce, lxn1, lxn2, lxn3, lxn4, lxe, binS_add]; refine hK2 _ ?_; clear hK2 K2; (repeat (refine sxm_nextO rfl fun K2 hK2 => ?_; simp [k4, adB_ne hce, lxn1, lxn2, lxn3, lxn4, lxe, binS_add]; (repeat (refine ⟨by omega, ?_⟩)); refine hK2 _ ?_; clear hK2 K2)); refine sxm_nilO (hK' _ ?_); refine AW.st (by simp [k4, adB_ne hce, lxn1, lxn2, lxn3, lxn4, lxe, binS_add]; rfl) ?_; clear hK' K'; refine AW.st (show _ = (⟨lst [(1, .d (.ip [.sl none (p.names.map cNm), .sl none (p.rungs.map cRg)])), (3, .ref 500 0 0), (5, .d (.ip [.v (.string (bs nm)), .v (.int .i64 kd), .v (.int .i64 ct)])), (9, .d (.sl none (p.names.map cNm))), (10, int p.names.length), (11, int i)], hlst [(500, .box 174 [.ref 500 0 0, .own 501 0 (c1).length]), (501, .sl 5 1 (txB (c1)))]⟩ : St) by rw [k4] <;> rfl) ?_; exact hst.out
   ·refine AW_then fun K4 hK4 => ?_; refine rg0 [1,3,5,9,10,11,27] [500,501] ?_
    by_cases k3 : 3 ≤ kd
    ·obtain ⟨c2, hc2⟩ : ∃ c, c = c1 ++ 32 :: dj := ⟨_, rfl⟩
     have hlc2 : c2.length ≤ 2^20 + 2^10 + 12 := by rw [hc2, List.length_append, List.length_cons]; omega
     have hfin : namesTx (p.names.take (i + 1)) = c2 ++ [10] := by rw [hsuc, hnt, if_pos k3, hc2, hc1]; simp
     have hcne : namesTx (p.names.take (i + 1)) ≠ [] := by rw [hfin]; simp
     refine AW_cond true (by simp [k3]) (fun _ => ?_) (fun h => by cases h); refine AW_re (tyOf_good _) fun K' hK' => ?_; (repeat (refine sxn fun K2 hK2 => ?_; simp [lx32, binS_add]; (repeat (refine ⟨by omega, ?_⟩)); refine hK2 _ ?_; clear hK2 K2)); refine sxn fun K2 hK2 => ?_; simp [lx32, binS_add]; refine callK.data (tj) (by simp; rfl) (by first | exact D.leGo_refl _ | simp [takeMap, List.map_map, Function.comp_def, D.le, D.le.go, D.le_refl, D.leGo_refl, lx32, binS_add]) ?_; refine hK2 _ ?_; clear hK2 K2; simp only [putd, upd_lst]; (repeat (refine sxn fun K2 hK2 => ?_; simp [lx32, binS_add]; (repeat (refine ⟨by omega, ?_⟩)); refine hK2 _ ?_; clear hK2 K2)); refine sxn fun K2 hK2 => ?_; simp [lx32, binS_add]; refine callK.mc (wS G c1 (32 :: dj) c2 hc2 (by simp; omega)) ?_ ?_ ?_ ?_ ?_ <;> simp [lx32, binS_add]; refine hK2 _ ?_; clear hK2 K2; (repeat (refine sxn fun K2 hK2 => ?_; simp [lx32, binS_add]; (repeat (refine ⟨by omega, ?_⟩)); refine hK2 _ ?_; clear hK2 K2)); refine sxz (hK' _ ?_); clear hK' K'; refine hK4 _ (AW.norm [1, 3, 9, 10, 11] [500, 501] (fun _ _ => trivial) (AW.st (by simp [lx32, binS_add]; rfl) ?_)); refine AW_re (tyOf_good _) fun K' hK' => ?_; (repeat (refine sxn fun K2 hK2 => ?_; simp [ub10]; (repeat (refine ⟨by omega, ?_⟩)); refine hK2 _ ?_; clear hK2 K2)); refine sxn fun K2 hK2 => ?_; simp [ub10]; refine callK.mc (wB G c2 10 _ hfin (by omega)) ?_ ?_ ?_ ?_ ?_ <;> simp [ub10]; refine hK2 _ ?_; clear hK2 K2; (repeat (refine sxn fun K2 hK2 => ?_; simp [ub10]; (repeat (refine ⟨by omega, ?_⟩)); refine hK2 _ ?_; clear hK2 K2)); refine sxz (hK' _ ?_); clear hK' K'; refine hK3 _ (AW.norm [1, 3, 9, 10, 11] [500, 501] (fun _ _ => trivial) (AW.st (by simp [ub10]; rfl) ?_)); refine AW_re (tyOf_good _) fun K' hK' => ?_; (repeat (refine sxn fun K2 hK2 => ?_; simp; (repeat (refine ⟨by omega, ?_⟩)); refine hK2 _ ?_; clear hK2 K2)); refine sxz (hK' _ ?_); clear hK' K'; (try simp only [thn, inb]); refine Again.mk (i + 1) (by omega) (by omega) ?_; refine Imp.to' (fun _ _ => trivial) (by simp [adB_ne hcne]) (by simp [adB_ne hcne])
    ·have hfin : namesTx (p.names.take (i + 1)) = c1 ++ [10] := by rw [hsuc, hnt, if_neg k3, hc1]; simp
     have hcne : namesTx (p.names.take (i + 1)) ≠ [] := by rw [hfin]; simp
     refine AW_cond false (by simp; omega) (fun h => by cases h) (fun _ => ?_); refine AW_skip ?_; refine hK4 _ (AW.norm [1, 3, 9, 10, 11] [500, 501] (fun _ _ => trivial) (AW.st (by simp; rfl) ?_)); refine AW_re (tyOf_good _) fun K' hK' => ?_; (repeat (refine sxn fun K2 hK2 => ?_; simp [ub10]; (repeat (refine ⟨by omega, ?_⟩)); refine hK2 _ ?_; clear hK2 K2)); refine sxn fun K2 hK2 => ?_; simp [ub10]; refine callK.mc (wB G c1 10 _ hfin (by omega)) ?_ ?_ ?_ ?_ ?_ <;> simp [ub10]; refine hK2 _ ?_; clear hK2 K2; (repeat (refine sxn fun K2 hK2 => ?_; simp [ub10]; (repeat (refine ⟨by omega, ?_⟩)); refine hK2 _ ?_; clear hK2 K2)); refine sxz (hK' _ ?_); clear hK' K'; refine hK3 _ (AW.norm [1, 3, 9, 10, 11] [500, 501] (fun _ _ => trivial) (AW.st (by simp [ub10]; rfl) ?_)); refine AW_re (tyOf_good _) fun K' hK' => ?_; (repeat (refine sxn fun K2 hK2 => ?_; simp; (repeat (refine ⟨by omega, ?_⟩)); refine hK2 _ ?_; clear hK2 K2)); refine sxz (hK' _ ?_); clear hK' K'; (try simp only [thn, inb]); refine Again.mk (i + 1) (by omega) (by omega) ?_; refine Imp.to' (fun _ _ => trivial) (by simp [adB_ne hcne]) (by simp [adB_ne hcne])
  ·obtain rfl : i = p.names.length := by omega
   rw [List.take_length] at hcur; refine AW_exit (hK1 _ ?_); refine AW_then fun K5 hK5 => ?_
   have qf := @adB_tr
   refine rgqv [3,36,37,38] [500,501] ?_; refine AW_for (S := Nat) (fun j => j ≤ p.rungs.length) (fun j => ⟨lst [(3, .ref 500 0 0), (36, .d (.sl none (p.rungs.map cRg))), (37, int p.rungs.length), (38, int j)], hlst [(500, .box 174 [adB (cur ++ rungsTx (p.rungs.take j)), .own 501 0 (cur ++ rungsTx (p.rungs.take j)).length]), (501, .sl 5 1 (txB (cur ++ rungsTx (p.rungs.take j))))]⟩) (fun j => p.rungs.length - j) 0 ?_ (by simp) ?_
   ·refine Imp.to' (fun _ _ => trivial) (by simp [rungsTx_zero, List.append_nil, adB_tr]) (by simp [rungsTx_zero, List.append_nil, adB_tr])
   ·intro j hj
    have hlr := hR j
    have hld : (cur ++ rungsTx (p.rungs.take j)).length ≤ 2^20 + 2^36 := by rw [List.length_append]; omega
    generalize hd1 : cur ++ rungsTx (p.rungs.take j) = d1 at hld ⊢
    have qf := @adB_tr
    refine rgqv [3,36,37,38,39] [500,501] ?_; refine AW_then fun K6 hK6 => ?_; refine AW_cond' (b := j < p.rungs.length) (by simp [D.le, D.le.go, takeMap]) (fun hc => ?_) (fun hc => ?_)
    ·have hjl := hc
     have hce : cur ≠ [] := by rw [← hcur]; exact hne (by intro h; rw [h] at hjl; simp at hjl)
     have hde : d1 ≠ [] := by rw [← hd1]; simp [hce]
     obtain ⟨hkd, hrn, e, hce2, hbe, _⟩ := hrg _ (List.getElem_mem hjl)
     have hsuc : cur ++ rungsTx (p.rungs.take (j + 1)) = d1 ++ rungT p.rungs[j] := by rw [rungsTx, flatT_succ hjl, ← hd1, List.append_assoc]; rfl
     have hrt : rungT p.rungs[j] = headG p.rungs[j].kind ++ p.rungs[j].name ++ [32, 61, 32] ++ condT p.rungs[j].cond ++ [10] := rfl
     have hcr : cRg p.rungs[j] = [.v (.int .i64 p.rungs[j].kind), .v (.string (bs p.rungs[j].name)), dC p.rungs[j].cond] := rfl
     rw [hce2] at hrt hcr
     have htx := etext_spec G e (Nat.le_trans (wr_len e) (by omega))
     have hwl := wr0_bd e
     simp only [dS] at htx; simp only [condT, dC] at hrt hcr
     obtain ⟨ta, ca, hta⟩ := dE_ifc e
     rw [hta] at hcr htx; generalize wrE e 0 = tx at hrt htx hwl; generalize rungT p.rungs[j] = rt at hsuc hrt; generalize p.rungs[j].name = nm at hrn hrt hcr; generalize p.rungs[j].kind = kd at hkd hrt hcr; refine AW_skip (hK6 _ ?_); refine AW_then fun K7 hK7 => ?_; refine AW_block ?_
     have qf := (Aq @hjl (Aq @hcr (adB_ne hde)))
     refine rgqv [3,7,36,37,38] [500,501,7] ?_; refine AW.imp (Imp.freezeB 7 trivial) ?_; refine AW.st (by simp; rfl) ?_
     have hcne : cur ++ rungsTx (p.rungs.take (j + 1)) ≠ [] := by simp [hce]
     by_cases k1 : kd = 1
     ·have e2 : cur ++ rungsTx (p.rungs.take (j + 1)) = d1 ++ ((nm ++ 32 :: 61 :: 32 :: (tx ++ [10]))) := by rw [hsuc, hrt, k1]; simp [headG]
      refine AW_rme (tyOf_good _) (by kernel_rfl) ([501]) ([]) ([15]) ([]) (List.range 16) (by kernel_rfl) (by simp [OffE]) fun K' hK' => ?_; (repeat (refine sxm_nextO rfl fun K2 hK2 => ?_; simp [k1, hH, heads7, lxeq, lx10, binS_add]; (repeat (refine ⟨by omega, ?_⟩)); refine hK2 _ ?_; clear hK2 K2)); refine sxm_nextO rfl fun K2 hK2 => ?_; simp [k1, hH, heads7, lxeq, lx10, binS_add]; refine callD.mk (htx) (by simp; rfl) (by simp; rfl) (by first | exact D.leGo_refl _ | simp [takeMap, List.map_map, Function.comp_def, D.le, D.le.go, D.le_refl, D.leGo_refl, k1, hH, heads7, lxeq, lx10, binS_add]) (by simp) ?_; refine hK2 _ ?_; clear hK2 K2; simp only [putd, upd_lst]; (repeat (refine sxm_nextO rfl fun K2 hK2 => ?_; simp [k1, hH, heads7, lxeq, lx10, binS_add]; (repeat (refine ⟨by omega, ?_⟩)); refine hK2 _ ?_; clear hK2 K2)); refine sxm_nextO rfl fun K2 hK2 => ?_; simp [k1, hH, heads7, lxeq, lx10, binS_add]; refine hcK.mc (wS G d1 ((nm ++ 32 :: 61 :: 32 :: (tx ++ [10]))) _ e2 (by simp; omega)) (by simp [k1, hH, heads7, lxeq, lx10, binS_add]) (by simp [k1, hH, heads7, lxeq, lx10, binS_add]) (by simp [k1, hH, heads7, lxeq, lx10, binS_add]) (by simp [k1, hH, heads7, lxeq, lx10, binS_add]) (by simp [k1, hH, heads7, lxeq, lx10, binS_add]) (by simp [k1, hH, heads7, lxeq, lx10, binS_add]) (by simp [LdSame, k1, hH, heads7, lxeq, lx10, binS_add]) ?_; simp [k1, hH, heads7, lxeq, lx10, binS_add]; refine hK2 _ ?_; clear hK2 K2; (repeat (refine sxm_nextO rfl fun K2 hK2 => ?_; simp [k1, hH, heads7, lxeq, lx10, binS_add]; (repeat (refine ⟨by omega, ?_⟩)); refine hK2 _ ?_; clear hK2 K2)); refine sxm_nilO (hK' _ ?_); clear hK' K'; refine hK7 _ (AW.norm [3, 36, 37, 38] [500, 501] (fun _ _ => trivial) (AW.st (by simp [k1, hH, heads7, lxeq, lx10, binS_add]; rfl) ?_)); refine AW_re (tyOf_good _) fun K' hK' => ?_; (repeat (refine sxn fun K2 hK2 => ?_; simp; (repeat (refine ⟨by omega, ?_⟩)); refine hK2 _ ?_; clear hK2 K2)); refine sxz (hK' _ ?_); clear hK' K'; (try simp only [thn, inb]); refine Again.mk (j + 1) (by omega) (by omega) ?_; refine Imp.to' (fun _ _ => trivial) (by simp [adB_ne hcne]) (by simp [adB_ne hcne])
     by_cases k2 : kd = 2
     ·have e2 : cur ++ rungsTx (p.rungs.take (j + 1)) = d1 ++ (115 :: 101 :: 116 :: 32 :: (nm ++ 32 :: 61 :: 32 :: (tx ++ [10]))) := by rw [hsuc, hrt, k2]; simp [headG]
      refine AW_rme (tyOf_good _) (by kernel_rfl) ([501]) ([]) ([15]) ([]) (List.range 16) (by kernel_rfl) (by simp [OffE]) fun K' hK' => ?_; (repeat (refine sxm_nextO rfl fun K2 hK2 => ?_; simp [k2, hH, heads7, lxeq, lx10, binS_add]; (repeat (refine ⟨by omega, ?_⟩)); refine hK2 _ ?_; clear hK2 K2)); refine sxm_nextO rfl fun K2 hK2 => ?_; simp [k2, hH, heads7, lxeq, lx10, binS_add]; refine callD.mk (htx) (by simp; rfl) (by simp; rfl) (by first | exact D.leGo_refl _ | simp [takeMap, List.map_map, Function.comp_def, D.le, D.le.go, D.le_refl, D.leGo_refl, k2, hH, heads7, lxeq, lx10, binS_add]) (by simp) ?_; refine hK2 _ ?_; clear hK2 K2; simp only [putd, upd_lst]; (repeat (refine sxm_nextO rfl fun K2 hK2 => ?_; simp [k2, hH, heads7, lxeq, lx10, binS_add]; (repeat (refine ⟨by omega, ?_⟩)); refine hK2 _ ?_; clear hK2 K2)); refine sxm_nextO rfl fun K2 hK2 => ?_; simp [k2, hH, heads7, lxeq, lx10, binS_add]; refine hcK.mc (wS G d1 (115 :: 101 :: 116 :: 32 :: (nm ++ 32 :: 61 :: 32 :: (tx ++ [10]))) _ e2 (by simp; omega)) (by simp [k2, hH, heads7, lxeq, lx10, binS_add]) (by simp [k2, hH, heads7, lxeq, lx10, binS_add]) (by simp [k2, hH, heads7, lxeq, lx10, binS_add]) (by simp [k2, hH, heads7, lxeq, lx10, binS_add]) (by simp [k2, hH, heads7, lxeq, lx10, binS_add]) (by simp [k2, hH, heads7, lxeq, lx10, binS_add]) (by simp [LdSame, k2, hH, heads7, lxeq, lx10, binS_add]) ?_; simp [k2, hH, heads7, lxeq, lx10, binS_add]; refine hK2 _ ?_; clear hK2 K2; (repeat (refine sxm_nextO rfl fun K2 hK2 => ?_; simp [k2, hH, heads7, lxeq, lx10, binS_add]; (repeat (refine ⟨by omega, ?_⟩)); refine hK2 _ ?_; clear hK2 K2)); refine sxm_nilO (hK' _ ?_); clear hK' K'; refine hK7 _ (AW.norm [3, 36, 37, 38] [500, 501] (fun _ _ => trivial) (AW.st (by simp [k2, hH, heads7, lxeq, lx10, binS_add]; rfl) ?_)); refine AW_re (tyOf_good _) fun K' hK' => ?_; (repeat (refine sxn fun K2 hK2 => ?_; simp; (repeat (refine ⟨by omega, ?_⟩)); refine hK2 _ ?_; clear hK2 K2)); refine sxz (hK' _ ?_); clear hK' K'; (try simp only [thn, inb]); refine Again.mk (j + 1) (by omega) (by omega) ?_; refine Imp.to' (fun _ _ => trivial) (by simp [adB_ne hcne]) (by simp [adB_ne hcne])
     by_cases k3 : kd = 3
     ·have e2 : cur ++ rungsTx (p.rungs.take (j + 1)) = d1 ++ (114 :: 101 :: 115 :: 101 :: 116 :: 32 :: (nm ++ 32 :: 61 :: 32 :: (tx ++ [10]))) := by rw [hsuc, hrt, k3]; simp [headG]
      refine AW_rme (tyOf_good _) (by kernel_rfl) ([501]) ([]) ([15]) ([]) (List.range 16) (by kernel_rfl) (by simp [OffE]) fun K' hK' => ?_; (repeat (refine sxm_nextO rfl fun K2 hK2 => ?_; simp [k3, hH, heads7, lxeq, lx10, binS_add]; (repeat (refine ⟨by omega, ?_⟩)); refine hK2 _ ?_; clear hK2 K2)); refine sxm_nextO rfl fun K2 hK2 => ?_; simp [k3, hH, heads7, lxeq, lx10, binS_add]; refine callD.mk (htx) (by simp; rfl) (by simp; rfl) (by first | exact D.leGo_refl _ | simp [takeMap, List.map_map, Function.comp_def, D.le, D.le.go, D.le_refl, D.leGo_refl, k3, hH, heads7, lxeq, lx10, binS_add]) (by simp) ?_; refine hK2 _ ?_; clear hK2 K2; simp only [putd, upd_lst]; (repeat (refine sxm_nextO rfl fun K2 hK2 => ?_; simp [k3, hH, heads7, lxeq, lx10, binS_add]; (repeat (refine ⟨by omega, ?_⟩)); refine hK2 _ ?_; clear hK2 K2)); refine sxm_nextO rfl fun K2 hK2 => ?_; simp [k3, hH, heads7, lxeq, lx10, binS_add]; refine hcK.mc (wS G d1 (114 :: 101 :: 115 :: 101 :: 116 :: 32 :: (nm ++ 32 :: 61 :: 32 :: (tx ++ [10]))) _ e2 (by simp; omega)) (by simp [k3, hH, heads7, lxeq, lx10, binS_add]) (by simp [k3, hH, heads7, lxeq, lx10, binS_add]) (by simp [k3, hH, heads7, lxeq, lx10, binS_add]) (by simp [k3, hH, heads7, lxeq, lx10, binS_add]) (by simp [k3, hH, heads7, lxeq, lx10, binS_add]) (by simp [k3, hH, heads7, lxeq, lx10, binS_add]) (by simp [LdSame, k3, hH, heads7, lxeq, lx10, binS_add]) ?_; simp [k3, hH, heads7, lxeq, lx10, binS_add]; refine hK2 _ ?_; clear hK2 K2; (repeat (refine sxm_nextO rfl fun K2 hK2 => ?_; simp [k3, hH, heads7, lxeq, lx10, binS_add]; (repeat (refine ⟨by omega, ?_⟩)); refine hK2 _ ?_; clear hK2 K2)); refine sxm_nilO (hK' _ ?_); clear hK' K'; refine hK7 _ (AW.norm [3, 36, 37, 38] [500, 501] (fun _ _ => trivial) (AW.st (by simp [k3, hH, heads7, lxeq, lx10, binS_add]; rfl) ?_)); refine AW_re (tyOf_good _) fun K' hK' => ?_; (repeat (refine sxn fun K2 hK2 => ?_; simp; (repeat (refine ⟨by omega, ?_⟩)); refine hK2 _ ?_; clear hK2 K2)); refine sxz (hK' _ ?_); clear hK' K'; (try simp only [thn, inb]); refine Again.mk (j + 1) (by omega) (by omega) ?_; refine Imp.to' (fun _ _ => trivial) (by simp [adB_ne hcne]) (by simp [adB_ne hcne])
     by_cases k4 : kd = 4
     ·have e2 : cur ++ rungsTx (p.rungs.take (j + 1)) = d1 ++ (114 :: 117 :: 110 :: 32 :: (nm ++ 32 :: 61 :: 32 :: (tx ++ [10]))) := by rw [hsuc, hrt, k4]; simp [headG]
      refine AW_rme (tyOf_good _) (by kernel_rfl) ([501]) ([]) ([15]) ([]) (List.range 16) (by kernel_rfl) (by simp [OffE]) fun K' hK' => ?_; (repeat (refine sxm_nextO rfl fun K2 hK2 => ?_; simp [k4, hH, heads7, lxeq, lx10, binS_add]; (repeat (refine ⟨by omega, ?_⟩)); refine hK2 _ ?_; clear hK2 K2)); refine sxm_nextO rfl fun K2 hK2 => ?_; simp [k4, hH, heads7, lxeq, lx10, binS_add]; refine callD.mk (htx) (by simp; rfl) (by simp; rfl) (by first | exact D.leGo_refl _ | simp [takeMap, List.map_map, Function.comp_def, D.le, D.le.go, D.le_refl, D.leGo_refl, k4, hH, heads7, lxeq, lx10, binS_add]) (by simp) ?_; refine hK2 _ ?_; clear hK2 K2; simp only [putd, upd_lst]; (repeat (refine sxm_nextO rfl fun K2 hK2 => ?_; simp [k4, hH, heads7, lxeq, lx10, binS_add]; (repeat (refine ⟨by omega, ?_⟩)); refine hK2 _ ?_; clear hK2 K2)); refine sxm_nextO rfl fun K2 hK2 => ?_; simp [k4, hH, heads7, lxeq, lx10, binS_add]; refine hcK.mc (wS G d1 (114 :: 117 :: 110 :: 32 :: (nm ++ 32 :: 61 :: 32 :: (tx ++ [10]))) _ e2 (by simp; omega)) (by simp [k4, hH, heads7, lxeq, lx10, binS_add]) (by simp [k4, hH, heads7, lxeq, lx10, binS_add]) (by simp [k4, hH, heads7, lxeq, lx10, binS_add]) (by simp [k4, hH, heads7, lxeq, lx10, binS_add]) (by simp [k4, hH, heads7, lxeq, lx10, binS_add]) (by simp [k4, hH, heads7, lxeq, lx10, binS_add]) (by simp [LdSame, k4, hH, heads7, lxeq, lx10, binS_add]) ?_; simp [k4, hH, heads7, lxeq, lx10, binS_add]; refine hK2 _ ?_; clear hK2 K2; (repeat (refine sxm_nextO rfl fun K2 hK2 => ?_; simp [k4, hH, heads7, lxeq, lx10, binS_add]; (repeat (refine ⟨by omega, ?_⟩)); refine hK2 _ ?_; clear hK2 K2)); refine sxm_nilO (hK' _ ?_); clear hK' K'; refine hK7 _ (AW.norm [3, 36, 37, 38] [500, 501] (fun _ _ => trivial) (AW.st (by simp [k4, hH, heads7, lxeq, lx10, binS_add]; rfl) ?_)); refine AW_re (tyOf_good _) fun K' hK' => ?_; (repeat (refine sxn fun K2 hK2 => ?_; simp; (repeat (refine ⟨by omega, ?_⟩)); refine hK2 _ ?_; clear hK2 K2)); refine sxz (hK' _ ?_); clear hK' K'; (try simp only [thn, inb]); refine Again.mk (j + 1) (by omega) (by omega) ?_; refine Imp.to' (fun _ _ => trivial) (by simp [adB_ne hcne]) (by simp [adB_ne hcne])
     by_cases k5 : kd = 5
     ·have e2 : cur ++ rungsTx (p.rungs.take (j + 1)) = d1 ++ (99 :: 111 :: 117 :: 110 :: 116 :: 32 :: (nm ++ 32 :: 61 :: 32 :: (tx ++ [10]))) := by rw [hsuc, hrt, k5]; simp [headG]
      refine AW_rme (tyOf_good _) (by kernel_rfl) ([501]) ([]) ([15]) ([]) (List.range 16) (by kernel_rfl) (by simp [OffE]) fun K' hK' => ?_; (repeat (refine sxm_nextO rfl fun K2 hK2 => ?_; simp [k5, hH, heads7, lxeq, lx10, binS_add]; (repeat (refine ⟨by omega, ?_⟩)); refine hK2 _ ?_; clear hK2 K2)); refine sxm_nextO rfl fun K2 hK2 => ?_; simp [k5, hH, heads7, lxeq, lx10, binS_add]; refine callD.mk (htx) (by simp; rfl) (by simp; rfl) (by first | exact D.leGo_refl _ | simp [takeMap, List.map_map, Function.comp_def, D.le, D.le.go, D.le_refl, D.leGo_refl, k5, hH, heads7, lxeq, lx10, binS_add]) (by simp) ?_; refine hK2 _ ?_; clear hK2 K2; simp only [putd, upd_lst]; (repeat (refine sxm_nextO rfl fun K2 hK2 => ?_; simp [k5, hH, heads7, lxeq, lx10, binS_add]; (repeat (refine ⟨by omega, ?_⟩)); refine hK2 _ ?_; clear hK2 K2)); refine sxm_nextO rfl fun K2 hK2 => ?_; simp [k5, hH, heads7, lxeq, lx10, binS_add]; refine hcK.mc (wS G d1 (99 :: 111 :: 117 :: 110 :: 116 :: 32 :: (nm ++ 32 :: 61 :: 32 :: (tx ++ [10]))) _ e2 (by simp; omega)) (by simp [k5, hH, heads7, lxeq, lx10, binS_add]) (by simp [k5, hH, heads7, lxeq, lx10, binS_add]) (by simp [k5, hH, heads7, lxeq, lx10, binS_add]) (by simp [k5, hH, heads7, lxeq, lx10, binS_add]) (by simp [k5, hH, heads7, lxeq, lx10, binS_add]) (by simp [k5, hH, heads7, lxeq, lx10, binS_add]) (by simp [LdSame, k5, hH, heads7, lxeq, lx10, binS_add]) ?_; simp [k5, hH, heads7, lxeq, lx10, binS_add]; refine hK2 _ ?_; clear hK2 K2; (repeat (refine sxm_nextO rfl fun K2 hK2 => ?_; simp [k5, hH, heads7, lxeq, lx10, binS_add]; (repeat (refine ⟨by omega, ?_⟩)); refine hK2 _ ?_; clear hK2 K2)); refine sxm_nilO (hK' _ ?_); clear hK' K'; refine hK7 _ (AW.norm [3, 36, 37, 38] [500, 501] (fun _ _ => trivial) (AW.st (by simp [k5, hH, heads7, lxeq, lx10, binS_add]; rfl) ?_)); refine AW_re (tyOf_good _) fun K' hK' => ?_; (repeat (refine sxn fun K2 hK2 => ?_; simp; (repeat (refine ⟨by omega, ?_⟩)); refine hK2 _ ?_; clear hK2 K2)); refine sxz (hK' _ ?_); clear hK' K'; (try simp only [thn, inb]); refine Again.mk (j + 1) (by omega) (by omega) ?_; refine Imp.to' (fun _ _ => trivial) (by simp [adB_ne hcne]) (by simp [adB_ne hcne])
     have k6 : kd = 6 := by omega
     have e2 : cur ++ rungsTx (p.rungs.take (j + 1)) = d1 ++ (122 :: 101 :: 114 :: 111 :: 32 :: (nm ++ 32 :: 61 :: 32 :: (tx ++ [10]))) := by rw [hsuc, hrt, k6]; simp [headG]
     refine AW_rme (tyOf_good _) (by kernel_rfl) ([501]) ([]) ([15]) ([]) (List.range 16) (by kernel_rfl) (by simp [OffE]) fun K' hK' => ?_; (repeat (refine sxm_nextO rfl fun K2 hK2 => ?_; simp [k6, hH, heads7, lxeq, lx10, binS_add]; (repeat (refine ⟨by omega, ?_⟩)); refine hK2 _ ?_; clear hK2 K2)); refine sxm_nextO rfl fun K2 hK2 => ?_; simp [k6, hH, heads7, lxeq, lx10, binS_add]; refine callD.mk (htx) (by simp; rfl) (by simp; rfl) (by first | exact D.leGo_refl _ | simp [takeMap, List.map_map, Function.comp_def, D.le, D.le.go, D.le_refl, D.leGo_refl, k6, hH, heads7, lxeq, lx10, binS_add]) (by simp) ?_; refine hK2 _ ?_; clear hK2 K2; simp only [putd, upd_lst]; (repeat (refine sxm_nextO rfl fun K2 hK2 => ?_; simp [k6, hH, heads7, lxeq, lx10, binS_add]; (repeat (refine ⟨by omega, ?_⟩)); refine hK2 _ ?_; clear hK2 K2)); refine sxm_nextO rfl fun K2 hK2 => ?_; simp [k6, hH, heads7, lxeq, lx10, binS_add]; refine hcK.mc (wS G d1 (122 :: 101 :: 114 :: 111 :: 32 :: (nm ++ 32 :: 61 :: 32 :: (tx ++ [10]))) _ e2 (by simp; omega)) (by simp [k6, hH, heads7, lxeq, lx10, binS_add]) (by simp [k6, hH, heads7, lxeq, lx10, binS_add]) (by simp [k6, hH, heads7, lxeq, lx10, binS_add]) (by simp [k6, hH, heads7, lxeq, lx10, binS_add]) (by simp [k6, hH, heads7, lxeq, lx10, binS_add]) (by simp [k6, hH, heads7, lxeq, lx10, binS_add]) (by simp [LdSame, k6, hH, heads7, lxeq, lx10, binS_add]) ?_; simp [k6, hH, heads7, lxeq, lx10, binS_add]; refine hK2 _ ?_; clear hK2 K2; (repeat (refine sxm_nextO rfl fun K2 hK2 => ?_; simp [k6, hH, heads7, lxeq, lx10, binS_add]; (repeat (refine ⟨by omega, ?_⟩)); refine hK2 _ ?_; clear hK2 K2)); refine sxm_nilO (hK' _ ?_); clear hK' K'; refine hK7 _ (AW.norm [3, 36, 37, 38] [500, 501] (fun _ _ => trivial) (AW.st (by simp [k6, hH, heads7, lxeq, lx10, binS_add]; rfl) ?_)); refine AW_re (tyOf_good _) fun K' hK' => ?_; (repeat (refine sxn fun K2 hK2 => ?_; simp; (repeat (refine ⟨by omega, ?_⟩)); refine hK2 _ ?_; clear hK2 K2)); refine sxz (hK' _ ?_); clear hK' K'; (try simp only [thn, inb]); refine Again.mk (j + 1) (by omega) (by omega) ?_; refine Imp.to' (fun _ _ => trivial) (by simp [adB_ne hcne]) (by simp [adB_ne hcne])
    ·obtain rfl : j = p.rungs.length := by omega
     rw [List.take_length] at hd1; refine AW_exit (hK5 _ ?_)
     have qf := @adB_tr
     refine rgmv (aS G d1) [2] [] ?_; refine AW_ret ?_; simp [D.le, D.le.go, takeMap]; rw [hT, hcur, hd1]
end Go.Proofs.YtjaodmndkpalkaaGreatDoor
namespace Go.Proofs.YtjaodmndkpalkaaGreatDoor
open Go.Av
def HasNW (G : Glob) : Prop := G 2 = some (.ip [.sl none [[.v (.string (bs []))], [.v (.string (bs [105, 110, 112, 117, 116]))], [.v (.string (bs [99, 111, 105, 108]))], [.v (.string (bs [116, 105, 109, 101, 114]))], [.v (.string (bs [99, 111, 117, 110, 116, 101, 114]))]]])
def HasRW (G : Glob) : Prop := G 3 = some (.ip [.sl none [[.v (.string (bs []))], [.v (.string (bs []))], [.v (.string (bs [115, 101, 116]))], [.v (.string (bs [114, 101, 115, 101, 116]))], [.v (.string (bs [114, 117, 110]))], [.v (.string (bs [99, 111, 117, 110, 116]))], [.v (.string (bs [122, 101, 114, 111]))]]])
set_option maxHeartbeats 16000000 in
theorem programText_spec (G : Glob) (hNW : HasNW G) (hRW : HasRW G) (p : PgP) (hp : TxP p) : PureC Tryz.prog G 27 [dPw p] (.v (.string (bs (progT p)))) := by
 unfold HasNW at hNW; unfold HasRW at hRW
 have hT : progT p = namesTx p.names ++ rungsTx p.rungs := rfl
 have ⟨hnm, hrg, hnl, hrl, _⟩ := hp
 have hN := namesTx_len hp
 have hR := rungsTx_len hp
 simp only [dPw, cPw, dNms]; refine PureC.of_body (tyOf_good _) Tryz.func27 rfl rfl (rs := [.tmp 2]) Tryz.results27 (by simp [Tryz.ntmps27]) fun X => ?_; simp only [Tryz.ntmps27, List.map]; refine rg0 [1] [1] ?_; refine AW.imp (Imp.freezeB 1 trivial) ?_; refine AW.st (by simp; rfl) ?_
 have qf := @lxe
 refine rgqv [1,3] [] ?_; refine AW_then fun K1 hK1 => ?_; refine rg0 [1,3,9,10,11] [] ?_; refine AW_for (S := Nat) (fun i => i ≤ p.names.length) (fun i => ⟨lst [(1, .d (.ip [.sl none (p.names.map cNm), .sl none (p.rungs.map cRw')])), (3, .d (.v (.string (bs (namesTx (p.names.take i)))))), (9, .d (.sl none (p.names.map cNm))), (10, int p.names.length), (11, int i)], hlst []⟩) (fun i => p.names.length - i) 0 ?_ (by simp) ?_
 ·refine Imp.to' (fun _ _ => trivial) (by simp [namesTx_zero]) (by simp [namesTx_zero])
 ·intro i hi
  have hlc := hN i
  generalize hcur : namesTx (p.names.take i) = cur at hlc ⊢; refine rg0 [1,3,9,10,11,12] [] ?_; refine AW_then fun K2 hK2 => ?_; refine AW_cond' (b := i < p.names.length) (by simp [D.le, D.le.go, takeMap]) (fun hc => ?_) (fun hc => ?_)
  ·have hil := hc
   obtain ⟨hkd, hct, hnml⟩ := hnm _ (List.getElem_mem hil)
   have hsuc : namesTx (p.names.take (i + 1)) = cur ++ nameT p.names[i] := by rw [namesTx, flatT_succ hil, ← hcur]; rfl
   have hnt : nameT p.names[i] = headN p.names[i].kind ++ p.names[i].name ++ (if 3 ≤ p.names[i].kind then 32 :: dig p.names[i].count.toNat else []) ++ [10] := rfl
   have hcn : cNm p.names[i] = [.v (.string (bs p.names[i].name)), .v (.int .i64 p.names[i].kind), .v (.int .i64 p.names[i].count)] := rfl
   have tj := told_spec G p.names[i].count hct
   have hlj := dig_len (n := p.names[i].count.toNat) (by omega)
   generalize nameT p.names[i] = nt at hsuc hnt; generalize dig p.names[i].count.toNat = dj at tj hlj hnt; generalize p.names[i].name = nm at hnml hnt hcn; generalize p.names[i].kind = kd at hkd hnt hcn; generalize p.names[i].count = ct at hct hcn tj; refine AW_skip (hK2 _ ?_); refine AW_then fun K3 hK3 => ?_; refine AW_block ?_
   have qf := (Aq @hil @hcn)
   refine rgqv [1,3,5,9,10,11] [5] ?_; refine AW.imp (Imp.freezeB 5 trivial) ?_; refine AW.st (by simp; rfl) ?_
   obtain ⟨c1, hc1⟩ : ∃ c, c = cur ++ (headN kd ++ nm) := ⟨_, rfl⟩
   have hhl := headN_len kd
   have hlc1 : c1.length ≤ 2^20 + 2^10 + 8 := by rw [hc1, List.length_append, List.length_append]; omega
   refine' lateG (fun hst => ?_) ?_
   rotate_left
   ·by_cases k1 : kd = 1
    ·have qf := (Aq @k1 (Aq @hNW (Aq @lx32 @binS_add)))
     refine rdqv [1,3,5,9,10,11] [] ?_; refine AW.st (show _ = (⟨lst [(1, .d (.ip [.sl none (p.names.map cNm), .sl none (p.rungs.map cRw')])), (3, .d (.v (.string (bs c1)))), (5, .d (.ip [.v (.string (bs nm)), .v (.int .i64 kd), .v (.int .i64 ct)])), (9, .d (.sl none (p.names.map cNm))), (10, int p.names.length), (11, int i)], hlst []⟩ : St) by rw [hc1, k1] <;> rfl) ?_; exact hst.out
    by_cases k2 : kd = 2
    ·have qf := (Aq @k2 (Aq @hNW (Aq @lx32 @binS_add)))
     refine rdqv [1,3,5,9,10,11] [] ?_; refine AW.st (show _ = (⟨lst [(1, .d (.ip [.sl none (p.names.map cNm), .sl none (p.rungs.map cRw')])), (3, .d (.v (.string (bs c1)))), (5, .d (.ip [.v (.string (bs nm)), .v (.int .i64 kd), .v (.int .i64 ct)])), (9, .d (.sl none (p.names.map cNm))), (10, int p.names.length), (11, int i)], hlst []⟩ : St) by rw [hc1, k2] <;> rfl) ?_; exact hst.out
    by_cases k3 : kd = 3
    ·have qf := (Aq @k3 (Aq @hNW (Aq @lx32 @binS_add)))
     refine rdqv [1,3,5,9,10,11] [] ?_; refine AW.st (show _ = (⟨lst [(1, .d (.ip [.sl none (p.names.map cNm), .sl none (p.rungs.map cRw')])), (3, .d (.v (.string (bs c1)))), (5, .d (.ip [.v (.string (bs nm)), .v (.int .i64 kd), .v (.int .i64 ct)])), (9, .d (.sl none (p.names.map cNm))), (10, int p.names.length), (11, int i)], hlst []⟩ : St) by rw [hc1, k3] <;> rfl) ?_; exact hst.out
    have k4 : kd = 4 := by omega
    have qf := (Aq @k4 (Aq @hNW (Aq @lx32 @binS_add)))
    refine rdqv [1,3,5,9,10,11] [] ?_; refine AW.st (show _ = (⟨lst [(1, .d (.ip [.sl none (p.names.map cNm), .sl none (p.rungs.map cRw')])), (3, .d (.v (.string (bs c1)))), (5, .d (.ip [.v (.string (bs nm)), .v (.int .i64 kd), .v (.int .i64 ct)])), (9, .d (.sl none (p.names.map cNm))), (10, int p.names.length), (11, int i)], hlst []⟩ : St) by rw [hc1, k4] <;> rfl) ?_; exact hst.out
   ·refine AW_then fun K4 hK4 => ?_; refine rg0 [1,3,5,9,10,11,28] [] ?_
    by_cases k3 : 3 ≤ kd
    ·have hfin : namesTx (p.names.take (i + 1)) = c1 ++ 32 :: (dj ++ [10]) := by rw [hsuc, hnt, if_pos k3, hc1]; simp
     refine AW_cond true (by simp [k3]) (fun _ => ?_) (fun h => by cases h); refine AW_re (tyOf_good _) fun K' hK' => ?_; (repeat (refine sxn fun K2 hK2 => ?_; simp [lx32, binS_add]; (repeat (refine ⟨by omega, ?_⟩)); refine hK2 _ ?_; clear hK2 K2)); refine sxn fun K2 hK2 => ?_; simp [lx32, binS_add]; refine callK.lend (tj) (by simp; rfl) (by first | exact D.leGo_refl _ | simp [takeMap, List.map_map, Function.comp_def, D.le, D.le.go, D.le_refl, D.leGo_refl, lx32, binS_add]) (by simp [D.scalar]) ?_; refine hK2 _ ?_; clear hK2 K2; simp only [putd, upd_lst]; (repeat (refine sxn fun K2 hK2 => ?_; simp [lx32, binS_add]; (repeat (refine ⟨by omega, ?_⟩)); refine hK2 _ ?_; clear hK2 K2)); refine sxz (hK' _ ?_); clear hK' K'; refine hK4 _ (AW.norm [1, 3, 9, 10, 11] [] (fun _ _ => trivial) (AW.st (by simp [lx32, binS_add]; rfl) ?_))
     have qf := (Aq @lx10 @binS_add)
     refine reKv hK3 [1,3,9,10,11] [] ?_; refine AW_re (tyOf_good _) fun K' hK' => ?_; (repeat (refine sxn fun K2 hK2 => ?_; simp; (repeat (refine ⟨by omega, ?_⟩)); refine hK2 _ ?_; clear hK2 K2)); refine sxz (hK' _ ?_); clear hK' K'; (try simp only [thn, inb]); refine Again.mk (i + 1) (by omega) (by omega) ?_; refine Imp.to' (fun _ _ => trivial) (by simp [hfin]) (by simp [hfin])
    ·have hfin : namesTx (p.names.take (i + 1)) = c1 ++ [10] := by rw [hsuc, hnt, if_neg k3, hc1]; simp
     refine AW_cond false (by simp; omega) (fun h => by cases h) (fun _ => ?_); refine AW_skip ?_; refine hK4 _ (AW.norm [1, 3, 9, 10, 11] [] (fun _ _ => trivial) (AW.st (by simp; rfl) ?_))
     have qf := (Aq @lx10 @binS_add)
     refine reKv hK3 [1,3,9,10,11] [] ?_; refine AW_re (tyOf_good _) fun K' hK' => ?_; (repeat (refine sxn fun K2 hK2 => ?_; simp; (repeat (refine ⟨by omega, ?_⟩)); refine hK2 _ ?_; clear hK2 K2)); refine sxz (hK' _ ?_); clear hK' K'; (try simp only [thn, inb]); refine Again.mk (i + 1) (by omega) (by omega) ?_; refine Imp.to' (fun _ _ => trivial) (by simp [hfin]) (by simp [hfin])
  ·obtain rfl : i = p.names.length := by omega
   rw [List.take_length] at hcur; refine AW_exit (hK1 _ ?_); refine AW_then fun K5 hK5 => ?_; refine rg0 [3,40,41,42] [] ?_; refine AW_for (S := Nat) (fun j => j ≤ p.rungs.length) (fun j => ⟨lst [(3, .d (.v (.string (bs (cur ++ rungsTx (p.rungs.take j)))))), (40, .d (.sl none (p.rungs.map cRw'))), (41, int p.rungs.length), (42, int j)], hlst []⟩) (fun j => p.rungs.length - j) 0 ?_ (by simp) ?_
   ·refine Imp.to' (fun _ _ => trivial) (by simp [rungsTx_zero, List.append_nil]) (by simp [rungsTx_zero, List.append_nil])
   ·intro j hj
    have hlr := hR j
    have hld : (cur ++ rungsTx (p.rungs.take j)).length ≤ 2^20 + 2^36 := by rw [List.length_append]; omega
    generalize hd1 : cur ++ rungsTx (p.rungs.take j) = d1 at hld ⊢; refine rg0 [3,40,41,42,43] [] ?_; refine AW_then fun K6 hK6 => ?_; refine AW_cond' (b := j < p.rungs.length) (by simp [D.le, D.le.go, takeMap]) (fun hc => ?_) (fun hc => ?_)
    ·have hjl := hc
     obtain ⟨hkd, hrn, e, hce2, hbe, _⟩ := hrg _ (List.getElem_mem hjl)
     have hsuc : cur ++ rungsTx (p.rungs.take (j + 1)) = d1 ++ rungT p.rungs[j] := by rw [rungsTx, flatT_succ hjl, ← hd1, List.append_assoc]; rfl
     have hrt : rungT p.rungs[j] = headG p.rungs[j].kind ++ p.rungs[j].name ++ [32, 61, 32] ++ condT p.rungs[j].cond ++ [10] := rfl
     have hcr : cRw' p.rungs[j] = [.v (.int .i64 p.rungs[j].kind), .v (.string (bs p.rungs[j].name)), dOR p.rungs[j].cond] := rfl
     rw [hce2] at hrt hcr
     have htx := rtxt_spec G e (Nat.le_trans (wr_len e) (by omega))
     have hwl := wr0_bd e
     simp only [dS] at htx; simp only [condT, dOR] at hrt hcr
     obtain ⟨ec, hec⟩ : ∃ c, dR e = .ip c := ⟨_, dR_form e⟩
     rw [hec] at hcr htx; generalize wrE e 0 = tx at hrt htx hwl; generalize rungT p.rungs[j] = rt at hsuc hrt; generalize p.rungs[j].name = nm at hrn hrt hcr; generalize p.rungs[j].kind = kd at hkd hrt hcr; refine AW_skip (hK6 _ ?_); refine AW_then fun K7 hK7 => ?_; refine AW_block ?_
     have qf := (Aq @hjl @hcr)
     refine rgqv [3,7,40,41,42] [7] ?_; refine AW.imp (Imp.freezeB 7 trivial) ?_; refine AW.st (by simp; rfl) ?_; refine AW_then fun K8 hK8 => ?_
     have hgl := headG_len kd
     refine' lateG (fun hst => ?_) ?_
     rotate_left
     ·by_cases k1 : kd = 1
      ·have qf := @k1
       refine rgqv [3,7,40,41,42,48] [] ?_; refine AW_ff rfl ?_; refine AW_skip ?_; refine hK8 _ (AW.norm [3, 7, 40, 41, 42] [] (fun _ _ => trivial) (AW.st (by simp; rfl) ?_)); refine AW.st (show _ = (⟨lst [(3, .d (.v (.string (bs (d1 ++ headG kd))))), (7, .d (.ip [.v (.int .i64 kd), .v (.string (bs nm)), .ip ec])), (40, .d (.sl none (p.rungs.map cRw'))), (41, int p.rungs.length), (42, int j)], hlst []⟩ : St) by rw [k1, show headG 1 = [] from rfl, List.append_nil] <;> rfl) ?_; exact hst.out
      by_cases k2 : kd = 2
      ·have qf := @k2
       refine rgqv [3,7,40,41,42,48] [] ?_; refine AW_tt rfl ?_
       have qf := (Aq @hRW (Aq @lx32 @binS_add))
       refine reKv hK8 [3,7,40,41,42] [] ?_; refine AW.st (show _ = (⟨lst [(3, .d (.v (.string (bs (d1 ++ headG kd))))), (7, .d (.ip [.v (.int .i64 kd), .v (.string (bs nm)), .ip ec])), (40, .d (.sl none (p.rungs.map cRw'))), (41, int p.rungs.length), (42, int j)], hlst []⟩ : St) by rw [k2] <;> rfl) ?_; exact hst.out
      by_cases k3 : kd = 3
      ·have qf := @k3
       refine rgqv [3,7,40,41,42,48] [] ?_; refine AW_tt rfl ?_
       have qf := (Aq @hRW (Aq @lx32 @binS_add))
       refine reKv hK8 [3,7,40,41,42] [] ?_; refine AW.st (show _ = (⟨lst [(3, .d (.v (.string (bs (d1 ++ headG kd))))), (7, .d (.ip [.v (.int .i64 kd), .v (.string (bs nm)), .ip ec])), (40, .d (.sl none (p.rungs.map cRw'))), (41, int p.rungs.length), (42, int j)], hlst []⟩ : St) by rw [k3] <;> rfl) ?_; exact hst.out
      by_cases k4 : kd = 4
      ·have qf := @k4
       refine rgqv [3,7,40,41,42,48] [] ?_; refine AW_tt rfl ?_
       have qf := (Aq @hRW (Aq @lx32 @binS_add))
       refine reKv hK8 [3,7,40,41,42] [] ?_; refine AW.st (show _ = (⟨lst [(3, .d (.v (.string (bs (d1 ++ headG kd))))), (7, .d (.ip [.v (.int .i64 kd), .v (.string (bs nm)), .ip ec])), (40, .d (.sl none (p.rungs.map cRw'))), (41, int p.rungs.length), (42, int j)], hlst []⟩ : St) by rw [k4] <;> rfl) ?_; exact hst.out
      by_cases k5 : kd = 5
      ·have qf := @k5
       refine rgqv [3,7,40,41,42,48] [] ?_; refine AW_tt rfl ?_
       have qf := (Aq @hRW (Aq @lx32 @binS_add))
       refine reKv hK8 [3,7,40,41,42] [] ?_; refine AW.st (show _ = (⟨lst [(3, .d (.v (.string (bs (d1 ++ headG kd))))), (7, .d (.ip [.v (.int .i64 kd), .v (.string (bs nm)), .ip ec])), (40, .d (.sl none (p.rungs.map cRw'))), (41, int p.rungs.length), (42, int j)], hlst []⟩ : St) by rw [k5] <;> rfl) ?_; exact hst.out
      have k6 : kd = 6 := by omega
      have qf := @k6
      refine rgqv [3,7,40,41,42,48] [] ?_; refine AW_tt rfl ?_
      have qf := (Aq @hRW (Aq @lx32 @binS_add))
      refine reKv hK8 [3,7,40,41,42] [] ?_; refine AW.st (show _ = (⟨lst [(3, .d (.v (.string (bs (d1 ++ headG kd))))), (7, .d (.ip [.v (.int .i64 kd), .v (.string (bs nm)), .ip ec])), (40, .d (.sl none (p.rungs.map cRw'))), (41, int p.rungs.length), (42, int j)], hlst []⟩ : St) by rw [k6] <;> rfl) ?_; exact hst.out
     ·have hfin : cur ++ rungsTx (p.rungs.take (j + 1)) = (d1 ++ headG kd) ++ (nm ++ 32 :: 61 :: 32 :: (tx ++ [10])) := by rw [hsuc, hrt]; simp
      generalize hd2 : d1 ++ headG kd = d2 at hfin ⊢
      have hld2 : d2.length ≤ 2^20 + 2^36 + 6 := by rw [← hd2, List.length_append]; omega
      refine AW_rde (tyOf_good _) (by kernel_rfl) (by kernel_rfl) fun K' hK' => ?_; (repeat (refine sxd_next fun K2 hK2 => ?_; simp [lxeq, lx10, binS_add]; (repeat (refine ⟨by omega, ?_⟩)); refine hK2 _ ?_; clear hK2 K2)); refine sxd_next fun K2 hK2 => ?_; simp [lxeq, lx10, binS_add]; refine callQ.data (htx) (by simp; rfl) (by simp; rfl) (by first | exact D.leGo_refl _ | simp [takeMap, List.map_map, Function.comp_def, D.le, D.le.go, D.le_refl, D.leGo_refl, lxeq, lx10, binS_add]) ?_; refine hK2 _ ?_; clear hK2 K2; simp only [putd, upd_lst]; (repeat (refine sxd_next fun K2 hK2 => ?_; simp [lxeq, lx10, binS_add]; (repeat (refine ⟨by omega, ?_⟩)); refine hK2 _ ?_; clear hK2 K2)); refine sxd_nil (hK' _ ?_); clear hK' K'; refine hK7 _ (AW.norm [3, 40, 41, 42] [] (fun _ _ => trivial) (AW.st (by simp [lxeq, lx10, binS_add]; rfl) ?_)); refine AW_re (tyOf_good _) fun K' hK' => ?_; (repeat (refine sxn fun K2 hK2 => ?_; simp; (repeat (refine ⟨by omega, ?_⟩)); refine hK2 _ ?_; clear hK2 K2)); refine sxz (hK' _ ?_); clear hK' K'; (try simp only [thn, inb]); refine Again.mk (j + 1) (by omega) (by omega) ?_; refine Imp.to' (fun _ _ => trivial) (by simp [hfin]) (by simp [hfin])
    ·obtain rfl : j = p.rungs.length := by omega
     rw [List.take_length] at hd1; refine AW_exit (hK5 _ ?_); refine rg0 [2] [] ?_; refine AW_ret ?_; simp [D.le, D.le.go, takeMap]; rw [hT, hcur, hd1]
end Go.Proofs.YtjaodmndkpalkaaGreatDoor
namespace Go.Proofs.YtjaodmndkpalkaaGreatDoor
open Go.Av
def readE (t : List UInt8) : Option Ex := if 1000 < t.length then none else (parseM t).1
def dRead : Option Ex → D
 | none => .tup [.v .nilIface, .v (.pointer none), .v (.bool false)]
 | some x => .tup [dE x, dR x, .v (.bool true)]
set_option maxHeartbeats 4000000 in
theorem read_spec (G : Glob) (hF : HasFine G) (t : List UInt8) : PureC Tryz.prog G 20 [dS t] (dRead (readE t)) := by
 unfold readE
 by_cases hl : 1000 < t.length
 ·have hl' : (1000 : Int) < (t.length : Int) := by omega
  rw [if_pos hl]; refine PureC.of_body (tyOf_good _) Tryz.func20 rfl rfl (rs := [.tmp 2, .tmp 3, .tmp 4]) Tryz.results20 (by simp [Tryz.ntmps20]) fun X => ?_; simp only [Tryz.ntmps20, List.map]
  have fw := (Aq @dNum.eq_1 @dS.eq_1)
  refine rgq fw [0] [] ?_; refine AW_then fun K1 hK1 => ?_
  have qf := (Aq fw (Aq @bs_size (Aq @hl @hl')))
  refine rgqv [0,11] [] ?_; refine AW_tt rfl ?_; refine rgq fw [2,3,4] [] ?_; refine AW_ret ?_; simp [D.le, D.le.go, takeMap, dNum, dS, dRead]
 have hl' : ¬ (1000 : Int) < (t.length : Int) := by omega
 rw [if_neg hl]
 have hrp := rparse_spec G hF t (by omega)
 have hep := parse_spec G t (by omega)
 cases he : (parseM t).2 with
 | some e =>
  obtain ⟨c, p⟩ := e
  have h0 : ¬ c = 0 := by have := parse_pos he; omega
  have hn := parse_none he
  rw [he, hn] at hrp; rw [hn]; refine PureC.of_body (tyOf_good _) Tryz.func20 rfl rfl (rs := [.tmp 2, .tmp 3, .tmp 4]) Tryz.results20 (by simp [Tryz.ntmps20]) fun X => ?_; simp only [Tryz.ntmps20, List.map]
  have fw := (Aq @dNum.eq_1 @dS.eq_1)
  refine rgq fw [0] [] ?_; refine AW_then fun K1 hK1 => ?_
  have qf := (Aq fw (Aq @bs_size (Aq @hl @hl')))
  refine rgqv [0,11] [] ?_; refine AW_ff rfl ?_; refine AW_skip (hK1 _ ?_); refine rgc (Aq fw (Aq @dOR.eq_1 (Aq @dOR.eq_2 (Aq @dFault.eq_1 (Aq @codeF.eq_1 (Aq @codeF.eq_2 (Aq @placeF.eq_1 @placeF.eq_2))))))) hrp [0,5,6] [6] ?_; refine AW_then fun K2 hK2 => ?_
  have qf := (Aq fw @h0)
  refine rgqv [0,5,19] [6] ?_; refine AW_tt rfl ?_; refine rgq fw [2,3,4] [6] ?_; refine AW_ret ?_; simp [D.le, D.le.go, takeMap, dNum, dS, dRead]
 | none =>
  obtain ⟨x, hx⟩ := parse_some he
  obtain ⟨cx, hcx⟩ := dR_ip x
  obtain ⟨tx, dx, hdx⟩ := dE_ifc x
  rw [he, hx] at hrp hep; rw [hx]; simp only [dOR, dOE, dRead] at hrp hep ⊢; rw [hcx] at hrp ⊢; rw [hdx] at hep ⊢; refine PureC.of_body (tyOf_good _) Tryz.func20 rfl rfl (rs := [.tmp 2, .tmp 3, .tmp 4]) Tryz.results20 (by simp [Tryz.ntmps20]) fun X => ?_; simp only [Tryz.ntmps20, List.map]
  have fw := (Aq @dNum.eq_1 @dS.eq_1)
  refine rgq fw [0] [] ?_; refine AW_then fun K1 hK1 => ?_
  have qf := (Aq fw (Aq @bs_size (Aq @hl @hl')))
  refine rgqv [0,11] [] ?_; refine AW_ff rfl ?_; refine AW_skip (hK1 _ ?_); refine rgc (Aq fw (Aq @dFault.eq_1 (Aq @codeF.eq_1 (Aq @codeF.eq_2 (Aq @placeF.eq_1 @placeF.eq_2))))) hrp [0,5,6] [6] ?_; refine AW_then fun K2 hK2 => ?_; refine rgq fw [0,5,19] [6] ?_; refine AW_ff rfl ?_; refine AW_skip (hK2 _ ?_); refine rgc (Aq fw (Aq @dErr.eq_1 (Aq @dErr.eq_2 @dErr.eq_3))) hep [5,7,8] [6] ?_; refine AW_then fun K3 hK3 => ?_; refine rgq fw [5,7,26] [6] ?_; refine AW_ff rfl ?_; refine AW_skip (hK3 _ ?_); refine rgq fw [2,3,4] [6] ?_; refine AW_ret ?_; simp [D.le, D.le.go, takeMap, dNum, dS, D.le_refl, D.leGo_refl]
theorem readE_some {t : List UInt8} {x : Ex} (h : readE t = some x) : (parseM t).1 = some x := by
 unfold readE at h
 split at h
 ·cases h
 ·exact h
end Go.Proofs.YtjaodmndkpalkaaGreatDoor
namespace Go.Proofs.YtjaodmndkpalkaaGreatDoor
open Go.Av
structure RwR where
 kind : Int
 name : Tx
 text : Tx
def cRaw (r : RwR) : List D := [.v (.int .i64 r.kind), dS r.name, dS r.text]
def dRaw (ns : List NmP) (rs : List RwR) : D := .agg [.sl none (ns.map cNm), .sl none (rs.map cRaw)]
def convG (r : RwR) : RgP := ⟨r.kind, r.name, readE r.text⟩
def rawP (ns : List NmP) (rs : List RwR) : PgP := ⟨ns, rs.map convG⟩
theorem lxzz : (⟨#[122, 122]⟩ : ByteArray) = bs [122, 122] := rfl
theorem rl_one' (e : Ex) : (dE e).one = true := by obtain ⟨a, b, h⟩ := dE_ifc e; rw [h]; rfl
theorem read_b {t : Tx} {e : Ex} (h : readE t = some e) : bE e ≤ 10000 ∧ WfE e := ⟨parse_b (readE_some h), (parse_wf (readE_some h)).1⟩
theorem raw_b {ns : List NmP} {rs : List RwR} : ∀ r ∈ (rawP ns rs).rungs, ∀ e, r.cond = some e → bE e ≤ 10000 ∧ WfE e := fun r hr e he => by
 obtain ⟨x, _, rfl⟩ := List.mem_map.1 hr
 exact read_b he
theorem raw_small {ns : List NmP} {rs : List RwR} (h1 : ns.length ≤ 40) (h2 : rs.length ≤ 60) (hn : ∀ n ∈ ns, n.name.length ≤ 30) : SmallP (rawP ns rs) := by
 refine ⟨by show ns.length < _; omega, by show (rs.map convG).length < _; rw [List.length_map]; omega, fun n h => by have := hn n h; omega, fun r hr e he => ?_⟩
 have hb := (raw_b r hr e he).1
 have h1 := Lib.compact_length_le (sortT (nmsE true e))
 have h2 := sortT_len (nmsE true e)
 have h3 := nms_len true e
 refine ⟨by omega, ?_⟩; unfold namesE; omega
theorem checkP_code {p : PgP} {c : Int} {o : Option Nat} (h : checkP p = some (c, o)) : c ≠ 0 := by
 unfold checkP at h
 split at h
 ·simp only [Option.some.injEq, Prod.mk.injEq] at h; omega
 split at h
 ·rename_i hf
  simp only [Option.some.injEq, Prod.mk.injEq] at h
  have := (firstBad_lt hf).2.2
  rw [← h.1]; exact this
 split at h
 ·rename_i hf
  simp only [Option.some.injEq, Prod.mk.injEq] at h
  have := (firstBad_lt hf).2.2
  rw [← h.1]; exact this
 ·cases h
theorem nameF_len {s : Tx} (h : nameF s = true) : s ≠ [] ∧ s.length ≤ 8 := by
 unfold nameF at h; simp only [Bool.and_eq_true, decide_eq_true_eq] at h; exact ⟨h.1, h.2.1⟩
theorem raw_tx {ns : List NmP} {rs : List RwR} (h : checkP (rawP ns rs) = none) : TxP (rawP ns rs) := by
 have hg := checkP_good h
 have hr := checkP_rung h
 refine ⟨fun n hn => ?_, fun r hr1 => ?_, ?_, ?_, fun he => ?_⟩
 ·obtain ⟨h1, h2, h3⟩ := hg.name n hn
  have h4 := nameF_len h1
  rcases hg.count n hn with h5 | h5 <;> exact ⟨⟨h2, h3⟩, by omega, by omega⟩
 ·obtain ⟨h1, h2, e, he, _⟩ := hr r hr1
  obtain ⟨hb, hw⟩ := raw_b r hr1 e he
  obtain ⟨k, hk, hke, hks⟩ := idx_pos h2
  have hks' : (rawP ns rs).names[k].name = r.name := by simpa using hks
  have h4 := nameF_len (hg.name _ (List.getElem_mem hk)).1
  rw [hks'] at h4; exact ⟨h1, by omega, e, he, by omega, hw⟩
 ·have := hg.names; omega
 ·have := hg.rungs; omega
 ·cases hrs : (rawP ns rs).rungs with
  | nil => rfl
  | cons r l =>
   obtain ⟨_, h2, _⟩ := hr r (by rw [hrs]; simp)
   obtain ⟨k, hk, _⟩ := idx_pos h2
   rw [he] at hk; simp at hk
theorem raw_succ {rs : List RwR} {i : Nat} (h : i < rs.length) (f : RgP → List D) : ((rs.take (i + 1)).map convG).map f = ((rs.take i).map convG).map f ++ [f (convG rs[i])] := by
 rw [List.take_succ_eq_append_getElem h, List.map_append, List.map_append]; rfl
theorem binS_neE (s : Tx) : binS .neq (bs s) (bs []) = some (True, .bool (!decide (s = []))) := by
 unfold binS; simp only [bs_list]
 by_cases h : s = []
 ·simp [h]
 ·simp [h]
set_option maxHeartbeats 32000000 in
theorem lchecks_law (G : Glob) (hF : HasFine G) (hG : HasErr G) (hM : HasMax G) (hH : HasHeads G) (hNW : HasNW G) (hRW : HasRW G) (ns : List NmP) (rs : List RwR) : PureC Tryz.prog G 5 [dRaw ns rs] (.v (.bool true)) := by
 have hrd := fun t => read_spec G hF t
 simp only [dRaw, dS] at hrd ⊢; refine PureC.of_body (tyOf_good _) Tryz.func5 rfl rfl (rs := [.tmp 2]) Tryz.results5 (by simp [Tryz.ntmps5]) fun X => ?_; simp only [Tryz.ntmps5, List.map]; refine rg0 [1] [1] ?_; refine AW.imp (Imp.freezeB 1 trivial) ?_; refine AW.st (by simp; rfl) ?_; refine AW_then fun K1 hK1 => ?_
 by_cases g0 : (ns.length : Int) > 40
 ·have qf := @g0
  refine rgqv [1,24] [] ?_; refine AW_tt rfl ?_; refine rg0 [2] [] ?_; refine AW_ret ?_; simp [D.le, D.le.go, takeMap]
 by_cases g1 : (rs.length : Int) > 60
 ·have qf := (Aq @g0 @g1)
  refine rgqv [1,24] [] ?_; refine AW_tt rfl ?_; refine rg0 [2] [] ?_; refine AW_ret ?_; simp [D.le, D.le.go, takeMap]
 have qf := (Aq @g0 @g1)
 refine rgqv [1,24] [] ?_; refine AW_ff rfl ?_; refine AW_skip (hK1 _ ?_); refine rg0 [1,3] [3] ?_; refine rg0 [1,3,4] [3,4] ?_; refine AW.imp (Imp.adoptCell 3 0 301 65 3 rfl rfl rfl) ?_; refine AW.st (by simp; rfl) ?_; refine AW.imp (Imp.adoptCell 3 1 302 73 3 rfl rfl rfl) ?_; refine AW.st (by simp; rfl) ?_; refine AW.imp (Imp.adoptCell 4 0 401 66 3 rfl rfl rfl) ?_; refine AW.st (by simp; rfl) ?_; refine AW.imp (Imp.adoptCell 4 1 402 75 3 rfl rfl rfl) ?_; refine AW.imp (τ := ⟨lst [(1, .d (.ip [.sl none (ns.map cNm), .sl none (rs.map cRaw)])), (3, .ref 3 0 0), (4, .ref 4 0 0)], hlst [(3, .box 29 [.own 301 0 0, .own 302 0 0]), (4, .box 63 [.own 401 0 0, .own 402 0 0]), (301, .sl 65 3 ([])), (302, .sl 73 3 ([])), (401, .sl 66 3 ([])), (402, .sl 75 3 ([]))]⟩) ?_ ?_
 ·refine Imp.to' (fun _ _ => trivial) (by simp) (by simp)
 refine AW_then fun K2 hK2 => ?_; refine rg0 [1,3,4,5] [3,4,301,302,401,402] ?_; refine AW_for (S := Nat) (fun i => i ≤ ns.length ∧ ∀ k (hk : k < ns.length), k < i → ns[k].name.length ≤ 30) (fun i => ⟨lst [(1, .d (.ip [.sl none (ns.map cNm), .sl none (rs.map cRaw)])), (3, .ref 3 0 0), (4, .ref 4 0 0), (5, int i)], hlst [(3, .box 29 [.own 301 0 ((ns.take i).map cNm).length, .own 302 0 0]), (4, .box 63 [.own 401 0 ((ns.take i).map cNm).length, .own 402 0 0]), (301, .sl 65 3 ((ns.take i).map cNm)), (302, .sl 73 3 ([])), (401, .sl 66 3 ((ns.take i).map cNm)), (402, .sl 75 3 ([]))]⟩) (fun i => ns.length - i) 0 ?_ (by simp) ?_
 ·refine Imp.to' (fun _ _ => trivial) (by simp) (by simp)
 ·rintro i ⟨hi, hb⟩
  refine AW_then fun K3 hK3 => ?_
  have hNs : ∀ h : i < ns.length, (ns.take (i + 1)).map cNm = (ns.take i).map cNm ++ [cNm ns[i]] := fun h => by rw [List.take_succ_eq_append_getElem h, List.map_append]; rfl
  have hNl : ((ns.take i).map cNm).length = i := by simp; omega
  have hNe : i = ns.length → (ns.take i).map cNm = ns.map cNm := fun h => by rw [h, List.take_length]
  generalize hNN : (ns.take i).map cNm = NN at hNs hNl hNe ⊢; refine rg0 [1,3,4,5,29] [3,4,301,302,401,402] ?_; refine AW_cond' (b := i < ns.length) (by simp [D.le, D.le.go, takeMap]) (fun hc => ?_) (fun hc => ?_)
  ·have hlt := hc
   have hN2 := hNs hlt
   have hcn : cNm ns[i] = [.v (.string (bs ns[i].name)), .v (.int .i64 ns[i].kind), .v (.int .i64 ns[i].count)] := rfl
   have hlen : ns[i].name.length ≤ 30 → ∀ k (hk : k < ns.length), k < i + 1 → ns[k].name.length ≤ 30 := fun h0 k hk hki => by
    by_cases h : k = i
    ·subst h; exact h0
    ·exact hb k hk (by omega)
   generalize ns[i].name = nm at hcn hlen; generalize ns[i].kind = kd at hcn; generalize ns[i].count = ct at hcn; refine AW_skip (hK3 _ ?_); refine AW_then fun K4 hK4 => ?_; refine AW_block ?_
   have qf := (Aq @hlt @hcn)
   refine rgqv [1,3,4,5,6] [3,4,301,302,401,402,6] ?_; refine AW.imp (Imp.freezeB 6 trivial) ?_; refine AW.st (by simp; rfl) ?_; refine AW_then fun K5 hK5 => ?_
   by_cases h30 : (nm.length : Int) > 30
   ·have qf := (Aq @bs_size @h30)
    refine rgqv [1,3,4,5,6,40] [3,4,301,302,401,402] ?_; refine AW_cond true (by simp [h30]) (fun _ => ?_) (fun h => by cases h); refine rg0 [2] [] ?_; refine AW_ret ?_; simp [D.le, D.le.go, takeMap]
   ·have qf := (Aq @bs_size @h30)
    refine rgqv [1,3,4,5,6,40] [3,4,301,302,401,402] ?_; refine AW_cond false (by simp [h30]) (fun h => by cases h) (fun _ => ?_); refine AW_skip (hK5 _ ?_); refine AW_rle (tyOf_good _) (by kernel_rfl) ([(4, (301, 44)), (15, (401, 55))]) ([(5, [301]), (6, [301]), (7, [301]), (8, [301]), (9, [301]), (10, [301]), (11, [301]), (12, [301]), (13, [301]), (14, [301]), (16, [401])]) ([0, 1, 2, 5, 6, 7, 8, 9, 10, 11, 12, 13, 3, 14, 4, 16, 15, 17, 18, 19]) (by kernel_rfl) fun K' hK' => ?_; (repeat (refine sxl_nextO rfl fun K2 hK2 => ?_; simp [hNl, List.take_of_length_le]; (repeat (refine ⟨by omega, ?_⟩)); refine hK2 _ ?_; clear hK2 K2)); refine sxl_nilO (hK' _ ?_); clear hK' K'; refine hK4 _ (AW.norm [1, 3, 4, 5] [3, 4, 301, 302, 401, 402] (fun _ _ => trivial) (AW.st (by simp [hNl, List.take_of_length_le]; rfl) ?_)); refine AW_re (tyOf_good _) fun K' hK' => ?_; (repeat (refine sxn fun K2 hK2 => ?_; simp; (repeat (refine ⟨by omega, ?_⟩)); refine hK2 _ ?_; clear hK2 K2)); refine sxz (hK' _ ?_); clear hK' K'; (try simp only [thn, inb]); refine Again.mk (i + 1) ⟨by omega, hlen (by omega)⟩ (by omega) ?_; refine Imp.to' (fun _ _ => trivial) (by simp [hN2, hcn, hNl]) (by simp [hN2, hcn, hNl])
  ·obtain rfl : i = ns.length := by omega
   rw [hNe rfl] at hNN hNl ⊢; refine AW_exit (hK2 _ ?_); refine AW_then fun K6 hK6 => ?_; refine rg0 [1,3,4,7] [3,4,301,302,401,402] ?_
   obtain ⟨GG, hGG⟩ : ∃ f : Nat → List (List D), f = fun i => ((rs.take i).map convG).map cRg := ⟨_, rfl⟩
   obtain ⟨WW, hWW⟩ : ∃ f : Nat → List (List D), f = fun i => ((rs.take i).map convG).map cRw' := ⟨_, rfl⟩
   have hGs0 : ∀ i (h : i < rs.length), GG (i + 1) = GG i ++ [cRg (convG rs[i])] := fun i h => by rw [hGG]; exact raw_succ h cRg
   have hWs0 : ∀ i (h : i < rs.length), WW (i + 1) = WW i ++ [cRw' (convG rs[i])] := fun i h => by rw [hWW]; exact raw_succ h cRw'
   have hGl0 : ∀ i, i ≤ rs.length → (GG i).length = i := fun i h => by rw [hGG]; simp; omega
   have hWl0 : ∀ i, i ≤ rs.length → (WW i).length = i := fun i h => by rw [hWW]; simp; omega
   have hGe : GG rs.length = (rs.map convG).map cRg := by rw [hGG]; simp
   have hWe : WW rs.length = (rs.map convG).map cRw' := by rw [hWW]; simp
   have hG0 : GG 0 = [] := by rw [hGG]; rfl
   have hW0 : WW 0 = [] := by rw [hWW]; rfl
   clear hGG hWW; refine AW_for (S := Nat) (fun i => i ≤ rs.length) (fun i => ⟨lst [(1, .d (.ip [.sl none (ns.map cNm), .sl none (rs.map cRaw)])), (3, .ref 3 0 0), (4, .ref 4 0 0), (7, int i)], hlst [(3, .box 29 [.own 301 0 ns.length, .own 302 0 (GG i).length]), (4, .box 63 [.own 401 0 ns.length, .own 402 0 (WW i).length]), (301, .sl 65 3 (ns.map cNm)), (302, .sl 73 3 (GG i)), (401, .sl 66 3 (ns.map cNm)), (402, .sl 75 3 (WW i))]⟩) (fun i => rs.length - i) 0 ?_ (by simp) ?_
   ·refine Imp.to' (fun _ _ => trivial) (by simp [hG0, hW0]) (by simp [hG0, hW0])
   ·intro i hi
    refine AW_then fun K7 hK7 => ?_
    have hGs := hGs0 i
    have hWs := hWs0 i
    have hGl := hGl0 i hi
    have hWl := hWl0 i hi
    have hGe2 : i = rs.length → GG i = (rs.map convG).map cRg := fun h => by rw [h, hGe]
    have hWe2 : i = rs.length → WW i = (rs.map convG).map cRw' := fun h => by rw [h, hWe]
    generalize GG i = RG at hGs hGl hGe2 ⊢; generalize WW i = RW at hWs hWl hWe2 ⊢; refine rg0 [1,3,4,7,63] [3,4,301,302,401,402] ?_; refine AW_cond' (b := i < rs.length) (by simp [D.le, D.le.go, takeMap]) (fun hc => ?_) (fun hc => ?_)
    ·have hlt := hc
     have hG2 := hGs hlt
     have hW2 := hWs hlt
     have hcr : cRaw rs[i] = [.v (.int .i64 rs[i].kind), .v (.string (bs rs[i].name)), .v (.string (bs rs[i].text))] := rfl
     have hgc : cRg (convG rs[i]) = [.v (.int .i64 rs[i].kind), .v (.string (bs rs[i].name)), dC (readE rs[i].text)] := rfl
     have hwc : cRw' (convG rs[i]) = [.v (.int .i64 rs[i].kind), .v (.string (bs rs[i].name)), dOR (readE rs[i].text)] := rfl
     have hr := hrd rs[i].text
     have o9 : (dC (readE rs[i].text)).one = true := by
      cases readE rs[i].text with
      | none => rfl
      | some e => exact rl_one' e
     have o10 : (dOR (readE rs[i].text)).one = true := by
      cases readE rs[i].text with
      | none => rfl
      | some e => show (dR e).one = true; rw [dR_form]; rfl
     generalize readE rs[i].text = cd at hgc hwc hr o9 o10; generalize hc9 : dC cd = c9 at hgc o9; generalize hc10 : dOR cd = c10 at hwc o10; generalize rs[i].text = tx at hcr hr; generalize rs[i].name = nm at hcr hgc hwc; generalize rs[i].kind = kd at hcr hgc hwc; refine AW_skip (hK7 _ ?_); refine AW_then fun K8 hK8 => ?_; refine AW_block ?_
     have qf := (Aq @hlt @hcr)
     refine rgqv [1,3,4,7,8] [3,4,301,302,401,402,8] ?_; refine AW.imp (Imp.freezeB 8 trivial) ?_; refine AW.st (by simp; rfl) ?_; refine' lateG (fun hst => ?_) ?_
     rotate_left
     ·by_cases hcd : cd = none
      ·rw [hcd] at hr hc9 hc10; simp only [dRead] at hr; simp only [dC] at hc9; simp only [dOR] at hc10; refine rgc trivial hr [1,3,4,7,8,9,10,11] [3,4,301,302,401,402] ?_; refine AW_then fun K9 hK9 => ?_
       by_cases htx : tx = []
       ·have qf := (Aq @lxe (Aq @binS_neE @htx))
        refine rgqv [1,3,4,7,8,9,10,11,94] [3,4,301,302,401,402] ?_; refine AW_ff rfl ?_; refine AW_skip ?_; refine hK9 _ (AW.norm [1, 3, 4, 7, 8, 9, 10] [3, 4, 301, 302, 401, 402] (fun _ _ => trivial) (AW.st (by simp; rfl) ?_)); refine AW.st (show _ = (⟨lst [(1, .d (.ip [.sl none (ns.map cNm), .sl none (rs.map cRaw)])), (3, .ref 3 0 0), (4, .ref 4 0 0), (7, int i), (8, .d (.ip [.v (.int .i64 kd), .v (.string (bs nm)), .v (.string (bs tx))])), (9, .d c9), (10, .d c10)], hlst [(3, .box 29 [.own 301 0 ns.length, .own 302 0 RG.length]), (4, .box 63 [.own 401 0 ns.length, .own 402 0 RW.length]), (301, .sl 65 3 (ns.map cNm)), (302, .sl 73 3 RG), (401, .sl 66 3 (ns.map cNm)), (402, .sl 75 3 RW)]⟩ : St) by rw [← hc9, ← hc10, htx] <;> rfl) ?_; exact hst.out
       ·have qf := (Aq @lxe (Aq @binS_neE @htx))
        refine rgqv [1,3,4,7,8,9,10,11,94] [3,4,301,302,401,402] ?_; refine AW_tt rfl ?_; refine rg0 [2] [] ?_; refine AW_ret ?_; simp [D.le, D.le.go, takeMap]
      ·obtain ⟨e, hce⟩ : ∃ e, cd = some e := Option.ne_none_iff_exists'.1 hcd
       obtain ⟨ta, ca, hta⟩ := dE_ifc e
       obtain ⟨ec, hec⟩ : ∃ c, dR e = .ip c := ⟨_, dR_form e⟩
       rw [hce] at hr hc9 hc10; simp only [dRead, hta, hec] at hr; simp only [dC, hta] at hc9; simp only [dOR, hec] at hc10; refine rgc trivial hr [1,3,4,7,8,9,10,11] [3,4,301,302,401,402] ?_; refine AW_then fun K9 hK9 => ?_
       by_cases htx : tx = []
       ·have qf := (Aq @lxe (Aq @binS_neE @htx))
        refine rgqv [1,3,4,7,8,9,10,11,94] [3,4,301,302,401,402] ?_; refine AW_ff rfl ?_; refine AW_skip ?_; refine hK9 _ (AW.norm [1, 3, 4, 7, 8, 9, 10] [3, 4, 301, 302, 401, 402] (fun _ _ => trivial) (AW.st (by simp; rfl) ?_)); refine AW.st (show _ = (⟨lst [(1, .d (.ip [.sl none (ns.map cNm), .sl none (rs.map cRaw)])), (3, .ref 3 0 0), (4, .ref 4 0 0), (7, int i), (8, .d (.ip [.v (.int .i64 kd), .v (.string (bs nm)), .v (.string (bs tx))])), (9, .d c9), (10, .d c10)], hlst [(3, .box 29 [.own 301 0 ns.length, .own 302 0 RG.length]), (4, .box 63 [.own 401 0 ns.length, .own 402 0 RW.length]), (301, .sl 65 3 (ns.map cNm)), (302, .sl 73 3 RG), (401, .sl 66 3 (ns.map cNm)), (402, .sl 75 3 RW)]⟩ : St) by rw [← hc9, ← hc10, htx] <;> rfl) ?_; exact hst.out
       by_cases h200 : (tx.length : Int) > 200
       ·have qf := (Aq @lxe (Aq @binS_neE (Aq @htx (Aq @bs_size @h200))))
        refine rgqv [1,3,4,7,8,9,10,11,94] [3,4,301,302,401,402] ?_; refine AW_cond true (by simp [h200]) (fun _ => ?_) (fun h => by cases h); refine rg0 [2] [] ?_; refine AW_ret ?_; simp [D.le, D.le.go, takeMap]
       ·have qf := (Aq @lxe (Aq @binS_neE (Aq @htx (Aq @bs_size @h200))))
        refine rgqv [1,3,4,7,8,9,10,11,94] [3,4,301,302,401,402] ?_; refine AW_cond false (by simp [h200]) (fun h => by cases h) (fun _ => ?_); refine AW_skip ?_; refine hK9 _ (AW.norm [1, 3, 4, 7, 8, 9, 10] [3, 4, 301, 302, 401, 402] (fun _ _ => trivial) (AW.st (by simp; rfl) ?_)); refine AW.st (show _ = (⟨lst [(1, .d (.ip [.sl none (ns.map cNm), .sl none (rs.map cRaw)])), (3, .ref 3 0 0), (4, .ref 4 0 0), (7, int i), (8, .d (.ip [.v (.int .i64 kd), .v (.string (bs nm)), .v (.string (bs tx))])), (9, .d c9), (10, .d c10)], hlst [(3, .box 29 [.own 301 0 ns.length, .own 302 0 RG.length]), (4, .box 63 [.own 401 0 ns.length, .own 402 0 RW.length]), (301, .sl 65 3 (ns.map cNm)), (302, .sl 73 3 RG), (401, .sl 66 3 (ns.map cNm)), (402, .sl 75 3 RW)]⟩ : St) by rw [← hc9, ← hc10] <;> rfl) ?_; exact hst.out
     ·have hsh : (c9 = .v .nilIface ∧ c10 = .v (.pointer none)) ∨ ∃ ta ca ec, c9 = .ifc ta ca ∧ c10 = .ip ec := by
       rw [← hc9, ← hc10]
       cases cd with
       | none => exact .inl ⟨rfl, rfl⟩
       | some e => obtain ⟨ta, ca, hta⟩ := dE_ifc e; exact .inr ⟨ta, ca, _, hta, dR_form e⟩
      clear hc9 hc10
      rcases hsh with ⟨rfl, rfl⟩ | ⟨ta, ca, ec, rfl, rfl⟩
      all_goals
       ·refine AW_rle (tyOf_good _) (by kernel_rfl) ([(9, (302, 109)), (19, (402, 119))]) ([(10, [302]), (11, [302]), (12, [302]), (13, [302]), (14, [302]), (15, [302]), (16, [302]), (17, [302]), (18, [302]), (20, [402])]) ([0, 1, 2, 3, 4, 5, 6, 7, 10, 11, 12, 13, 14, 15, 16, 17, 8, 18, 9, 20, 19, 21, 22, 23]) (by kernel_rfl) fun K' hK' => ?_; (repeat (refine sxl_nextO rfl fun K2 hK2 => ?_; simp [hGl, hWl, o9, o10, List.take_of_length_le]; (repeat (refine ⟨by omega, ?_⟩)); refine hK2 _ ?_; clear hK2 K2)); refine sxl_nilO (hK' _ ?_); clear hK' K'; refine hK8 _ (AW.norm [1, 3, 4, 7] [3, 4, 301, 302, 401, 402] (fun _ _ => trivial) (AW.st (by simp [hGl, hWl, o9, o10, List.take_of_length_le]; rfl) ?_)); refine AW_re (tyOf_good _) fun K' hK' => ?_; (repeat (refine sxn fun K2 hK2 => ?_; simp; (repeat (refine ⟨by omega, ?_⟩)); refine hK2 _ ?_; clear hK2 K2)); refine sxz (hK' _ ?_); clear hK' K'; (try simp only [thn, inb]); refine Again.mk (i + 1) (by omega) (by omega) ?_; refine Imp.to' (fun _ _ => trivial) (by simp [hG2, hW2, hgc, hwc, hGl, hWl]) (by simp [hG2, hW2, hgc, hwc, hGl, hWl])
    ·obtain rfl : i = rs.length := by omega
     rw [hGe2 rfl, hWe2 rfl]; refine AW_exit (hK6 _ ?_)
     have hn30 : ∀ n ∈ ns, n.name.length ≤ 30 := fun n hn => by
      obtain ⟨k, hk, rfl⟩ := List.mem_iff_getElem.1 hn
      exact hb k hk hk
     have hsm := raw_small (ns := ns) (rs := rs) (by omega) (by omega) hn30
     have hlc := ladderCheck_spec G (rawP ns rs) hsm
     have hwc := ldw_check G hF hM (rawP ns rs) hsm
     have hat := at_same G hG (checkP (rawP ns rs))
     have hcode := fun c o => checkP_code (p := rawP ns rs) (c := c) (o := o)
     have hok := fun h => raw_tx (ns := ns) (rs := rs) h
     have hgp := fun h => checkP_good (p := rawP ns rs) h
     have hrp := fun h => checkP_rung (p := rawP ns rs) h
     have hes := fun h => edges_same (p := rawP ns rs) h
     have eP : dPg (rawP ns rs) = .agg [.sl none (ns.map cNm), .sl none ((rs.map convG).map cRg)] := rfl
     have eW : dPw (rawP ns rs) = .agg [.sl none (ns.map cNm), .sl none ((rs.map convG).map cRw')] := rfl
     rw [eP] at hlc; rw [eW] at hwc; generalize hRGv : (rs.map convG).map cRg = RGv at hlc eP ⊢; generalize hRWv : (rs.map convG).map cRw' = RWv at hwc eW ⊢; refine AW.imp (Imp.freeze 301 trivial) ?_; refine AW.st (by simp [List.take_of_length_le]; rfl) ?_; refine AW.imp (Imp.freeze 302 trivial) ?_; refine AW.st (by simp [List.take_of_length_le]; rfl) ?_; refine AW.imp (Imp.freeze 401 trivial) ?_; refine AW.st (by simp [List.take_of_length_le]; rfl) ?_; refine AW.imp (Imp.freeze 402 trivial) ?_; refine AW.st (by simp [List.take_of_length_le]; rfl) ?_; refine AW.imp (Imp.freezeB 3 trivial) ?_; refine AW.st (by simp; rfl) ?_; refine AW.imp (Imp.freezeB 4 trivial) ?_; refine AW.st (by simp; rfl) ?_; generalize hres : checkP (rawP ns rs) = res at hlc hwc hat hcode hok hgp hrp hes
     cases res with
     | some v =>
      obtain ⟨c, o⟩ := v
      have hc0 := hcode c o rfl
      simp only [dFault, dNum, codeF] at hwc hat
      generalize dErr (some (c, o)) = de at hlc hat
      generalize placeF (some (c, o)) = pl at hwc hat
      refine rgc trivial hwc [1,3,4,12] [12] ?_; refine AW.imp (Imp.freezeB 12 trivial) ?_; refine AW.st (by simp; rfl) ?_; refine AW_then fun K10 hK10 => ?_; refine AW_rd (tyOf_good _) (by kernel_rfl) [1, 3, 4, 12, 129] [] (fun _ _ => trivial) (by kernel_rfl) fun K' hK' => ?_; (repeat (refine sxd_next fun K2 hK2 => ?_; simp; (repeat (refine ⟨by omega, ?_⟩)); refine hK2 _ ?_; clear hK2 K2)); refine sxd_next fun K2 hK2 => ?_; simp; refine callQ.data (hlc) (by simp; rfl) (by simp; rfl) (by first | exact D.leGo_refl _ | simp [takeMap, List.map_map, Function.comp_def, D.le, D.le.go, D.le_refl, D.leGo_refl]) ?_; refine hK2 _ ?_; clear hK2 K2; simp only [putd, upd_lst]; (repeat (refine sxd_next fun K2 hK2 => ?_; simp; (repeat (refine ⟨by omega, ?_⟩)); refine hK2 _ ?_; clear hK2 K2)); refine sxd_next fun K2 hK2 => ?_; simp; refine callQ.data (hat) (by simp; rfl) (by simp; rfl) (by first | exact D.leGo_refl _ | simp [takeMap, List.map_map, Function.comp_def, D.le, D.le.go, D.le_refl, D.leGo_refl]) ?_; refine hK2 _ ?_; clear hK2 K2; simp only [putd, upd_lst]; (repeat (refine sxd_next fun K2 hK2 => ?_; simp; (repeat (refine ⟨by omega, ?_⟩)); refine hK2 _ ?_; clear hK2 K2)); refine sxd_nil (hK' _ ?_); refine AW.st (by simp; rfl) ?_; clear hK' K'; refine AW_ff rfl ?_; refine AW_skip (hK10 _ ?_); refine AW_then fun K11 hK11 => ?_
      have qf := @hc0
      refine rgqv [1,3,4,132] [] ?_; refine AW_tt rfl ?_; refine rg0 [2] [] ?_; refine AW_ret ?_; simp [D.le, D.le.go, takeMap]
     | none =>
      have htx := hok rfl
      have hgood := hgp rfl
      have hrung := hrp rfl
      have hedge := hes rfl
      simp only [dFault, dNum, codeF, placeF] at hwc hat
      simp only [dErr] at hlc hat
      refine rgc trivial hwc [1,3,4,12] [12] ?_; refine AW.imp (Imp.freezeB 12 trivial) ?_; refine AW.st (by simp; rfl) ?_; refine AW_then fun K10 hK10 => ?_; refine AW_rd (tyOf_good _) (by kernel_rfl) [1, 3, 4, 12, 129] [] (fun _ _ => trivial) (by kernel_rfl) fun K' hK' => ?_; (repeat (refine sxd_next fun K2 hK2 => ?_; simp; (repeat (refine ⟨by omega, ?_⟩)); refine hK2 _ ?_; clear hK2 K2)); refine sxd_next fun K2 hK2 => ?_; simp; refine callQ.data (hlc) (by simp; rfl) (by simp; rfl) (by first | exact D.leGo_refl _ | simp [takeMap, List.map_map, Function.comp_def, D.le, D.le.go, D.le_refl, D.leGo_refl]) ?_; refine hK2 _ ?_; clear hK2 K2; simp only [putd, upd_lst]; (repeat (refine sxd_next fun K2 hK2 => ?_; simp; (repeat (refine ⟨by omega, ?_⟩)); refine hK2 _ ?_; clear hK2 K2)); refine sxd_next fun K2 hK2 => ?_; simp; refine callQ.data (hat) (by simp; rfl) (by simp; rfl) (by first | exact D.leGo_refl _ | simp [takeMap, List.map_map, Function.comp_def, D.le, D.le.go, D.le_refl, D.leGo_refl]) ?_; refine hK2 _ ?_; clear hK2 K2; simp only [putd, upd_lst]; (repeat (refine sxd_next fun K2 hK2 => ?_; simp; (repeat (refine ⟨by omega, ?_⟩)); refine hK2 _ ?_; clear hK2 K2)); refine sxd_nil (hK' _ ?_); refine AW.st (by simp; rfl) ?_; clear hK' K'; refine AW_ff rfl ?_; refine AW_skip (hK10 _ ?_); refine AW_then fun K11 hK11 => ?_; refine rg0 [1,3,4,132] [] ?_; refine AW_ff rfl ?_; refine AW_skip (hK11 _ ?_); refine AW_then fun K12 hK12 => ?_; refine rg0 [1,3,4,13] [] ?_; refine AW_for (S := Nat) (fun k => k ≤ 6) (fun k => ⟨lst [(1, .d (.ip [.sl none (ns.map cNm), .sl none (rs.map cRaw)])), (3, .d (.ip [.sl none (ns.map cNm), .sl none RGv])), (4, .d (.ip [.sl none (ns.map cNm), .sl none RWv])), (13, int k)], hlst []⟩) (fun k => 6 - k) 0 ?_ (by simp) ?_
      ·refine Imp.to' (fun _ _ => trivial) (by simp) (by simp)
      ·intro k hk
       refine AW_then fun K13 hK13 => ?_; refine rg0 [1,3,4,13,134] [] ?_; refine AW_cond' (b := (k : Int) < 6) (by simp [D.le, D.le.go, takeMap]) (fun hc => ?_) (fun hc => ?_)
       ·have hk6 : k < 6 := by omega
        have h1 := lkind_spec G (rawP ns rs) (by show ns.length < _; omega) k
        have h2 := wkind_spec G (rawP ns rs) (by show ns.length < _; omega) k
        have hkl := kindN_len (rawP ns rs).names k (rawP ns rs).names.length
        have hnl : (rawP ns rs).names.length ≤ 40 := by show ns.length ≤ 40; omega
        have h3 := lsameInts_spec G none none (kindN (rawP ns rs).names k (rawP ns rs).names.length) (kindN (rawP ns rs).names k (rawP ns rs).names.length) (by omega)
        rw [beq_self_eq_true] at h3; simp only [dInts] at h3; rw [eP] at h1; rw [eW] at h2; generalize kindN (rawP ns rs).names k (rawP ns rs).names.length = KL at h1 h2 h3; refine AW_skip (hK13 _ ?_); refine AW_then fun K14 hK14 => ?_; refine AW_block ?_; refine AW_rd (tyOf_good _) (by kernel_rfl) [1, 3, 4, 13, 144] [] (fun _ _ => trivial) (by kernel_rfl) fun K' hK' => ?_; (repeat (refine sxd_next fun K2 hK2 => ?_; simp; (repeat (refine ⟨by omega, ?_⟩)); refine hK2 _ ?_; clear hK2 K2)); refine sxd_next fun K2 hK2 => ?_; simp; refine callQ.data (h1) (by simp; rfl) (by simp; rfl) (by first | exact D.leGo_refl _ | simp [takeMap, List.map_map, Function.comp_def, D.le, D.le.go, D.le_refl, D.leGo_refl]) ?_; refine hK2 _ ?_; clear hK2 K2; simp only [putd, upd_lst]; (repeat (refine sxd_next fun K2 hK2 => ?_; simp; (repeat (refine ⟨by omega, ?_⟩)); refine hK2 _ ?_; clear hK2 K2)); refine sxd_next fun K2 hK2 => ?_; simp; refine callQ.data (h2) (by simp; rfl) (by simp; rfl) (by first | exact D.leGo_refl _ | simp [takeMap, List.map_map, Function.comp_def, D.le, D.le.go, D.le_refl, D.leGo_refl]) ?_; refine hK2 _ ?_; clear hK2 K2; simp only [putd, upd_lst]; (repeat (refine sxd_next fun K2 hK2 => ?_; simp; (repeat (refine ⟨by omega, ?_⟩)); refine hK2 _ ?_; clear hK2 K2)); refine sxd_next fun K2 hK2 => ?_; simp; refine callQ.data (h3) (by simp; rfl) (by simp; rfl) (by first | exact D.leGo_refl _ | simp [takeMap, List.map_map, Function.comp_def, D.le, D.le.go, D.le_refl, D.leGo_refl]) ?_; refine hK2 _ ?_; clear hK2 K2; simp only [putd, upd_lst]; (repeat (refine sxd_next fun K2 hK2 => ?_; simp; (repeat (refine ⟨by omega, ?_⟩)); refine hK2 _ ?_; clear hK2 K2)); refine sxd_nil (hK' _ ?_); refine AW.st (by simp; rfl) ?_; clear hK' K'; refine AW_ff rfl ?_; refine AW_skip (hK14 _ ?_); refine AW_re (tyOf_good _) fun K' hK' => ?_; (repeat (refine sxn fun K2 hK2 => ?_; simp; (repeat (refine ⟨by omega, ?_⟩)); refine hK2 _ ?_; clear hK2 K2)); refine sxz (hK' _ ?_); clear hK' K'; (try simp only [thn, inb]); refine Again.mk (k + 1) (by omega) (by omega) ?_; refine Imp.to' (fun _ _ => trivial) (by simp) (by simp)
       ·refine AW_exit (hK12 _ ?_); refine AW_then fun K15 hK15 => ?_; refine rg0 [1,3,4,14] [] ?_; refine AW_for (S := Nat) (fun i => i ≤ ns.length) (fun i => ⟨lst [(1, .d (.ip [.sl none (ns.map cNm), .sl none (rs.map cRaw)])), (3, .d (.ip [.sl none (ns.map cNm), .sl none RGv])), (4, .d (.ip [.sl none (ns.map cNm), .sl none RWv])), (14, int i)], hlst []⟩) (fun i => ns.length - i) 0 ?_ (by simp) ?_
        ·refine Imp.to' (fun _ _ => trivial) (by simp) (by simp)
        ·intro i hi
         refine AW_then fun K16 hK16 => ?_; refine rg0 [1,3,4,14,149] [] ?_; refine AW_cond' (b := i < ns.length) (by simp [D.le, D.le.go, takeMap]) (fun hc => ?_) (fun hc => ?_)
         ·have hlt := hc
          have hlt' : (i : Int) < (ns.length : Int) := by omega
          have h1 := lc_num G (rawP ns rs) (by show ns.length < _; omega) ns[i].name
          have h2 : numP (rawP ns rs) ns[i].name = i := hgood.num i hlt
          rw [h2, eP] at h1; simp only [dS] at h1
          have hcn : cNm ns[i] = [.v (.string (bs ns[i].name)), .v (.int .i64 ns[i].kind), .v (.int .i64 ns[i].count)] := rfl
          generalize ns[i].name = nm at h1 hcn; refine AW_skip (hK16 _ ?_); refine AW_then fun K17 hK17 => ?_; refine AW_block ?_
          have qf := (Aq @hlt @hcn)
          refine rdcv h1 [1,3,4,14,161] [] ?_; refine AW_cond false (by simp) (fun h => by cases h) (fun _ => ?_); refine AW_skip (hK17 _ ?_); refine AW_re (tyOf_good _) fun K' hK' => ?_; (repeat (refine sxn fun K2 hK2 => ?_; simp; (repeat (refine ⟨by omega, ?_⟩)); refine hK2 _ ?_; clear hK2 K2)); refine sxz (hK' _ ?_); clear hK' K'; (try simp only [thn, inb]); refine Again.mk (i + 1) (by omega) (by omega) ?_; refine Imp.to' (fun _ _ => trivial) (by simp) (by simp)
         ·refine AW_exit (hK15 _ ?_)
          have t1 := ladderText_spec G hH (rawP ns rs) htx
          have t2 := programText_spec G hNW hRW (rawP ns rs) htx
          have hnn : ∀ n ∈ (rawP ns rs).names, n.name ≠ [] := fun n hn => (nameF_len (hgood.name n hn).1).1
          have hrb : ∀ r ∈ (rawP ns rs).rungs, ∃ e, r.cond = some e ∧ bE e ≤ 2^28 := fun r hr => by
           obtain ⟨_, _, e, he, _⟩ := hrung r hr
           exact ⟨e, he, by have := (raw_b r hr e he).1; omega⟩
          have hrl : (rawP ns rs).rungs.length ≤ 100 := by have := hgood.rungs; omega
          have hnl : (rawP ns rs).names.length ≤ 40 := by show ns.length ≤ 40; omega
          have e1 := ledges_spec G (rawP ns rs) (by omega) hrl hrb
          have e2 := wedges_spec G hM (rawP ns rs) (by omega) hnn hrl hrb
          rw [hedge] at e1
          have hwl := wedN_len (rawP ns rs) (rawP ns rs).names.length
          have e3 := lsameInts_spec G none none (wedN (rawP ns rs) (rawP ns rs).names.length) (wedN (rawP ns rs) (rawP ns rs).names.length) (by omega)
          rw [beq_self_eq_true] at e3; simp only [dInts] at e3
          have z1 := lc_num G (rawP ns rs) (by omega) [122, 122]
          have z2 := wnum_spec G (rawP ns rs) (by omega) [122, 122]
          rw [eP] at t1 e1 z1; rw [eW] at t2 e2 z2; simp only [dS] at z1 z2; generalize progT (rawP ns rs) = PT at t1 t2; generalize wedN (rawP ns rs) (rawP ns rs).names.length = WL at e1 e2 e3; generalize numP (rawP ns rs) [122, 122] = ZZ at z1 z2; refine AW_rd (tyOf_good _) (by kernel_rfl) [2] [] (fun _ _ => trivial) (by kernel_rfl) fun K' hK' => ?_; (repeat (refine sxd_next fun K2 hK2 => ?_; simp [binS, bs_list, lxzz]; (repeat (refine ⟨by omega, ?_⟩)); refine hK2 _ ?_; clear hK2 K2)); refine sxd_next fun K2 hK2 => ?_; simp [binS, bs_list, lxzz]; refine callQ.data (t1) (by simp; rfl) (by simp; rfl) (by first | exact D.leGo_refl _ | simp [takeMap, List.map_map, Function.comp_def, D.le, D.le.go, D.le_refl, D.leGo_refl, binS, bs_list, lxzz]) ?_; refine hK2 _ ?_; clear hK2 K2; simp only [putd, upd_lst]; (repeat (refine sxd_next fun K2 hK2 => ?_; simp [binS, bs_list, lxzz]; (repeat (refine ⟨by omega, ?_⟩)); refine hK2 _ ?_; clear hK2 K2)); refine sxd_next fun K2 hK2 => ?_; simp [binS, bs_list, lxzz]; refine callQ.data (t2) (by simp; rfl) (by simp; rfl) (by first | exact D.leGo_refl _ | simp [takeMap, List.map_map, Function.comp_def, D.le, D.le.go, D.le_refl, D.leGo_refl, binS, bs_list, lxzz]) ?_; refine hK2 _ ?_; clear hK2 K2; simp only [putd, upd_lst]; (repeat (refine sxd_next fun K2 hK2 => ?_; simp [binS, bs_list, lxzz]; (repeat (refine ⟨by omega, ?_⟩)); refine hK2 _ ?_; clear hK2 K2)); refine sxd_next fun K2 hK2 => ?_; simp [binS, bs_list, lxzz]; refine callQ.data (e1) (by simp; rfl) (by simp; rfl) (by first | exact D.leGo_refl _ | simp [takeMap, List.map_map, Function.comp_def, D.le, D.le.go, D.le_refl, D.leGo_refl, binS, bs_list, lxzz]) ?_; refine hK2 _ ?_; clear hK2 K2; simp only [putd, upd_lst]; (repeat (refine sxd_next fun K2 hK2 => ?_; simp [binS, bs_list, lxzz]; (repeat (refine ⟨by omega, ?_⟩)); refine hK2 _ ?_; clear hK2 K2)); refine sxd_next fun K2 hK2 => ?_; simp [binS, bs_list, lxzz]; refine callQ.data (e2) (by simp; rfl) (by simp; rfl) (by first | exact D.leGo_refl _ | simp [takeMap, List.map_map, Function.comp_def, D.le, D.le.go, D.le_refl, D.leGo_refl, binS, bs_list, lxzz]) ?_; refine hK2 _ ?_; clear hK2 K2; simp only [putd, upd_lst]; (repeat (refine sxd_next fun K2 hK2 => ?_; simp [binS, bs_list, lxzz]; (repeat (refine ⟨by omega, ?_⟩)); refine hK2 _ ?_; clear hK2 K2)); refine sxd_next fun K2 hK2 => ?_; simp [binS, bs_list, lxzz]; refine callQ.data (e3) (by simp; rfl) (by simp; rfl) (by first | exact D.leGo_refl _ | simp [takeMap, List.map_map, Function.comp_def, D.le, D.le.go, D.le_refl, D.leGo_refl, binS, bs_list, lxzz]) ?_; refine hK2 _ ?_; clear hK2 K2; simp only [putd, upd_lst]; (repeat (refine sxd_next fun K2 hK2 => ?_; simp [binS, bs_list, lxzz]; (repeat (refine ⟨by omega, ?_⟩)); refine hK2 _ ?_; clear hK2 K2)); refine sxd_next fun K2 hK2 => ?_; simp [binS, bs_list, lxzz]; refine callQ.data (z1) (by simp; rfl) (by simp; rfl) (by first | exact D.leGo_refl _ | simp [takeMap, List.map_map, Function.comp_def, D.le, D.le.go, D.le_refl, D.leGo_refl, binS, bs_list, lxzz]) ?_
          refine hK2 _ ?_; clear hK2 K2; simp only [putd, upd_lst]; (repeat (refine sxd_next fun K2 hK2 => ?_; simp [binS, bs_list, lxzz]; (repeat (refine ⟨by omega, ?_⟩)); refine hK2 _ ?_; clear hK2 K2)); refine sxd_next fun K2 hK2 => ?_; simp [binS, bs_list, lxzz]; refine callQ.data (z2) (by simp; rfl) (by simp; rfl) (by first | exact D.leGo_refl _ | simp [takeMap, List.map_map, Function.comp_def, D.le, D.le.go, D.le_refl, D.leGo_refl, binS, bs_list, lxzz]) ?_; refine hK2 _ ?_; clear hK2 K2; simp only [putd, upd_lst]; (repeat (refine sxd_next fun K2 hK2 => ?_; simp [binS, bs_list, lxzz]; (repeat (refine ⟨by omega, ?_⟩)); refine hK2 _ ?_; clear hK2 K2)); refine sxd_nil (hK' _ ?_); refine AW.st (by simp [binS, bs_list, lxzz]; rfl) ?_; clear hK' K'; refine AW_ret ?_; simp [D.le, D.le.go, takeMap]
end Go.Proofs.YtjaodmndkpalkaaGreatDoor
namespace Go.Proofs.YtjaodmndkpalkaaGreatDoor
open Go.Av Go.ChangeShapes Go.WideShapes Go.ChangeAt Go.RowKit
theorem cellsK_int : Tryz.prog.cellsOf 3 = 1 := by kernel_rfl
theorem cellsK_str : Tryz.prog.cellsOf 9 = 1 := by kernel_rfl
theorem cellsK_nm : Tryz.prog.cellsOf 65 = 3 := by kernel_rfl
theorem cellsK_rw : Tryz.prog.cellsOf 68 = 3 := by kernel_rfl
theorem cellsK_nms : Tryz.prog.cellsOf 26 = 1 := by kernel_rfl
theorem cellsK_rws : Tryz.prog.cellsOf 57 = 1 := by kernel_rfl
theorem cellsK_raw : Tryz.prog.cellsOf 59 = 2 := by kernel_rfl
theorem listK3 {α : Type} : ∀ {l : List α}, l.length = 3 → ∃ a b c, l = [a, b, c]
 | [a, b, c], _ => ⟨a, b, c, rfl⟩
section
variable {H : Type} {enc : TypeId × Value → H} {w : World} {base : Nat} {spare : Nat → Bool} {held : Bool} {X : Nat → Prop}
theorem readsK_int : ReadsAs enc Tryz.prog w base spare held X 3 (fun _ : Int => True) (fun n => [.v (.int .i64 n)]) := fun fuel cs x h =>
 let ⟨n, _, hr⟩ := reads_int Tryz.underlying3 fuel cs x h
 ⟨n, trivial, hr⟩
theorem readsK_str : ReadsAs enc Tryz.prog w base spare held X 9 (fun _ : Tx => True) (fun s => [dS s]) := fun fuel cs x h => by
 obtain ⟨s, rfl, _⟩ := DataW.trod_string Tryz.underlying9 h
 refine ⟨s.data.toList, trivial, .one ?_⟩
 have : bs s.data.toList = s := by cases s; simp [bs]
 show RD w X (.string s) (.v (.string (bs s.data.toList)))
 rw [this]; exact .v _
theorem readsK_nm : ReadsAs enc Tryz.prog w base spare held X 65 (fun _ : NmP => True) cNm := fun fuel cs x h => by
 obtain ⟨xs, n, _, rfl, hl, hlen, hf⟩ := DataW.trod_struct Tryz.underlying65 h
 obtain ⟨y0, y1, y2, rfl⟩ := listK3 hlen
 rw [cellsK_nm] at hl
 obtain ⟨c0, c1, c2, rfl⟩ := listK3 hl
 have t0 : DataW.trod enc Tryz.prog w base spare held n 9 (([c0, c1, c2].drop 0).take (Tryz.prog.cellsOf 9)) = some y0 := hf 0 _ rfl
 have t1 : DataW.trod enc Tryz.prog w base spare held n 3 (([c0, c1, c2].drop 1).take (Tryz.prog.cellsOf 3)) = some y1 := hf 1 _ rfl
 have t2 : DataW.trod enc Tryz.prog w base spare held n 3 (([c0, c1, c2].drop 2).take (Tryz.prog.cellsOf 3)) = some y2 := hf 2 _ rfl
 rw [cellsK_int] at t1 t2; rw [cellsK_str] at t0
 obtain ⟨a0, _, r0⟩ := readsK_str (X := X) _ _ _ (show DataW.trod enc Tryz.prog w base spare held n 9 [c0] = _ from t0)
 obtain ⟨a1, _, r1⟩ := readsK_int (X := X) _ _ _ (show DataW.trod enc Tryz.prog w base spare held n 3 [c1] = _ from t1)
 obtain ⟨a2, _, r2⟩ := readsK_int (X := X) _ _ _ (show DataW.trod enc Tryz.prog w base spare held n 3 [c2] = _ from t2)
 refine ⟨⟨a0, a1, a2⟩, trivial, rfl, fun j u c hu hc => ?_⟩
 match j, hu, hc with
 | 0, hu, hc => exact r0.2 0 u c (by simpa using hu) (by simpa [cNm] using hc)
 | 1, hu, hc => exact r1.2 0 u c (by simpa using hu) (by simpa [cNm] using hc)
 | 2, hu, hc => exact r2.2 0 u c (by simpa using hu) (by simpa [cNm] using hc)
 | j + 3, hu, hc => simp at hu
theorem readsK_rw : ReadsAs enc Tryz.prog w base spare held X 68 (fun _ : RwR => True) cRaw := fun fuel cs x h => by
 obtain ⟨xs, n, _, rfl, hl, hlen, hf⟩ := DataW.trod_struct Tryz.underlying68 h
 obtain ⟨y0, y1, y2, rfl⟩ := listK3 hlen
 rw [cellsK_rw] at hl
 obtain ⟨c0, c1, c2, rfl⟩ := listK3 hl
 have t0 : DataW.trod enc Tryz.prog w base spare held n 3 (([c0, c1, c2].drop 0).take (Tryz.prog.cellsOf 3)) = some y0 := hf 0 _ rfl
 have t1 : DataW.trod enc Tryz.prog w base spare held n 9 (([c0, c1, c2].drop 1).take (Tryz.prog.cellsOf 9)) = some y1 := hf 1 _ rfl
 have t2 : DataW.trod enc Tryz.prog w base spare held n 9 (([c0, c1, c2].drop 2).take (Tryz.prog.cellsOf 9)) = some y2 := hf 2 _ rfl
 rw [cellsK_int] at t0; rw [cellsK_str] at t1 t2
 obtain ⟨a0, _, r0⟩ := readsK_int (X := X) _ _ _ (show DataW.trod enc Tryz.prog w base spare held n 3 [c0] = _ from t0)
 obtain ⟨a1, _, r1⟩ := readsK_str (X := X) _ _ _ (show DataW.trod enc Tryz.prog w base spare held n 9 [c1] = _ from t1)
 obtain ⟨a2, _, r2⟩ := readsK_str (X := X) _ _ _ (show DataW.trod enc Tryz.prog w base spare held n 9 [c2] = _ from t2)
 refine ⟨⟨a0, a1, a2⟩, trivial, rfl, fun j u c hu hc => ?_⟩
 match j, hu, hc with
 | 0, hu, hc => exact r0.2 0 u c (by simpa using hu) (by simpa [cRaw] using hc)
 | 1, hu, hc => exact r1.2 0 u c (by simpa using hu) (by simpa [cRaw] using hc)
 | 2, hu, hc => exact r2.2 0 u c (by simpa using hu) (by simpa [cRaw] using hc)
 | j + 3, hu, hc => simp at hu
theorem readsK_nms (hX : ∀ b, ¬ X b) : ReadsAs enc Tryz.prog w base spare held X 26 (fun _ : List NmP => True) (fun l => [.sl none (l.map cNm)]) := fun fuel cs x h => by
 obtain ⟨l, _, hr⟩ := reads_slice Tryz.underlying26 cellsK_nm (by omega) hX readsK_nm fuel cs x h
 exact ⟨l, trivial, hr⟩
theorem readsK_rws (hX : ∀ b, ¬ X b) : ReadsAs enc Tryz.prog w base spare held X 57 (fun _ : List RwR => True) (fun l => [.sl none (l.map cRaw)]) := fun fuel cs x h => by
 obtain ⟨l, _, hr⟩ := reads_slice Tryz.underlying57 cellsK_rw (by omega) hX readsK_rw fuel cs x h
 exact ⟨l, trivial, hr⟩
theorem readsK_raw (hX : ∀ b, ¬ X b) : ReadsAs enc Tryz.prog w base spare held X 59 (fun _ : List NmP × List RwR => True) (fun s => [.sl none (s.1.map cNm), .sl none (s.2.map cRaw)]) := fun fuel cs x h => by
 obtain ⟨s, _, hr⟩ := reads_struct2 Tryz.underlying59 (by rw [cellsK_raw]; simp only [cellsK_nms, cellsK_rws]) rfl (by simp only [cellsK_nms]) (readsK_nms hX) (readsK_rws hX) fuel cs x h
 exact ⟨s, trivial, hr⟩
end
end Go.Proofs.YtjaodmndkpalkaaGreatDoor
namespace Go.Proofs.YtjaodmndkpalkaaGreatDoor
open Go.Av Go.ChangeShapes Go.WideShapes Go.ChangeAt Go.RowKit
theorem law_own : ownKnob Tryz.prog.godebug = none := by kernel_rfl
theorem law_laidOut : laidOutB Tryz.prog = true := by kernel_rfl
theorem cells_int : Tryz.prog.cellsOf 3 = 1 := by kernel_rfl
section
variable {H : Type} {enc : TypeId × Value → H} {w : World} {base : Nat} {spare : Nat → Bool} {held : Bool} {X : Nat → Prop}
end
end Go.Proofs.YtjaodmndkpalkaaGreatDoor
