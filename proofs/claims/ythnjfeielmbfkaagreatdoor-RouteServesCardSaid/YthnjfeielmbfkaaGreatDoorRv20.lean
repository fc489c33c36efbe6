/-
  Texts that belong together, in one file: Sh8, IT, RL1, LC2, RL2, RL3, RL6, LK, RN, LW, LE0, SC1, SP1, RV1, RL4, RL5.
-/
import Derived.Test.YthnjfeielmbfkaaGreatDoorRv19
import Derived.Test.YthnjfeielmbfkaaGreatDoorProg
import Derived.Ground.NamesProg
import Derived.Shelf.Strconv.Itoa3
set_option linter.unusedSimpArgs false
set_option linter.unusedVariables false
namespace Go.Proofs
open Go.Shelf
def Tryz.lays171_ren : Go.Shelf.Ren := ⟨fun | 171 => 53 | 243 => 106 | 246 => 160 | 283 => 198 | 284 => 199 | 285 => 200 | 286 => 201 | 129 => 216 | 317 => 243 | 318 => 244 | 319 => 245 | 320 => 246 | 337 => 264 | 338 => 265 | n => n, fun | 3 => 3 | 9 => 9 | 2 => 2 | 4 => 4 | 171 => 285 | 0 => 0 | 53 => 286 | 37 => 156 | 5 => 5 | 173 => 289 | 212 => 334 | 51 => 304 | 20 => 20 | 213 => 335 | 46 => 120 | 232 => 378 | 233 => 379 | n => n, fun | 17 => 6 | 18 => 11 | 19 => 12 | n => n⟩
theorem Tryz.lays171 : Go.Proofs.LaysM.n171 Tryz.prog Tryz.lays171_ren := {
 mixed := by kernel_rfl
 f129 := Tryz.func216.trans (congrArg some (by kernel_rfl))
 f171 := Tryz.func53.trans (congrArg some (by kernel_rfl))
 f243 := Tryz.func106.trans (congrArg some (by kernel_rfl))
 f246 := Tryz.func160.trans (congrArg some (by kernel_rfl))
 f283 := Tryz.func198.trans (congrArg some (by kernel_rfl))
 f284 := Tryz.func199.trans (congrArg some (by kernel_rfl))
 f285 := Tryz.func200.trans (congrArg some (by kernel_rfl))
 f286 := Tryz.func201.trans (congrArg some (by kernel_rfl))
 f317 := Tryz.func243.trans (congrArg some (by kernel_rfl))
 f318 := Tryz.func244.trans (congrArg some (by kernel_rfl))
 f319 := Tryz.func245.trans (congrArg some (by kernel_rfl))
 f320 := Tryz.func246.trans (congrArg some (by kernel_rfl))
 f337 := Tryz.func264.trans (congrArg some (by kernel_rfl))
 f338 := Tryz.func265.trans (congrArg some (by kernel_rfl))
 t0 := Tryz.underlying0
 a0 := Tryz.isAgg0
 z0 := Tryz.sizeOf0
 v0 := Tryz.zeroValue0
 t2 := Tryz.underlying2
 a2 := Tryz.isAgg2
 z2 := Tryz.sizeOf2
 v2 := Tryz.zeroValue2
 t3 := Tryz.underlying3
 a3 := Tryz.isAgg3
 z3 := Tryz.sizeOf3
 v3 := Tryz.zeroValue3
 t4 := Tryz.underlying4
 a4 := Tryz.isAgg4
 z4 := Tryz.sizeOf4
 v4 := Tryz.zeroValue4
 t5 := Tryz.underlying5
 a5 := Tryz.isAgg5
 z5 := Tryz.sizeOf5
 v5 := Tryz.zeroValue5
 t9 := Tryz.underlying9
 a9 := Tryz.isAgg9
 z9 := Tryz.sizeOf9
 v9 := Tryz.zeroValue9
 t20 := Tryz.underlying20
 a20 := Tryz.isAgg20
 z20 := Tryz.sizeOf20
 v20 := Tryz.zeroValue20
 t37 := Tryz.underlying156
 a37 := Tryz.isAgg156
 z37 := Tryz.sizeOf156
 v37 := Tryz.zeroValue156
 t46 := Tryz.underlying120
 a46 := Tryz.isAgg120
 z46 := Tryz.sizeOf120
 v46 := Tryz.zeroValue120
 t51 := Tryz.underlying304
 a51 := Tryz.isAgg304
 z51 := Tryz.sizeOf304
 v51 := Tryz.zeroValue304
 t53 := Tryz.underlying286
 a53 := Tryz.isAgg286
 z53 := Tryz.sizeOf286
 v53 := Tryz.zeroValue286
 t171 := Tryz.underlying285
 a171 := Tryz.isAgg285
 z171 := Tryz.sizeOf285
 v171 := Tryz.zeroValue285
 t173 := Tryz.underlying289
 a173 := Tryz.isAgg289
 z173 := Tryz.sizeOf289
 v173 := Tryz.zeroValue289
 t212 := Tryz.underlying334
 a212 := Tryz.isAgg334
 z212 := Tryz.sizeOf334
 v212 := Tryz.zeroValue334
 t213 := Tryz.underlying335
 a213 := Tryz.isAgg335
 z213 := Tryz.sizeOf335
 t232 := Tryz.underlying378
 a232 := Tryz.isAgg378
 z232 := Tryz.sizeOf378
 v232 := Tryz.zeroValue378
 t233 := Tryz.underlying379
 a233 := Tryz.isAgg379
 z233 := Tryz.sizeOf379
 v233 := Tryz.zeroValue379
 g17 := by kernel_rfl
 g18 := by kernel_rfl
 g19 := by kernel_rfl
 i0 := by kernel_rfl
 i2 := by kernel_rfl
 i3 := by kernel_rfl
 i4 := by kernel_rfl
 i5 := by kernel_rfl
 i9 := by kernel_rfl
 i20 := by kernel_rfl
 i37 := by kernel_rfl
 i46 := by kernel_rfl
 i51 := by kernel_rfl
 i53 := by kernel_rfl
 i171 := by kernel_rfl
 i173 := by kernel_rfl
 i212 := by kernel_rfl
 i232 := by kernel_rfl
 i233 := by kernel_rfl
 m17 := by kernel_rfl
 m18 := by kernel_rfl
 m19 := by kernel_rfl }
end Go.Proofs
namespace Go.Proofs.YthnjfeielmbfkaaGreatDoor
open Go.Av Go.Shelf
theorem itoa_small (G : Glob) (i : Nat) (hi : i < 100) : PureC Tryz.prog G 53 [dNum i] (dS (Lib.decDigits i)) := by
 refine PureC.of_calls (Fun.of Tryz.func53 rfl rfl) fun X w vs hsz hrd hgl => ?_
 obtain ⟨u, rfl⟩ : ∃ u, vs = #[u] := by
  match vs, hsz with
  | ⟨[u]⟩, _ => exact ⟨u, rfl⟩
 have hu := (hrd 0 u _ rfl rfl).scalar
 subst hu
 have hL : Lays.n171 Tryz.prog Tryz.lays171_ren := { Tryz.lays171 with }
 refine (Any.strconv_Itoa_small hL i hi w).mono fun e w' ⟨he, hw⟩ => ⟨_, he, by rw [hw]; exact Grew.refl _, ?_⟩; exact .v _
end Go.Proofs.YthnjfeielmbfkaaGreatDoor
namespace Go.Proofs.YthnjfeielmbfkaaGreatDoor
open Go.Av
theorem binS_add' (a b : List UInt8) : binS .add (bs a) (bs b) = some (a.length + b.length ≤ 9223372036854775807, .string (bs (a ++ b))) := by
 unfold binS; simp only [bs_size, bs_append]
theorem decLen {n : Nat} (h : n < 100) : (Lib.decDigits n).length ≤ 2 := by
 have : ∀ k : Fin 100, (Lib.decDigits k.val).length ≤ 2 := by decide +kernel
 exact this ⟨n, h⟩
def nmT (c : UInt8) (n : Nat) : List UInt8 := c :: Lib.decDigits n
theorem nmT_len (c : UInt8) {n : Nat} (h : n < 100) : (nmT c n).length ≤ 3 := by
 have := decLen h
 simp only [nmT, List.length_cons]; omega
theorem itoaN (G : Glob) (i : Int) (h : 0 ≤ i ∧ i < 100) : PureC Tryz.prog G 53 [.v (.int .i64 i)] (.v (.string (bs (Lib.decDigits i.toNat)))) := by
 have := itoa_small G i.toNat (by omega)
 rwa [dNum, Int.toNat_of_nonneg h.1] at this
set_option maxHeartbeats 1000000 in
theorem rname_spec (G : Glob) (c : UInt8) (i : Int) (h : 0 ≤ i ∧ i < 100) : PureC Tryz.prog G 44 [.v (.string (bs [c])), .v (.int .i64 i)] (.v (.string (bs (nmT c i.toNat)))) := by
 have hI := itoaN G i h
 have hl := decLen (n := i.toNat) (by omega)
 unfold nmT; generalize Lib.decDigits i.toNat = dg at hI hl ⊢; refine PureC.of_body (tyOf_good _) Tryz.func44 rfl rfl (rs := [.tmp 4]) Tryz.results44 (by simp [Tryz.ntmps44]) fun X => ?_; simp only [Tryz.ntmps44, List.map]; refine rg0 [0,1] [] ?_
 have qf := @binS_add'
 refine rgcv hI [4] [] ?_; refine AW_ret ?_; simp [D.le, D.le.go, takeMap]
def andE : List Ex → Ex
 | [x] => x
 | l => .and l
def orE : List Ex → Ex
 | [x] => x
 | l => .or l
set_option maxHeartbeats 1000000 in
theorem rand_spec (G : Glob) (k : Option Bool) (l : List Ex) : PureC Tryz.prog G 46 [.sl k (l.map fun e => [dE e])] (dE (andE l)) := by
 match l with
 | [x] =>
  obtain ⟨t, y, hx⟩ := dE_ifc x
  simp only [andE, List.map_cons, List.map_nil, hx]; refine PureC.of_body (tyOf_good _) Tryz.func46 rfl rfl (rs := [.tmp 2]) Tryz.results46 (by simp [Tryz.ntmps46]) fun X => ?_; simp only [Tryz.ntmps46, List.map]; refine rg0 [0] [] ?_; refine AW_then fun K1 hK1 => ?_; refine rg0 [0,5] [] ?_; refine AW_tt rfl ?_; refine rg0 [2] [] ?_; refine AW_ret ?_; simp [D.le, D.le.go, takeMap, D.le_refl]
 | [] =>
  simp only [andE, dE, dEs_map]; refine PureC.of_body (tyOf_good _) Tryz.func46 rfl rfl (rs := [.tmp 2]) Tryz.results46 (by simp [Tryz.ntmps46]) fun X => ?_; simp only [Tryz.ntmps46, List.map]; refine rg0 [0] [] ?_; refine AW_then fun K1 hK1 => ?_; refine rg0 [0,5] [] ?_; refine AW_ff rfl ?_; refine AW_skip (hK1 _ ?_); refine rg0 [2] [] ?_; refine AW_ret ?_; simp [D.le, D.le.go, takeMap]
 | a :: b :: r =>
  have h1 : ¬ ((r.length : Int) + 1 + 1 = 1) := by omega
  simp only [andE, dE, dEs_map]; generalize hl : a :: b :: r = l
  have hlen : (l.length : Int) = (r.length : Int) + 1 + 1 := by rw [← hl]; simp
  have h2 : ¬ ((l.length : Int) = 1) := by omega
  have h3 : ¬ (l.length = 1) := by omega
  refine PureC.of_body (tyOf_good _) Tryz.func46 rfl rfl (rs := [.tmp 2]) Tryz.results46 (by simp [Tryz.ntmps46]) fun X => ?_; simp only [Tryz.ntmps46, List.map]; refine rg0 [0] [] ?_; refine AW_then fun K1 hK1 => ?_
  have qf := (Aq @h2 @h3)
  refine rgqv [0,5] [] ?_; refine AW_cond false (by simp [h2, h3]) (fun h => by cases h) (fun _ => ?_); refine AW_skip (hK1 _ ?_); refine rg0 [2] [] ?_; refine AW_ret ?_; simp [D.le, D.le.go, takeMap, D.leGo_refl]
set_option maxHeartbeats 1000000 in
theorem ror_spec (G : Glob) (k : Option Bool) (l : List Ex) : PureC Tryz.prog G 49 [.sl k (l.map fun e => [dE e])] (dE (orE l)) := by
 match l with
 | [x] =>
  obtain ⟨t, y, hx⟩ := dE_ifc x
  simp only [orE, List.map_cons, List.map_nil, hx]; refine PureC.of_body (tyOf_good _) Tryz.func49 rfl rfl (rs := [.tmp 2]) Tryz.results49 (by simp [Tryz.ntmps49]) fun X => ?_; simp only [Tryz.ntmps49, List.map]; refine rg0 [0] [] ?_; refine AW_then fun K1 hK1 => ?_; refine rg0 [0,5] [] ?_; refine AW_tt rfl ?_; refine rg0 [2] [] ?_; refine AW_ret ?_; simp [D.le, D.le.go, takeMap, D.le_refl]
 | [] =>
  simp only [orE, dE, dEs_map]; refine PureC.of_body (tyOf_good _) Tryz.func49 rfl rfl (rs := [.tmp 2]) Tryz.results49 (by simp [Tryz.ntmps49]) fun X => ?_; simp only [Tryz.ntmps49, List.map]; refine rg0 [0] [] ?_; refine AW_then fun K1 hK1 => ?_; refine rg0 [0,5] [] ?_; refine AW_ff rfl ?_; refine AW_skip (hK1 _ ?_); refine rg0 [2] [] ?_; refine AW_ret ?_; simp [D.le, D.le.go, takeMap]
 | a :: b :: r =>
  simp only [orE, dE, dEs_map]; generalize hl : a :: b :: r = l
  have hlen : (l.length : Int) = (r.length : Int) + 1 + 1 := by rw [← hl]; simp
  have h2 : ¬ ((l.length : Int) = 1) := by omega
  have h3 : ¬ (l.length = 1) := by omega
  refine PureC.of_body (tyOf_good _) Tryz.func49 rfl rfl (rs := [.tmp 2]) Tryz.results49 (by simp [Tryz.ntmps49]) fun X => ?_; simp only [Tryz.ntmps49, List.map]; refine rg0 [0] [] ?_; refine AW_then fun K1 hK1 => ?_
  have qf := (Aq @h2 @h3)
  refine rgqv [0,5] [] ?_; refine AW_cond false (by simp [h2, h3]) (fun h => by cases h) (fun _ => ?_); refine AW_skip (hK1 _ ?_); refine rg0 [2] [] ?_; refine AW_ret ?_; simp [D.le, D.le.go, takeMap, D.leGo_refl]
def freeE (s : Int) : Ex := .not (.bit (nmT 98 s.toNat))
def freeL (ss : List Int) : List Ex := ss.map freeE
theorem freeL_succ {ss : List Int} {i : Nat} (h : i < ss.length) : freeL (ss.take (i + 1)) = freeL (ss.take i) ++ [freeE ss[i]] := by
 unfold freeL; rw [List.take_succ_eq_append_getElem h, List.map_append]; rfl
theorem freeL_len {ss : List Int} {i : Nat} (h : i ≤ ss.length) : (freeL (ss.take i)).length = i := by simp [freeL]; omega
theorem freeL_nil : freeL [] = [] := rfl
theorem lxb98 : (⟨#[98]⟩ : ByteArray) = bs [98] := rfl
theorem lxb97 : (⟨#[97]⟩ : ByteArray) = bs [97] := rfl
theorem lxb108 : (⟨#[108]⟩ : ByteArray) = bs [108] := rfl
theorem lxb112 : (⟨#[112]⟩ : ByteArray) = bs [112] := rfl
theorem dE_free (s : Int) : dE (freeE s) = .ifc 110 (.agg [.ifc 108 (.v (.string (bs (nmT 98 s.toNat))))]) := rfl
set_option maxHeartbeats 4000000 in
theorem rfree_spec (G : Glob) (r : Rt) (hs : r.1.length < 2^40) (hr : ∀ s ∈ r.1, 0 ≤ s ∧ s < 100) : PureC Tryz.prog G 45 [dRt r] (.sl none ((freeL r.1).map fun e => [dE e])) := by
 obtain ⟨ss, ps⟩ := r
 dsimp only at hs hr
 refine PureC.of_body (tyOf_good _) Tryz.func45 rfl rfl (rs := [.tmp 2]) Tryz.results45 (by simp [Tryz.ntmps45]) fun X => ?_; simp only [Tryz.ntmps45, List.map]
 have fw := (Aq @dRt.eq_1 (Aq @cRt.eq_1 (Aq @dRow_eq @dPts.eq_1)))
 refine rgq fw [1] [1] ?_; refine AW.imp (Imp.freezeB 1 trivial) ?_; refine AW.st (by simp [dRt, cRt, dRow_eq, dPts]; rfl) ?_; refine rgq fw [1,3] [] ?_; refine AW_then fun K1 hK1 => ?_; refine rgq fw [3,7,8,9] [] ?_; refine AW_for (S := Nat) (fun i => i ≤ ss.length) (fun i => ⟨lst [(3, .own 300 0 i), (7, .d (.sl none (ss.map fun x => [.v (.int .i64 x)]))), (8, int ss.length), (9, int i)], hlst [(300, .sl 48 1 ((freeL (ss.take i)).map fun e => [dE e]))]⟩) (fun i => ss.length - i) 0 ?_ (by simp) ?_
 ·refine (Imp.adopt 3 300 48 1 rfl rfl).trans ?_; refine Imp.to' (fun _ _ => trivial) (by simp [dRt, cRt, dRow_eq, dPts, freeL_nil]) (by simp [dRt, cRt, dRow_eq, dPts, freeL_nil])
 ·intro i hi
  have hl := freeL_len hi
  have htm : ∀ f : Ex → List D, List.take i (List.map f (freeL (ss.take i))) = List.map f (freeL (ss.take i)) := fun f => List.take_of_length_le (by simp [hl])
  refine rgq fw [3,7,8,9,10] [300] ?_; refine AW_then fun K2 hK2 => ?_; refine AW_cond' (b := i < ss.length) (by simp [D.le, D.le.go, takeMap, dRt, cRt, dRow_eq, dPts]) (fun hc => ?_) (fun hc => ?_)
  ·have hil := hc
   have hn := rname_spec G 98 ss[i] (by have := hr _ (List.getElem_mem hil); omega)
   have hsuc := freeL_succ hil
   have hde := dE_free ss[i]
   generalize nmT 98 ss[i].toNat = nm at hn hde; generalize freeE ss[i] = fe at hsuc hde
   have hl1 : (freeL (ss.take (i + 1))).length = i + 1 := freeL_len (by omega)
   refine AW_skip (hK2 _ ?_); refine AW_then fun K3 hK3 => ?_; refine AW_block ?_
   have qf := (Aq fw @hil)
   refine rgqv [3,5,7,8,9] [300] ?_; refine AW_re (tyOf_good _) fun K' hK' => ?_; (repeat (refine sxn fun K2 hK2 => ?_; simp [dRt, cRt, dRow_eq, dPts, lxb98, hl, htm]; (repeat (refine ⟨by omega, ?_⟩)); refine hK2 _ ?_; clear hK2 K2)); refine sxn fun K2 hK2 => ?_; simp [dRt, cRt, dRow_eq, dPts, lxb98, hl, htm]; refine callK.data (hn) (by simp; rfl) (by first | exact D.leGo_refl _ | simp [takeMap, List.map_map, Function.comp_def, D.le, D.le.go, D.le_refl, D.leGo_refl, dRt, cRt, dRow_eq, dPts, lxb98, hl, htm]) ?_; refine hK2 _ ?_; clear hK2 K2; simp only [putd, upd_lst]; (repeat (refine sxn fun K2 hK2 => ?_; simp [dRt, cRt, dRow_eq, dPts, lxb98, hl, htm]; (repeat (refine ⟨by omega, ?_⟩)); refine hK2 _ ?_; clear hK2 K2)); refine sxz (hK' _ ?_); clear hK' K'; refine hK3 _ (AW.norm [3, 7, 8, 9] [300] (fun _ _ => trivial) (AW.st (by simp [dRt, cRt, dRow_eq, dPts, lxb98, hl, htm]; rfl) ?_)); refine AW_re (tyOf_good _) fun K' hK' => ?_; (repeat (refine sxn fun K2 hK2 => ?_; simp [dRt, cRt, dRow_eq, dPts]; (repeat (refine ⟨by omega, ?_⟩)); refine hK2 _ ?_; clear hK2 K2)); refine sxz (hK' _ ?_); clear hK' K'; (try simp only [thn, inb]); refine Again.mk (i + 1) (by omega) (by omega) ?_; refine Imp.to' (fun _ _ => trivial) (by simp [dRt, cRt, dRow_eq, dPts, hsuc, hde, htm, hl]) (by simp [dRt, cRt, dRow_eq, dPts, hsuc, hde, htm, hl])
  ·obtain rfl : i = ss.length := by omega
   rw [List.take_length] at hl; simp only [List.take_length]; refine AW_exit (hK1 _ ?_)
   have htm2 : ∀ f : Ex → List D, List.take ss.length (List.map f (freeL ss)) = List.map f (freeL ss) := fun f => List.take_of_length_le (by simp [hl])
   refine AW.imp (Imp.freeze 300 trivial) ?_; refine AW.st (by simp [dRt, cRt, dRow_eq, dPts, hl, htm2]; rfl) ?_; refine rgq fw [2] [] ?_; refine AW_ret ?_; simp [D.le, D.le.go, takeMap, dRt, cRt, dRow_eq, dPts, D.leGo_refl, D.le_refl]
end Go.Proofs.YthnjfeielmbfkaaGreatDoor
namespace Go.Proofs.YthnjfeielmbfkaaGreatDoor
open Go.Av
theorem firstBad_at {α : Type} {f : Nat → α → Int} : ∀ {l : List α} {i n : Nat} (hn : n < l.length), (∀ k (hk : k < l.length), k < n → f (i + k) l[k] = 0) → f (i + n) l[n] ≠ 0 → firstBad f l i = some (f (i + n) l[n], i + n)
 | x :: l, i, 0, _, _, hne => by rw [firstBad, if_neg (show ¬ f i x = 0 from hne)]; rfl
 | x :: l, i, n + 1, hn, hb, hne => by
  have h0 : f i x = 0 := hb 0 (by simp) (by omega)
  have e : ∀ k, i + 1 + k = i + (k + 1) := fun k => by omega
  rw [firstBad, if_pos h0, firstBad_at (l := l) (i := i + 1) (n := n) (by simpa using hn) (fun k hk hkn => by rw [e]; exact hb (k + 1) (by simpa using hk) (by omega)) (by rw [e]; exact hne), e]
  rfl
theorem firstBad_ok {α : Type} {f : Nat → α → Int} : ∀ {l : List α} {i : Nat}, (∀ k (hk : k < l.length), f (i + k) l[k] = 0) → firstBad f l i = none
 | [], _, _ => rfl
 | x :: l, i, hb => by
  have e : ∀ k, i + 1 + k = i + (k + 1) := fun k => by omega
  rw [firstBad, if_pos (show f i x = 0 from hb 0 (by simp)), firstBad_ok fun k hk => by rw [e]; exact hb (k + 1) (by simpa using hk)]
structure SmallP (p : PgP) : Prop where
 nl : p.names.length < 2^62
 rl : p.rungs.length < 2^62
 nn : ∀ n ∈ p.names, n.name.length < 2^60
 cb : ∀ r ∈ p.rungs, ∀ e, r.cond = some e → bE e ≤ 2^28 ∧ (namesE true e).length < 2^62
set_option maxHeartbeats 16000000 in
theorem ladderCheck_spec (G : Glob) (p : PgP) (hp : SmallP p) : PureC Tryz.prog G 50 [dPg p] (dErr (checkP p)) := by
 obtain ⟨hnl, hrl, hnn, hcb⟩ := hp
 have hr2 : checkP p = if p.names.length > 12 ∨ p.rungs.length > 40 then some (4, none) else match firstBad (badN p) p.names 0 with
  | some (e, i) => some (e, some i)
  | none => match firstBad (fun _ r => badG p r) p.rungs 0 with
   | some (e, i) => some (e, some (p.names.length + i))
   | none => none := rfl
 generalize hres : checkP p = res; rw [hr2] at hres
 have hnum := fun s => lc_num G p hnl s
 have hchk := fun r h => lc_chk G p hnl r h
 simp only [dPg, cPg, dNms, dRgs, dS] at hnum hchk ⊢; refine PureC.of_body (tyOf_good _) Tryz.func50 rfl rfl (rs := [.tmp 2]) Tryz.results50 (by simp [Tryz.ntmps50]) fun X => ?_; simp only [Tryz.ntmps50, List.map]; refine rg0 [1] [1] ?_; refine AW.imp (Imp.freezeB 1 trivial) ?_; refine AW.st (by simp; rfl) ?_; refine AW_then fun K1 hK1 => ?_
 by_cases g0 : (p.names.length : Int) > 12
 ·rw [if_pos (.inl (by omega))] at hres
  have qf := @g0
  refine rgqv [1,19] [] ?_; refine AW_tt rfl ?_; refine rg0 [2] [] ?_; refine AW_ret ?_; simp [D.le, D.le.go, takeMap]; simp [← hres, dErr, D.le]
 by_cases g1 : (p.rungs.length : Int) > 40
 ·rw [if_pos (.inr (by omega))] at hres
  have qf := (Aq @g0 @g1)
  refine rgqv [1,19] [] ?_; refine AW_tt rfl ?_; refine rg0 [2] [] ?_; refine AW_ret ?_; simp [D.le, D.le.go, takeMap]; simp [← hres, dErr, D.le]
 rw [if_neg (by omega)] at hres
 have qf := (Aq @g0 @g1)
 refine rgqv [1,19] [] ?_; refine AW_ff rfl ?_; refine AW_skip (hK1 _ ?_); refine AW_then fun K2 hK2 => ?_; refine rg0 [1,22,23,24] [] ?_; refine AW_for (S := Nat) (fun n => n ≤ p.names.length ∧ ∀ k (hk : k < p.names.length), k < n → badN p k p.names[k] = 0) (fun n => ⟨lst [(1, .d (.ip [.sl none (p.names.map cNm), .sl none (p.rungs.map cRg)])), (22, .d (.sl none (p.names.map cNm))), (23, int p.names.length), (24, int n)], hlst []⟩) (fun n => p.names.length - n) 0 ?_ (by simp) ?_
 ·refine Imp.to' (fun _ _ => trivial) (by simp) (by simp)
 ·rintro n ⟨hn, hb⟩
  refine rg0 [1,22,23,24,25] [] ?_; refine AW_then fun K3 hK3 => ?_; refine AW_cond' (b := n < p.names.length) (by simp [D.le, D.le.go, takeMap]) (fun hc => ?_) (fun hc => ?_)
  ·have hlt := hc
   have hgo : badN p n p.names[n] ≠ 0 → res = some (badN p n p.names[n], some n) := fun hne => by
    rw [← hres, firstBad_at (i := 0) hlt (fun k hk hkn => by rw [Nat.zero_add]; exact hb k hk hkn) (by rw [Nat.zero_add]; exact hne)]; simp
   have hnm := hnn _ (List.getElem_mem hlt)
   have hcells : cNm p.names[n] = [dS p.names[n].name, .v (.int .i64 p.names[n].kind), .v (.int .i64 p.names[n].count)] := rfl
   have hbad : badN p n p.names[n] = if !nameF p.names[n].name then 5 else if decide (p.names[n].kind < 1) || decide (p.names[n].kind > 4) then 1 else if ((decide (p.names[n].kind = 3) || decide (p.names[n].kind = 4)) && (decide (p.names[n].count < 1) || decide (p.names[n].count > 7))) || (!(decide (p.names[n].kind = 3) || decide (p.names[n].kind = 4)) && decide (p.names[n].count ≠ 0)) then 2 else if numP p p.names[n].name < n then 9 else 0 := rfl
   generalize hv : badN p n p.names[n] = v at hbad hgo; generalize p.names[n].name = nm at hnm hcells hbad; generalize p.names[n].kind = kd at hcells hbad; generalize p.names[n].count = ct at hcells hbad
   have hname := name_spec G nm hnm
   have hnu := hnum nm
   simp only [dS] at hcells hname; generalize nameF nm = nf at hname hbad; refine AW_skip (hK3 _ ?_); refine AW_then fun K4 hK4 => ?_; refine AW_block ?_
   have qf := (Aq @hlt @hcells)
   refine rgqv [1,3,4,22,23,24] [4] ?_; refine AW.imp (Imp.freezeB 4 trivial) ?_; refine AW.st (by simp; rfl) ?_; refine' lateG (fun hst => ?_) ?_
   rotate_left
   ·by_cases k3 : kd = 3
    ·have qf := @k3
     refine rgqv [1,3,4,5,22,23,24] [] ?_; refine AW.st (show _ = (⟨lst [(1, .d (.ip [.sl none (p.names.map cNm), .sl none (p.rungs.map cRg)])), (3, int n), (4, .d (.ip [.v (.string (bs nm)), .v (.int .i64 kd), .v (.int .i64 ct)])), (5, .d (.v (.bool (decide (kd = 3) || decide (kd = 4))))), (22, .d (.sl none (p.names.map cNm))), (23, int p.names.length), (24, int n)], hlst []⟩ : St) by rw [k3] <;> rfl) ?_; exact hst.out
    ·by_cases k4 : kd = 4
     ·have qf := (Aq @k3 @k4)
      refine rgqv [1,3,4,5,22,23,24] [] ?_; refine AW.st (show _ = (⟨lst [(1, .d (.ip [.sl none (p.names.map cNm), .sl none (p.rungs.map cRg)])), (3, int n), (4, .d (.ip [.v (.string (bs nm)), .v (.int .i64 kd), .v (.int .i64 ct)])), (5, .d (.v (.bool (decide (kd = 3) || decide (kd = 4))))), (22, .d (.sl none (p.names.map cNm))), (23, int p.names.length), (24, int n)], hlst []⟩ : St) by rw [k4] <;> rfl) ?_; exact hst.out
     ·have e : (decide (kd = 3) || decide (kd = 4)) = false := by simp [k3, k4]
      have qf := (Aq @k3 @k4)
      refine rgqv [1,3,4,5,22,23,24] [] ?_; refine AW.st (show _ = (⟨lst [(1, .d (.ip [.sl none (p.names.map cNm), .sl none (p.rungs.map cRg)])), (3, int n), (4, .d (.ip [.v (.string (bs nm)), .v (.int .i64 kd), .v (.int .i64 ct)])), (5, .d (.v (.bool (decide (kd = 3) || decide (kd = 4))))), (22, .d (.sl none (p.names.map cNm))), (23, int p.names.length), (24, int n)], hlst []⟩ : St) by rw [e] <;> rfl) ?_; exact hst.out
   ·generalize (decide (kd = 3) || decide (kd = 4)) = cB at hbad; refine rg0 [1,3,4,5,6,22,23,24] [] ?_; refine AW_then fun K5 hK5 => ?_; refine' lateG (fun hrest => ?_) ?_
    rotate_left
    ·refine AW_block ?_; refine rgc trivial hname [1,3,4,5,6,22,23,24,37] [] ?_
     by_cases hnf : nf = true
     rotate_left
     ·have hnf2 : nf = false := by simpa using hnf
      rw [if_pos (by simp [hnf2])] at hbad; rw [hnf2]; refine AW_tt rfl ?_; refine reK trivial hK5 [1,3,6,22,23,24] [] ?_; refine AW.st (show _ = (⟨lst [(1, .d (.ip [.sl none (p.names.map cNm), .sl none (p.rungs.map cRg)])), (3, int n), (6, int v), (22, .d (.sl none (p.names.map cNm))), (23, int p.names.length), (24, int n)], hlst []⟩ : St) by rw [hbad] <;> rfl) ?_; exact hrest.out
     ·rw [if_neg (by simp [hnf])] at hbad; rw [hnf]; refine AW_ff rfl ?_
      by_cases k1 : kd < 1
      ·rw [if_pos (by simp [k1])] at hbad
       have qf := @k1
       refine rgqv [1,3,4,5,6,22,23,24,42] [] ?_; refine AW_tt rfl ?_; refine reK trivial hK5 [1,3,6,22,23,24] [] ?_; refine AW.st (show _ = (⟨lst [(1, .d (.ip [.sl none (p.names.map cNm), .sl none (p.rungs.map cRg)])), (3, int n), (6, int v), (22, .d (.sl none (p.names.map cNm))), (23, int p.names.length), (24, int n)], hlst []⟩ : St) by rw [hbad] <;> rfl) ?_; exact hrest.out
      by_cases k2 : kd > 4
      ·rw [if_pos (by simp [k2])] at hbad
       have qf := (Aq @k1 @k2)
       refine rgqv [1,3,4,5,6,22,23,24,42] [] ?_; refine AW_tt rfl ?_; refine reK trivial hK5 [1,3,6,22,23,24] [] ?_; refine AW.st (show _ = (⟨lst [(1, .d (.ip [.sl none (p.names.map cNm), .sl none (p.rungs.map cRg)])), (3, int n), (6, int v), (22, .d (.sl none (p.names.map cNm))), (23, int p.names.length), (24, int n)], hlst []⟩ : St) by rw [hbad] <;> rfl) ?_; exact hrest.out
      rw [if_neg (by simp [k1, k2])] at hbad
      have qf := (Aq @k1 @k2)
      refine rgqv [1,3,4,5,6,22,23,24,42] [] ?_; refine AW_ff rfl ?_
      by_cases hcB : cB = true
      ·rw [hcB] at hbad ⊢
       by_cases c1 : ct < 1
       ·rw [if_pos (by simp [c1])] at hbad
        have qf := @c1
        refine rgqv [1,3,4,6,22,23,24,51] [] ?_; refine AW_tt rfl ?_; refine reK trivial hK5 [1,3,6,22,23,24] [] ?_; refine AW.st (show _ = (⟨lst [(1, .d (.ip [.sl none (p.names.map cNm), .sl none (p.rungs.map cRg)])), (3, int n), (6, int v), (22, .d (.sl none (p.names.map cNm))), (23, int p.names.length), (24, int n)], hlst []⟩ : St) by rw [hbad] <;> rfl) ?_; exact hrest.out
       by_cases c2 : ct > 7
       ·rw [if_pos (by simp [c2])] at hbad
        have qf := (Aq @c1 @c2)
        refine rgqv [1,3,4,6,22,23,24,51] [] ?_; refine AW_tt rfl ?_; refine reK trivial hK5 [1,3,6,22,23,24] [] ?_; refine AW.st (show _ = (⟨lst [(1, .d (.ip [.sl none (p.names.map cNm), .sl none (p.rungs.map cRg)])), (3, int n), (6, int v), (22, .d (.sl none (p.names.map cNm))), (23, int p.names.length), (24, int n)], hlst []⟩ : St) by rw [hbad] <;> rfl) ?_; exact hrest.out
       rw [if_neg (by simp [c1, c2])] at hbad
       have qf := (Aq @c1 @c2)
       refine rgqv [1,3,4,6,22,23,24,51] [] ?_; refine AW_ff rfl ?_; refine rgc trivial hnu [1,3,6,22,23,24,72] [] ?_
       by_cases c9 : numP p nm < n
       ·rw [if_pos c9] at hbad; refine AW_cond true (by simp [c9]) (fun _ => ?_) (fun h => by cases h); refine reK trivial hK5 [1,3,6,22,23,24] [] ?_; refine AW.st (show _ = (⟨lst [(1, .d (.ip [.sl none (p.names.map cNm), .sl none (p.rungs.map cRg)])), (3, int n), (6, int v), (22, .d (.sl none (p.names.map cNm))), (23, int p.names.length), (24, int n)], hlst []⟩ : St) by rw [hbad] <;> rfl) ?_; exact hrest.out
       ·rw [if_neg c9] at hbad; refine AW_cond false (by simp [c9]) (fun h => by cases h) (fun _ => ?_); refine AW_skip ?_; refine hK5 _ (AW.norm [1, 3, 6, 22, 23, 24] [] (fun _ _ => trivial) (AW.st (by simp; rfl) ?_)); refine AW.st (show _ = (⟨lst [(1, .d (.ip [.sl none (p.names.map cNm), .sl none (p.rungs.map cRg)])), (3, int n), (6, int v), (22, .d (.sl none (p.names.map cNm))), (23, int p.names.length), (24, int n)], hlst []⟩ : St) by rw [hbad] <;> rfl) ?_; exact hrest.out
      ·have hcB2 : cB = false := by simpa using hcB
       rw [hcB2] at hbad ⊢
       by_cases c0 : ct = 0
       ·rw [if_neg (by simp [c0])] at hbad
        have qf := @c0
        refine rgqv [1,3,4,6,22,23,24,51] [] ?_; refine AW_ff rfl ?_; refine rgc trivial hnu [1,3,6,22,23,24,72] [] ?_
        by_cases c9 : numP p nm < n
        ·rw [if_pos c9] at hbad; refine AW_cond true (by simp [c9]) (fun _ => ?_) (fun h => by cases h); refine reK trivial hK5 [1,3,6,22,23,24] [] ?_; refine AW.st (show _ = (⟨lst [(1, .d (.ip [.sl none (p.names.map cNm), .sl none (p.rungs.map cRg)])), (3, int n), (6, int v), (22, .d (.sl none (p.names.map cNm))), (23, int p.names.length), (24, int n)], hlst []⟩ : St) by rw [hbad] <;> rfl) ?_; exact hrest.out
        ·rw [if_neg c9] at hbad; refine AW_cond false (by simp [c9]) (fun h => by cases h) (fun _ => ?_); refine AW_skip ?_; refine hK5 _ (AW.norm [1, 3, 6, 22, 23, 24] [] (fun _ _ => trivial) (AW.st (by simp; rfl) ?_)); refine AW.st (show _ = (⟨lst [(1, .d (.ip [.sl none (p.names.map cNm), .sl none (p.rungs.map cRg)])), (3, int n), (6, int v), (22, .d (.sl none (p.names.map cNm))), (23, int p.names.length), (24, int n)], hlst []⟩ : St) by rw [hbad] <;> rfl) ?_; exact hrest.out
       ·rw [if_pos (by simp [c0])] at hbad
        have qf := @c0
        refine rgqv [1,3,4,6,22,23,24,51] [] ?_; refine AW_tt rfl ?_; refine reK trivial hK5 [1,3,6,22,23,24] [] ?_; refine AW.st (show _ = (⟨lst [(1, .d (.ip [.sl none (p.names.map cNm), .sl none (p.rungs.map cRg)])), (3, int n), (6, int v), (22, .d (.sl none (p.names.map cNm))), (23, int p.names.length), (24, int n)], hlst []⟩ : St) by rw [hbad] <;> rfl) ?_; exact hrest.out
    ·by_cases hv0 : v = 0
     ·have qf := @hv0
      refine rgqv [1,3,6,22,23,24,80] [] ?_; refine AW_ff rfl ?_; refine AW_skip ?_; refine hK4 _ ?_; refine AW_re (tyOf_good _) fun K' hK' => ?_; (repeat (refine sxn fun K2 hK2 => ?_; simp; (repeat (refine ⟨by omega, ?_⟩)); refine hK2 _ ?_; clear hK2 K2)); refine sxz (hK' _ ?_); clear hK' K'; (try simp only [thn, inb]); refine Again.mk (n + 1) ⟨by omega, fun k hk hkn => ?_⟩ (by omega) ?_
      ·by_cases h : k = n
       ·subst h; rw [hv, hv0]
       ·exact hb k hk (by omega)
      refine Imp.to' (fun _ _ => trivial) (by simp) (by simp)
     ·have qf := @hv0
      refine rgqv [1,3,6,22,23,24,80] [] ?_; refine AW_tt rfl ?_; refine rg0 [2] [84] ?_; refine AW_ret ?_; simp [D.le, D.le.go, takeMap]; simp [hgo hv0, dErr, D.le, D.le.go]
  ·rw [firstBad_ok fun k hk => by rw [Nat.zero_add]; exact hb k hk (by omega)] at hres
   dsimp only at hres
   refine AW_exit (hK2 _ ?_); refine AW_then fun K6 hK6 => ?_; refine rg0 [1,88,89,90] [] ?_; refine AW_for (S := Nat) (fun n => n ≤ p.rungs.length ∧ ∀ k (hk : k < p.rungs.length), k < n → badG p p.rungs[k] = 0) (fun n => ⟨lst [(1, .d (.ip [.sl none (p.names.map cNm), .sl none (p.rungs.map cRg)])), (88, .d (.sl none (p.rungs.map cRg))), (89, int p.rungs.length), (90, int n)], hlst []⟩) (fun n => p.rungs.length - n) 0 ?_ (by simp) ?_
   ·refine Imp.to' (fun _ _ => trivial) (by simp) (by simp)
   ·rintro n ⟨hn, hb⟩
    refine rg0 [1,88,89,90,91] [] ?_; refine AW_then fun K7 hK7 => ?_; refine AW_cond' (b := n < p.rungs.length) (by simp [D.le, D.le.go, takeMap]) (fun hc => ?_) (fun hc => ?_)
    ·have hlt := hc
     have hgo : badG p p.rungs[n] ≠ 0 → res = some (badG p p.rungs[n], some (p.names.length + n)) := fun hne => by
      rw [← hres, firstBad_at (i := 0) hlt (fun k hk hkn => hb k hk hkn) hne]; simp
     have hcells : cRg p.rungs[n] = [.v (.int .i64 p.rungs[n].kind), dS p.rungs[n].name, dC p.rungs[n].cond] := rfl
     have hck := hchk p.rungs[n] (hcb _ (List.getElem_mem hlt))
     simp only [dRg, hcells] at hck; generalize hv : badG p p.rungs[n] = v at hck hgo
     obtain ⟨tc, hdc, hsc⟩ : ∃ tc, dC p.rungs[n].cond = tc ∧ ((∃ a b, tc = .ifc a b) ∨ tc = .v .nilIface) := by
      cases p.rungs[n].cond with
      | none => exact ⟨_, rfl, .inr rfl⟩
      | some e => obtain ⟨a, b, h⟩ := dE_ifc e; exact ⟨_, rfl, .inl ⟨a, b, h⟩⟩
     rw [hdc] at hcells hck; generalize p.rungs[n].kind = kd at hcells hck; generalize p.rungs[n].name = nm at hcells hck; simp only [dS] at hcells hck
     have hlt' : (p.names.length : Int) + (n : Int) ≤ 2^62 := by omega
     refine AW_skip (hK7 _ ?_); refine AW_then fun K8 hK8 => ?_; refine AW_block ?_
     rcases hsc with ⟨ta, tb2, rfl⟩ | rfl
     all_goals
      ·have qf := (Aq @hlt @hcells)
       refine rgqv [1,7,8,88,89,90] [8] ?_; refine AW.imp (Imp.freezeB 8 trivial) ?_; refine AW.st (by simp; rfl) ?_; refine rgc trivial hck [1,7,9,88,89,90] [] ?_
       by_cases hv0 : v = 0
       ·have qf := @hv0
        refine rgqv [1,7,9,88,89,90,99] [] ?_; refine AW_ff rfl ?_; refine AW_skip (hK8 _ ?_); refine AW_re (tyOf_good _) fun K' hK' => ?_; (repeat (refine sxn fun K2 hK2 => ?_; simp; (repeat (refine ⟨by omega, ?_⟩)); refine hK2 _ ?_; clear hK2 K2)); refine sxz (hK' _ ?_); clear hK' K'; (try simp only [thn, inb]); refine Again.mk (n + 1) ⟨by omega, fun k hk hkn => ?_⟩ (by omega) ?_
        ·by_cases h : k = n
         ·subst h; rw [hv, hv0]
         ·exact hb k hk (by omega)
        refine Imp.to' (fun _ _ => trivial) (by simp) (by simp)
       ·have qf := @hv0
        refine rgqv [1,7,9,88,89,90,99] [] ?_; refine AW_tt rfl ?_; refine rg0 [2] [107] ?_; refine AW_ret ?_; simp [D.le, D.le.go, takeMap]; simp [hgo hv0, dErr, D.le, D.le.go]
    ·rw [firstBad_ok fun k hk => hb k hk (by omega)] at hres; refine AW_exit (hK6 _ ?_); refine rg0 [2] [] ?_; refine AW_ret ?_; simp [D.le, D.le.go, takeMap]; simp [← hres, dErr]
end Go.Proofs.YthnjfeielmbfkaaGreatDoor
namespace Go.Proofs.YthnjfeielmbfkaaGreatDoor
open Go.Av
def nmP (k : Int) (c : UInt8) (i : Nat) : NmP := ⟨nmT c i, k, 0⟩
def lnm (k : Int) (c : UInt8) (n : Nat) : List NmP := (List.range n).map (nmP k c)
theorem lnm_len (k : Int) (c : UInt8) (n : Nat) : (lnm k c n).length = n := by simp [lnm]
theorem lnm_zero (k : Int) (c : UInt8) : lnm k c 0 = [] := rfl
theorem lnm_succ (k : Int) (c : UInt8) (n : Nat) : lnm k c (n + 1) = lnm k c n ++ [nmP k c n] := by
 simp [lnm, List.range_succ]
theorem cNm_nmP (k : Int) (c : UInt8) (i : Nat) : cNm (nmP k c i) = [.v (.string (bs (nmT c i))), .v (.int .i64 k), .v (.int .i64 0)] := rfl
def aRow (R : D) (l : List NmP) : List (Nat × Row) := [(500, .box 29 [.own 501 0 l.length, .d R]), (501, .sl 73 3 (l.map cNm))]
set_option maxHeartbeats 4000000 in
theorem radd_spec (G : Glob) (k : Int) (c : UInt8) (n : Nat) (hn : n < 100) (R : D) (l : List NmP) (hl : l.length ≤ 2^40) :
  MC Tryz.prog G [500] 43 [.d (.v (.int .i64 k)), .d (.v (.string (bs [c]))), .d (.v (.int .i64 n)), .ref 500 0 0] (hlst (aRow R l)) (.d (.tup [])) (hlst (aRow R (l ++ lnm k c n))) := by
 refine MC.of_body (tyOf_good _) Tryz.func43 rfl rfl (rs := []) Tryz.results43 (by simp [Tryz.ntmps43]) rfl fun X => ?_; simp only [Tryz.ntmps43]
 have fw := @aRow.eq_1
 refine rgq fw [0,1,3,8,9] [500,501] ?_; refine AW_for (S := Nat) (fun i => i ≤ n) (fun i => ⟨lst [(0, .d (.v (.int .i64 k))), (1, .d (.v (.string (bs [c])))), (3, .ref 500 0 0), (8, int n), (9, int i)], hlst (aRow R (l ++ lnm k c i))⟩) (fun i => n - i) 0 ?_ (by simp) ?_
 ·refine Imp.to' (notIn_ok rfl) (by simp [aRow, lnm_zero, List.append_nil]) (by simp [aRow, lnm_zero, List.append_nil])
 ·intro i hi
  have hla : (l ++ lnm k c i).length = l.length + i := by simp [lnm_len]
  have hnx : l ++ lnm k c (i + 1) = (l ++ lnm k c i) ++ [nmP k c i] := by rw [lnm_succ, List.append_assoc]
  have hcn := cNm_nmP k c i
  have hn1 := rname_spec G c i (by omega)
  rw [Int.toNat_natCast] at hn1; generalize nmT c i = nm at hcn hn1; generalize nmP k c i = x at hnx hcn; generalize hL : l ++ lnm k c i = L at hla
  have hmL : List.map cNm L = List.map cNm l ++ List.map cNm (lnm k c i) := by rw [← hL, List.map_append]
  refine rgq fw [0,1,3,8,9,10] [500,501] ?_; refine AW_then fun K1 hK1 => ?_; refine AW_cond' (b := i < n) (by simp [D.le, D.le.go, takeMap, aRow]) (fun hc => ?_) (fun hc => ?_)
  ·have hlt := hc
   refine AW_skip (hK1 _ ?_); refine AW_then fun K2 hK2 => ?_; refine AW_block ?_; refine rgq fw [0,1,3,7,8,9] [500,501] ?_; refine AW_rle (tyOf_good _) (by kernel_rfl) ([(8, (501, 19))]) ([(4, [501])]) (List.range 11) (by kernel_rfl) fun K' hK' => ?_; (repeat (refine sxl_nextO rfl fun K2 hK2 => ?_; simp [aRow, hla, List.take_of_length_le]; (repeat (refine ⟨by omega, ?_⟩)); refine hK2 _ ?_; clear hK2 K2)); refine sxl_nextO rfl fun K2 hK2 => ?_; simp [aRow, hla, List.take_of_length_le]; refine callD.mk (hn1) (by simp; rfl) (by simp; rfl) (by first | exact D.leGo_refl _ | simp [takeMap, List.map_map, Function.comp_def, D.le, D.le.go, D.le_refl, D.leGo_refl, aRow, hla, List.take_of_length_le]) (by simp) ?_; refine hK2 _ ?_; clear hK2 K2; simp only [putd, upd_lst]; (repeat (refine sxl_nextO rfl fun K2 hK2 => ?_; simp [aRow, hla, List.take_of_length_le]; (repeat (refine ⟨by omega, ?_⟩)); refine hK2 _ ?_; clear hK2 K2)); refine sxl_nilO (hK' _ ?_); clear hK' K'; refine hK2 _ (AW.norm [0, 1, 3, 8, 9] [500, 501] (notIn_ok rfl) (AW.st (by simp [aRow, hla, List.take_of_length_le]; rfl) ?_)); refine AW_re (tyOf_good _) fun K' hK' => ?_; (repeat (refine sxn fun K2 hK2 => ?_; simp [aRow]; (repeat (refine ⟨by omega, ?_⟩)); refine hK2 _ ?_; clear hK2 K2)); refine sxz (hK' _ ?_); clear hK' K'; (try simp only [thn, inb]); refine Again.mk (i + 1) (by omega) (by omega) ?_; refine Imp.to' (notIn_ok rfl) (by simp [aRow, hnx, hcn, hmL, lnm_len, hla, Nat.add_assoc]) (by simp [aRow, hnx, hcn, hmL, lnm_len, hla, Nat.add_assoc])
  ·obtain rfl : i = n := by omega
   refine AW_exit ?_; simp [D.le_refl, aRow, hL]
end Go.Proofs.YthnjfeielmbfkaaGreatDoor
namespace Go.Proofs.YthnjfeielmbfkaaGreatDoor
open Go.Av
def notB (c : UInt8) (i : Nat) : Ex := .not (.bit (nmT c i))
def resetG (i : Nat) (r : Rt) : RgP := ⟨3, nmT 108 i, some (andE (notB 97 i :: freeL r.1))⟩
def clN (rts : List Rt) (i : Nat) (r : Rt) : Nat → List Ex
 | 0 => []
 | k + 1 => clN rts i r k ++ if !decide (k = i) && clashF r (rts.getD k ([], [])) then [notB 108 k] else []
def setG (rts : List Rt) (i : Nat) (r : Rt) : RgP := ⟨2, nmT 108 i, some (andE ((.bit (nmT 97 i) :: freeL r.1) ++ clN rts i r rts.length))⟩
def ptE (rts : List Rt) (k : Nat) (over : Bool) : Nat → List Ex
 | 0 => []
 | i + 1 => ptE rts k over i ++ if (rts.getD i ([], [])).2.contains ((k : Int), over) then [.bit (nmT 108 i)] else []
def ptG (rts : List Rt) (k : Nat) (over : Bool) : List RgP := match ptE rts k over rts.length with
 | [] => []
 | l => [⟨if over then 2 else 3, nmT 112 k, some (orE l)⟩]
def ptJ (rts : List Rt) (k : Nat) (ovs : List Bool) : Nat → List RgP
 | 0 => []
 | j + 1 => ptJ rts k ovs j ++ ptG rts k (ovs.getD j false)
def resR (rts : List Rt) : Nat → List RgP
 | 0 => []
 | i + 1 => resR rts i ++ [resetG i (rts.getD i ([], []))]
def setR (rts : List Rt) : Nat → List RgP
 | 0 => []
 | i + 1 => setR rts i ++ [setG rts i (rts.getD i ([], []))]
def ptR (rts : List Rt) : Nat → List RgP
 | 0 => []
 | k + 1 => ptR rts k ++ ptJ rts k [true, false] 2
def namesT (R S P : Nat) : List NmP := lnm 1 97 R ++ lnm 1 98 S ++ lnm 2 108 R ++ lnm 2 112 P
def rungsT (rts : List Rt) (P : Nat) : List RgP := resR rts rts.length ++ setR rts rts.length ++ ptR rts P
def ladderT (S P : Nat) (rts : List Rt) : PgP := ⟨namesT rts.length S P, rungsT rts P⟩
theorem resR_len (rts : List Rt) : ∀ n, (resR rts n).length = n
 | 0 => rfl
 | n + 1 => by rw [resR, List.length_append, resR_len rts n]; rfl
theorem setR_len (rts : List Rt) : ∀ n, (setR rts n).length = n
 | 0 => rfl
 | n + 1 => by rw [setR, List.length_append, setR_len rts n]; rfl
theorem clN_len (rts : List Rt) (i : Nat) (r : Rt) : ∀ n, (clN rts i r n).length ≤ n
 | 0 => Nat.le_refl _
 | n + 1 => by rw [clN, List.length_append]; have := clN_len rts i r n; split <;> simp <;> omega
theorem ptE_len (rts : List Rt) (k : Nat) (o : Bool) : ∀ n, (ptE rts k o n).length ≤ n
 | 0 => Nat.le_refl _
 | n + 1 => by rw [ptE, List.length_append]; have := ptE_len rts k o n; split <;> simp <;> omega
theorem ptG_len (rts : List Rt) (k : Nat) (o : Bool) : (ptG rts k o).length ≤ 1 := by unfold ptG; split <;> simp
theorem ptJ_len (rts : List Rt) (k : Nat) (ovs : List Bool) : ∀ n, (ptJ rts k ovs n).length ≤ n
 | 0 => Nat.le_refl _
 | n + 1 => by rw [ptJ, List.length_append]; have := ptJ_len rts k ovs n; have := ptG_len rts k (ovs.getD n false); omega
theorem ptR_len (rts : List Rt) : ∀ n, (ptR rts n).length ≤ 2 * n
 | 0 => Nat.le_refl _
 | n + 1 => by rw [ptR, List.length_append]; have := ptR_len rts n; have := ptJ_len rts n [true, false] 2; omega
theorem dE_notB (c : UInt8) (i : Nat) : dE (notB c i) = .ifc 110 (.agg [.ifc 108 (.v (.string (bs (nmT c i))))]) := rfl
theorem dE_bitN (c : UInt8) (i : Nat) : dE (.bit (nmT c i)) = .ifc 108 (.v (.string (bs (nmT c i)))) := rfl
theorem cRg_eq (k : Int) (s : List UInt8) (e : Ex) : cRg ⟨k, s, some e⟩ = [.v (.int .i64 k), .v (.string (bs s)), dE e] := rfl
theorem ptG_some {rts : List Rt} {k : Nat} {o : Bool} (h : ptE rts k o rts.length ≠ []) : ptG rts k o = [⟨if o then 2 else 3, nmT 112 k, some (orE (ptE rts k o rts.length))⟩] := by
 unfold ptG; split
 ·exact absurd ‹_› h
 ·rfl
theorem ptG_none {rts : List Rt} {k : Nat} {o : Bool} (h : ptE rts k o rts.length = []) : ptG rts k o = [] := by
 unfold ptG; rw [h]
structure GoodT (S P : Nat) (rts : List Rt) : Prop where
 s0 : 1 ≤ S
 s1 : S ≤ 3
 p1 : P ≤ 2
 r0 : 1 ≤ rts.length
 r1 : rts.length ≤ 3
 sec : ∀ r ∈ rts, ∀ s ∈ r.1, 0 ≤ s ∧ s < S
 pts : ∀ r ∈ rts, ∀ p ∈ r.2, 0 ≤ p.1 ∧ p.1 < P
 sl : ∀ r ∈ rts, 1 ≤ r.1.length ∧ r.1.length < 2^40
 pl : ∀ r ∈ rts, r.2.length < 2^40
 sl3 : ∀ r ∈ rts, r.1.length ≤ 3
theorem GoodT.small {S P : Nat} {rts : List Rt} (h : GoodT S P rts) : SmallT ⟨S, P, rts⟩ := by
 refine ⟨by have := h.r1; show rts.length < _; omega, fun r hr => ⟨by have := h.sl r hr; omega, by have := h.pl r hr; omega⟩⟩
end Go.Proofs.YthnjfeielmbfkaaGreatDoor
namespace Go.Proofs.YthnjfeielmbfkaaGreatDoor
open Go.Av
theorem rl_one1 {s x : Tx} (h : x ∈ one1 s) : x = s := by
 unfold one1 at h; split at h
 ·cases h
 ·simpa using h
theorem rl_nmsL {x : Tx} : ∀ {l : List Ex}, x ∈ nmsL true l → ∃ e ∈ l, x ∈ nmsE true e
 | [], h => by simp [nmsL] at h
 | e :: l, h => by
  rw [nmsL, List.mem_append] at h
  rcases h with h | h
  ·exact ⟨e, by simp, h⟩
  ·obtain ⟨e', he, hx⟩ := rl_nmsL h
   exact ⟨e', by simp [he], hx⟩
theorem rl_andE {x : Tx} {l : List Ex} (h : x ∈ nmsE true (andE l)) : ∃ e ∈ l, x ∈ nmsE true e := by
 unfold andE at h; split at h
 ·exact ⟨_, by simp, h⟩
 ·exact rl_nmsL h
theorem rl_orE {x : Tx} {l : List Ex} (h : x ∈ nmsE true (orE l)) : ∃ e ∈ l, x ∈ nmsE true e := by
 unfold orE at h; split at h
 ·exact ⟨_, by simp, h⟩
 ·exact rl_nmsL h
theorem rl_bit {x : Tx} {c : UInt8} {i : Nat} (h : x ∈ nmsE true (.bit (nmT c i))) : x = nmT c i := rl_one1 (by simpa [nmsE, nmE] using h)
theorem rl_not {x : Tx} {c : UInt8} {i : Nat} (h : x ∈ nmsE true (notB c i)) : x = nmT c i := rl_bit h
inductive InN (R S P : Nat) : Tx → Prop where
 | a (i : Nat) (h : i < R) : InN R S P (nmT 97 i)
 | b (i : Nat) (h : i < S) : InN R S P (nmT 98 i)
 | l (i : Nat) (h : i < R) : InN R S P (nmT 108 i)
theorem clN_in {rts : List Rt} {i : Nat} {r : Rt} {e : Ex} : ∀ {n : Nat}, e ∈ clN rts i r n → ∃ k < n, e = notB 108 k
 | 0, h => by cases h
 | n + 1, h => by
  rw [clN, List.mem_append] at h
  rcases h with h | h
  ·obtain ⟨k, hk, he⟩ := clN_in h
   exact ⟨k, by omega, he⟩
  ·split at h
   ·exact ⟨n, by omega, by simpa using h⟩
   ·cases h
theorem ptE_in {rts : List Rt} {k : Nat} {o : Bool} {e : Ex} : ∀ {n : Nat}, e ∈ ptE rts k o n → ∃ i < n, e = .bit (nmT 108 i)
 | 0, h => by cases h
 | n + 1, h => by
  rw [ptE, List.mem_append] at h
  rcases h with h | h
  ·obtain ⟨i, hi, he⟩ := ptE_in h
   exact ⟨i, by omega, he⟩
  ·split at h
   ·exact ⟨n, by omega, by simpa using h⟩
   ·cases h
theorem freeL_in {S : Nat} {ss : List Int} (hs : ∀ s ∈ ss, 0 ≤ s ∧ s < (S : Int)) {e : Ex} (h : e ∈ freeL ss) : ∃ j < S, e = notB 98 j := by
 obtain ⟨s, hm, rfl⟩ := List.mem_map.1 h
 have := hs s hm
 exact ⟨s.toNat, by omega, rfl⟩
structure RgIn (R S P : Nat) (r : RgP) : Prop where
 kind : r.kind = 2 ∨ r.kind = 3
 name : (∃ i < R, r.name = nmT 108 i) ∨ ∃ i < P, r.name = nmT 112 i
 cond : ∃ l, l ≠ [] ∧ l.length ≤ 8 ∧ (r.cond = some (andE l) ∨ r.cond = some (orE l)) ∧ ∀ e ∈ l, (∃ c i, e = notB c i ∧ InN R S P (nmT c i) ∧ i < 100) ∨ ∃ c i, e = .bit (nmT c i) ∧ InN R S P (nmT c i) ∧ i < 100
theorem reset_in {S P : Nat} {rts : List Rt} (hg : GoodT S P rts) {i : Nat} (hi : i < rts.length) : RgIn rts.length S P (resetG i rts[i]) := by
 have hm := List.getElem_mem hi
 have h3 := hg.sl3 _ hm
 have hS := hg.s1
 have hR := hg.r1
 refine ⟨.inr rfl, .inl ⟨i, hi, rfl⟩, _, List.cons_ne_nil _ _, ?_, .inl rfl, fun e he => ?_⟩
 ·rw [List.length_cons, freeL, List.length_map]; omega
 ·rcases List.mem_cons.1 he with rfl | he
  ·exact .inl ⟨97, i, rfl, .a i hi, by omega⟩
  ·obtain ⟨j, hj, rfl⟩ := freeL_in (hg.sec _ hm) he
   exact .inl ⟨98, j, rfl, .b j hj, by omega⟩
theorem set_in {S P : Nat} {rts : List Rt} (hg : GoodT S P rts) {i : Nat} (hi : i < rts.length) : RgIn rts.length S P (setG rts i rts[i]) := by
 have hm := List.getElem_mem hi
 have h3 := hg.sl3 _ hm
 have hS := hg.s1
 have hR := hg.r1
 have hc := clN_len rts i rts[i] rts.length
 refine ⟨.inl rfl, .inl ⟨i, hi, rfl⟩, _, by simp, ?_, .inl rfl, fun e he => ?_⟩
 ·rw [List.length_append, List.length_cons, freeL, List.length_map]; omega
 ·rcases List.mem_append.1 he with he | he
  ·rcases List.mem_cons.1 he with rfl | he
   ·exact .inr ⟨97, i, rfl, .a i hi, by omega⟩
   ·obtain ⟨j, hj, rfl⟩ := freeL_in (hg.sec _ hm) he
    exact .inl ⟨98, j, rfl, .b j hj, by omega⟩
  ·obtain ⟨k, hk, rfl⟩ := clN_in he
   exact .inl ⟨108, k, rfl, .l k hk, by omega⟩
theorem ptG_in {S P : Nat} {rts : List Rt} (hg : GoodT S P rts) {k : Nat} (hk : k < P) (o : Bool) {r : RgP} (h : r ∈ ptG rts k o) : RgIn rts.length S P r := by
 have hR := hg.r1
 by_cases he : ptE rts k o rts.length = []
 ·rw [ptG_none he] at h; cases h
 ·rw [ptG_some he, List.mem_singleton] at h; subst h
  have hl := ptE_len rts k o rts.length
  refine ⟨by cases o <;> simp, .inr ⟨k, hk, rfl⟩, _, he, by omega, .inr rfl, fun e hm => ?_⟩
  obtain ⟨i, hi, rfl⟩ := ptE_in hm
  exact .inr ⟨108, i, rfl, .l i hi, by omega⟩
theorem resR_in {rts : List Rt} {r : RgP} : ∀ {n : Nat}, n ≤ rts.length → r ∈ resR rts n → ∃ i, ∃ h : i < rts.length, r = resetG i rts[i]
 | 0, _, h => by cases h
 | n + 1, hn, h => by
  rw [resR, List.mem_append, List.mem_singleton] at h
  rcases h with h | h
  ·exact resR_in (by omega) h
  ·refine ⟨n, by omega, ?_⟩; rw [h, List.getD_eq_getElem?_getD, List.getElem?_eq_getElem (by omega)]; rfl
theorem setR_in {rts : List Rt} {r : RgP} : ∀ {n : Nat}, n ≤ rts.length → r ∈ setR rts n → ∃ i, ∃ h : i < rts.length, r = setG rts i rts[i]
 | 0, _, h => by cases h
 | n + 1, hn, h => by
  rw [setR, List.mem_append, List.mem_singleton] at h
  rcases h with h | h
  ·exact setR_in (by omega) h
  ·refine ⟨n, by omega, ?_⟩; rw [h, List.getD_eq_getElem?_getD, List.getElem?_eq_getElem (by omega)]; rfl
theorem ptJ_in {rts : List Rt} {k : Nat} {ovs : List Bool} {r : RgP} : ∀ {n : Nat}, r ∈ ptJ rts k ovs n → ∃ o, r ∈ ptG rts k o
 | 0, h => by cases h
 | n + 1, h => by
  rw [ptJ, List.mem_append] at h
  rcases h with h | h
  ·exact ptJ_in h
  ·exact ⟨_, h⟩
theorem ptR_in {rts : List Rt} {r : RgP} : ∀ {n : Nat}, r ∈ ptR rts n → ∃ k < n, ∃ o, r ∈ ptG rts k o
 | 0, h => by cases h
 | n + 1, h => by
  rw [ptR, List.mem_append] at h
  rcases h with h | h
  ·obtain ⟨k, hk, hr⟩ := ptR_in h
   exact ⟨k, by omega, hr⟩
  ·exact ⟨n, by omega, ptJ_in h⟩
theorem rungs_in {S P : Nat} {rts : List Rt} (hg : GoodT S P rts) {r : RgP} (h : r ∈ rungsT rts P) : RgIn rts.length S P r := by
 rw [rungsT, List.mem_append, List.mem_append] at h
 rcases h with (h | h) | h
 ·obtain ⟨i, hi, rfl⟩ := resR_in (Nat.le_refl _) h; exact reset_in hg hi
 ·obtain ⟨i, hi, rfl⟩ := setR_in (Nat.le_refl _) h; exact set_in hg hi
 ·obtain ⟨k, hk, o, hr⟩ := ptR_in h; exact ptG_in hg hk o hr
theorem bEs_le {m : Nat} : ∀ {l : List Ex}, (∀ e ∈ l, bE e ≤ m) → bEs l ≤ m * l.length
 | [], _ => by simp [bEs]
 | e :: l, h => by
  have := bEs_le fun e he => h e (List.mem_cons_of_mem _ he)
  have := h e (by simp)
  rw [bEs, List.length_cons, Nat.mul_add]; omega
theorem andE_b (l : List Ex) : bE (andE l) ≤ bEs l + 5 := by
 unfold andE; split
 ·simp only [bEs]; omega
 ·simp [bE]
theorem orE_b (l : List Ex) : bE (orE l) ≤ bEs l + 5 := by
 unfold orE; split
 ·simp only [bEs]; omega
 ·simp [bE]
theorem namesE_b (all : Bool) (e : Ex) : (namesE all e).length ≤ bE e := by
 have h1 := Lib.compact_length_le (sortT (nmsE all e))
 have h2 := sortT_len (nmsE all e)
 have h3 := nms_len all e
 unfold namesE
 omega
theorem RgIn.small {R S P : Nat} {r : RgP} (h : RgIn R S P r) {e : Ex} (he : r.cond = some e) : bE e ≤ 2^28 ∧ (namesE true e).length < 2^62 := by
 obtain ⟨l, _, hl, hc, hm⟩ := h.cond
 have hb : bEs l ≤ 8 * l.length := bEs_le fun e he => by
  rcases hm e he with ⟨c, i, rfl, _, hi⟩ | ⟨c, i, rfl, _, hi⟩
  ·have := nmT_len c hi
   simp only [notB, bE]; omega
  ·have := nmT_len c hi
   simp only [bE]; omega
 have h1 := andE_b l
 have h2 := orE_b l
 have h3 := namesE_b true e
 have hbe : bE e ≤ 70 := by
  rcases hc with hc | hc <;> (rw [hc, Option.some.injEq] at he; subst he; omega)
 omega
theorem lnm_mem {k : Int} {c : UInt8} {n : Nat} {x : NmP} (h : x ∈ lnm k c n) : ∃ i < n, x = nmP k c i := by
 obtain ⟨i, hi, rfl⟩ := List.mem_map.1 h
 exact ⟨i, List.mem_range.1 hi, rfl⟩
theorem ladder_small {S P : Nat} {rts : List Rt} (hg : GoodT S P rts) : SmallP (ladderT S P rts) := by
 have ⟨hs0, hs1, hp1, hr0, hr1, _, _, _, _, _⟩ := hg
 have hr := ptR_len rts P
 refine ⟨?_, ?_, fun n hn => ?_, fun r hr e he => (rungs_in hg hr).small he⟩
 ·show (namesT rts.length S P).length < _
  simp only [namesT, List.length_append, lnm_len]; omega
 ·show (rungsT rts P).length < _
  simp only [rungsT, List.length_append, resR_len, setR_len]; omega
 ·have hn' : n ∈ namesT rts.length S P := hn
  have key : ∃ k c i, n = nmP k c i ∧ i < 100 := by
   simp only [namesT, List.mem_append] at hn'
   rcases hn' with ((h | h) | h) | h <;> (obtain ⟨i, hi, rfl⟩ := lnm_mem h; exact ⟨_, _, i, rfl, by omega⟩)
  obtain ⟨k, c, i, rfl, hi⟩ := key
  have := nmT_len c hi
  show (nmT c i).length < _
  omega
def numN (R S P : Nat) (s : Tx) : Int := numP ⟨namesT R S P, []⟩ s
def okN (R S P : Nat) : Bool :=
 (firstBad (badN ⟨namesT R S P, []⟩) (namesT R S P) 0).isNone
 && (((List.range R).all fun i => decide (0 ≤ numN R S P (nmT 97 i)))
 && (((List.range S).all fun i => decide (0 ≤ numN R S P (nmT 98 i)))
 && (((List.range R).all fun i => decide (0 ≤ numN R S P (nmT 108 i)) && decide (((namesT R S P).getD (numN R S P (nmT 108 i)).toNat ⟨[], 0, 0⟩).kind = 2))
 && ((List.range P).all fun i => decide (0 ≤ numN R S P (nmT 112 i)) && decide (((namesT R S P).getD (numN R S P (nmT 112 i)).toNat ⟨[], 0, 0⟩).kind = 2)))))
theorem okN_all : ∀ R < 4, ∀ S < 4, ∀ P < 3, okN R S P = true := by decide +kernel
theorem ladder_check {S P : Nat} {rts : List Rt} (hg : GoodT S P rts) : checkP (ladderT S P rts) = none := by
 have ⟨hs0, hs1, hp1, hr0, hr1, _, _, _, _, _⟩ := hg
 have hr := ptR_len rts P
 have hok := okN_all rts.length (by omega) S (by omega) P (by omega)
 simp only [okN, Bool.and_eq_true, Option.isNone_iff_eq_none, List.all_eq_true, List.mem_range, decide_eq_true_eq] at hok
 obtain ⟨h1, ha, hb, hl, hp⟩ := hok
 have hin : ∀ s, InN rts.length S P s → 0 ≤ numN rts.length S P s := fun s h => by
  cases h with
  | a i h => exact ha i h
  | b i h => exact hb i h
  | l i h => exact (hl i h).1
 have hrg : firstBad (fun _ r => badG (ladderT S P rts) r) (rungsT rts P) 0 = none := firstBad_ok fun k hk => by
  have hR := rungs_in hg (List.getElem_mem hk)
  generalize (rungsT rts P)[k] = r at hR
  obtain ⟨rk, rn, rc⟩ := r
  obtain ⟨h2, h3, l, hl0, _, hc, hm⟩ := hR
  dsimp only at h2 h3 hc
  have hnm : 0 ≤ numN rts.length S P rn ∧ ((namesT rts.length S P).getD (numN rts.length S P rn).toNat ⟨[], 0, 0⟩).kind = 2 := by
   rcases h3 with ⟨i, hi, rfl⟩ | ⟨i, hi, rfl⟩
   ·exact hl i hi
   ·exact hp i hi
  have hw : wantP rk = 2 := by rcases h2 with rfl | rfl <;> rfl
  have hk2 : (decide (rk < 1) || decide (rk > 6)) = false := by rcases h2 with rfl | rfl <;> rfl
  have fin : ∀ e, (∀ s ∈ nmsE true e, InN rts.length S P s) → badG (ladderT S P rts) ⟨rk, rn, some e⟩ = 0 := fun e he => by
   show (if decide (rk < 1) || decide (rk > 6) then (1 : Int) else if numN rts.length S P rn < 0 then 7 else if wantP rk ≠ ((namesT rts.length S P).getD (numN rts.length S P rn).toNat ⟨[], 0, 0⟩).kind then 1 else if (namesE true e).any fun s => decide (numN rts.length S P s < 0) then 7 else 0) = 0
   have hany : ((namesE true e).any fun s => decide (numN rts.length S P s < 0)) = false := by
    rw [List.any_eq_false]
    intro s hs
    have := hin s (he s (namesE_mem.1 hs))
    simp; omega
   rw [hk2, if_neg (by decide), if_neg (by omega), hw, hnm.2, if_neg (by simp), hany, if_neg (by decide)]
  rcases hc with rfl | rfl
  ·refine fin _ fun s hs => ?_
   obtain ⟨e, he, hse⟩ := rl_andE hs
   rcases hm e he with ⟨c, i, rfl, h, _⟩ | ⟨c, i, rfl, h, _⟩
   ·rw [rl_not hse]; exact h
   ·rw [rl_bit hse]; exact h
  ·refine fin _ fun s hs => ?_
   obtain ⟨e, he, hse⟩ := rl_orE hs
   rcases hm e he with ⟨c, i, rfl, h, _⟩ | ⟨c, i, rfl, h, _⟩
   ·rw [rl_not hse]; exact h
   ·rw [rl_bit hse]; exact h
 have hlen : ¬ ((ladderT S P rts).names.length > 12 ∨ (ladderT S P rts).rungs.length > 40) := by
  show ¬ ((namesT rts.length S P).length > 12 ∨ (rungsT rts P).length > 40)
  simp only [namesT, rungsT, List.length_append, lnm_len, resR_len, setR_len]; omega
 have h1' : firstBad (badN (ladderT S P rts)) (ladderT S P rts).names 0 = none := h1
 have hrg' : firstBad (fun _ r => badG (ladderT S P rts) r) (ladderT S P rts).rungs 0 = none := hrg
 unfold checkP; rw [if_neg hlen, h1', hrg']
end Go.Proofs.YthnjfeielmbfkaaGreatDoor
namespace Go.Proofs.YthnjfeielmbfkaaGreatDoor
open Go.Av
def kindN (l : List NmP) (k : Int) : Nat → List Int
 | 0 => []
 | i + 1 => kindN l k i ++ if (l.getD i ⟨[], 0, 0⟩).kind = k then [(i : Int)] else []
theorem kindN_len (l : List NmP) (k : Int) : ∀ n, (kindN l k n).length ≤ n
 | 0 => Nat.le_refl _
 | n + 1 => by rw [kindN, List.length_append]; have := kindN_len l k n; split <;> simp <;> omega
theorem kindN_zero (l : List NmP) (k : Int) : kindN l k 0 = [] := rfl
theorem kindN_succ {l : List NmP} {k : Int} {i : Nat} (h : i < l.length) : kindN l k (i + 1) = kindN l k i ++ if l[i].kind = k then [(i : Int)] else [] := by
 rw [kindN, List.getD_eq_getElem?_getD, List.getElem?_eq_getElem h]; rfl
set_option maxHeartbeats 4000000 in
theorem lkind_spec (G : Glob) (p : PgP) (hl : p.names.length < 2^40) (k : Int) : PureC Tryz.prog G 12 [dPg p, .v (.int .i64 k)] (.sl none ((kindN p.names k p.names.length).map fun x => [.v (.int .i64 x)])) := by
 simp only [dPg, cPg, dNms, dRgs]; generalize p.rungs.map cRg = R; refine PureC.of_body (tyOf_good _) Tryz.func12 rfl rfl (rs := [.tmp 4]) Tryz.results12 (by simp [Tryz.ntmps12]) fun X => ?_; simp only [Tryz.ntmps12, List.map]; refine rg0 [1,2] [2] ?_; refine AW.imp (Imp.freezeB 2 trivial) ?_; refine AW.st (by simp; rfl) ?_; refine rg0 [1,2,5] [] ?_; refine AW_then fun K1 hK1 => ?_; refine rg0 [1,5,9,10,11] [] ?_; refine AW_for (S := Nat) (fun i => i ≤ p.names.length) (fun i => ⟨lst [(1, .d (.v (.int .i64 k))), (5, .own 300 0 (kindN p.names k i).length), (9, .d (.sl none (p.names.map cNm))), (10, int p.names.length), (11, int i)], hlst [(300, .sl 3 1 ((kindN p.names k i).map fun x => [.v (.int .i64 x)]))]⟩) (fun i => p.names.length - i) 0 ?_ (by simp) ?_
 ·refine (Imp.adopt 5 300 3 1 rfl rfl).trans ?_; refine Imp.to' (fun _ _ => trivial) (by simp [kindN_zero]) (by simp [kindN_zero])
 ·intro i hi
  have hkl := kindN_len p.names k i
  have hsuc := fun h => kindN_succ (l := p.names) (k := k) (i := i) h
  generalize hkL : kindN p.names k i = L at hkl hsuc ⊢; refine rg0 [1,5,9,10,11,12] [300] ?_; refine AW_then fun K2 hK2 => ?_; refine AW_cond' (b := i < p.names.length) (by simp [D.le, D.le.go, takeMap]) (fun hc => ?_) (fun hc => ?_)
  ·have hlt := hc
   have hs2 := hsuc hlt
   have hcn : cNm p.names[i] = [.v (.string (bs p.names[i].name)), .v (.int .i64 p.names[i].kind), .v (.int .i64 p.names[i].count)] := rfl
   generalize p.names[i].name = nm at hcn; generalize p.names[i].kind = kd at hcn hs2; generalize p.names[i].count = ct at hcn; refine AW_skip (hK2 _ ?_); refine AW_then fun K3 hK3 => ?_; refine AW_block ?_
   have qf := (Aq @hlt @hcn)
   refine rgqv [1,5,6,7,9,10,11] [300,7] ?_; refine AW.imp (Imp.freezeB 7 trivial) ?_; refine AW.st (by simp; rfl) ?_
   by_cases heq : kd = k
   ·rw [if_pos heq] at hs2
    have qf := @heq
    refine rgqv [1,5,6,9,10,11,19] [300] ?_; refine AW_tt rfl ?_; refine AW_re (tyOf_good _) fun K' hK' => ?_; (repeat (refine sxn fun K2 hK2 => ?_; simp [List.take_of_length_le]; (repeat (refine ⟨by omega, ?_⟩)); refine hK2 _ ?_; clear hK2 K2)); refine sxz (hK' _ ?_); clear hK' K'; refine hK3 _ (AW.norm [1, 5, 9, 10, 11] [300] (fun _ _ => trivial) (AW.st (by simp [List.take_of_length_le]; rfl) ?_)); refine AW_re (tyOf_good _) fun K' hK' => ?_; (repeat (refine sxn fun K2 hK2 => ?_; simp; (repeat (refine ⟨by omega, ?_⟩)); refine hK2 _ ?_; clear hK2 K2)); refine sxz (hK' _ ?_); clear hK' K'; (try simp only [thn, inb]); refine Again.mk (i + 1) (by omega) (by omega) ?_; refine Imp.to' (fun _ _ => trivial) (by simp [hs2]) (by simp [hs2])
   ·rw [if_neg heq, List.append_nil] at hs2
    have qf := @heq
    refine rgqv [1,5,6,9,10,11,19] [300] ?_; refine AW_ff rfl ?_; refine AW_skip (hK3 _ ?_); refine AW_re (tyOf_good _) fun K' hK' => ?_; (repeat (refine sxn fun K2 hK2 => ?_; simp; (repeat (refine ⟨by omega, ?_⟩)); refine hK2 _ ?_; clear hK2 K2)); refine sxz (hK' _ ?_); clear hK' K'; (try simp only [thn, inb]); refine Again.mk (i + 1) (by omega) (by omega) ?_; refine Imp.to' (fun _ _ => trivial) (by simp [hs2]) (by simp [hs2])
  ·obtain rfl : i = p.names.length := by omega
   refine AW_exit (hK1 _ ?_); refine AW.imp (Imp.freeze 300 trivial) ?_; refine AW.st (by simp [List.take_of_length_le]; rfl) ?_; refine rg0 [4] [] ?_; refine AW_ret ?_; simp [D.le, D.le.go, takeMap, D.leGo_refl, D.le_refl, hkL]
end Go.Proofs.YthnjfeielmbfkaaGreatDoor
namespace Go.Proofs.YthnjfeielmbfkaaGreatDoor
open Go.Av
theorem renH_hlst {r r' : Nat} (hr : r ≠ r') (l : List (Nat × Row)) (hl : ∀ p ∈ l, p.1 ≠ r') : renH r r' (hlst l) = hlst (l.map fun p => (if p.1 = r then r' else p.1, p.2.tr (renO r r') (renF r r'))) := by
 funext q
 unfold renH
 induction l with
 | nil => simp [hlst, List.lookup]
 | cons p l ih =>
  have ih := ih fun p hp => hl p (by simp [hp])
  have hp := hl p (by simp)
  obtain ⟨k, row⟩ := p
  simp only [hlst, List.lookup, List.map_cons] at ih ⊢
  by_cases h1 : q = r'
  ·subst h1; simp only [if_true] at ih ⊢
   by_cases h2 : k = r
   ·subst h2; simp
   ·have a1 : (r == k) = false := by simpa using fun e => h2 e.symm
    have a2 : (q == k) = false := by simpa using fun e => hp e.symm
    simp only [h2, if_false, a1, a2]; exact ih
  ·simp only [h1, if_false] at ih ⊢
   by_cases h2 : q = r
   ·subst h2; simp only [if_true] at ih ⊢
    by_cases h3 : k = q
    ·have a1 : (q == r') = false := by simpa using h1
     simp only [h3, if_true, a1]; exact ih
    ·have a1 : (q == k) = false := by simpa using fun e => h3 e.symm
     simp only [h3, if_false, a1]; exact ih
   ·simp only [h2, if_false] at ih ⊢
    by_cases h3 : k = r
    ·have a1 : (q == k) = false := by rw [h3]; simpa using h2
     have a2 : (q == r') = false := by simpa using h1
     simp only [h3, if_true, a2] at a1 ⊢; rw [a1]; exact ih
    ·simp only [h3, if_false]
     by_cases h4 : q = k
     ·subst h4; simp
     ·have a1 : (q == k) = false := by simpa using h4
      simp only [a1]; exact ih
end Go.Proofs.YthnjfeielmbfkaaGreatDoor
namespace Go.Proofs.YthnjfeielmbfkaaGreatDoor
open Go.Av
theorem badGw_some (p : PgP) (k : Int) (s : Tx) (e : Ex) : badG p ⟨k, s, some e⟩ = if !(decide (1 ≤ k) && decide (k ≤ 6)) then 1 else if numP p s < 0 then 7 else if !decide (wantP k = (p.names.getD (numP p s).toNat ⟨[], 0, 0⟩).kind) then 1 else if (namesE true e).any fun s => decide (numP p s < 0) then 7 else 0 := by
 have h : (decide (k < 1) || decide (k > 6)) = !(decide (1 ≤ k) && decide (k ≤ 6)) := by
  by_cases h1 : 1 ≤ k <;> by_cases h2 : k ≤ 6 <;> simp [h1, h2] <;> omega
 show (if decide (k < 1) || decide (k > 6) then (1 : Int) else _) = _
 rw [h]; simp only [Bool.not_eq_true', decide_eq_false_iff_not, ne_eq]
end Go.Proofs.YthnjfeielmbfkaaGreatDoor
namespace Go.Proofs.YthnjfeielmbfkaaGreatDoor
open Go.Av
theorem nms_sub {s : Tx} : ∀ (n : Nat) (e : Ex), SizeOf.sizeOf e ≤ n → s ∈ nmsE false e → s ∈ nmsE true e
 | 0, e, hn, _ => by cases e <;> simp at hn
 | n + 1, e, hn, h => by
  have many : ∀ l : List Ex, (∀ x ∈ l, SizeOf.sizeOf x ≤ n) → s ∈ nmsL false l → s ∈ nmsL true l := by
   intro l
   induction l with
   | nil => intro _ h; simp [nmsL] at h
   | cons x l ih =>
    intro hl h
    rw [nmsL, List.mem_append] at h ⊢
    rcases h with h | h
    ·exact .inl (nms_sub n x (hl x (by simp)) h)
    ·exact .inr (ih (fun y hy => hl y (by simp [hy])) h)
  have inside : ∀ (l : List Ex), SizeOf.sizeOf l ≤ n → ∀ x ∈ l, SizeOf.sizeOf x ≤ n := fun l hl x hx => by
   have := List.sizeOf_lt_of_mem hx; omega
  cases e with
  | cst b => simp [nmsE, nmE, one1] at h
  | bit t => simp [nmsE, nmE, one1] at h
  | rise t => exact h
  | fall t => exact h
  | not e => exact nms_sub n e (by simp at hn; omega) h
  | and l => exact many l (inside l (by simp at hn; omega)) h
  | or l => exact many l (inside l (by simp at hn; omega)) h
theorem names_sub {s : Tx} {e : Ex} (h : s ∈ namesE false e) : s ∈ namesE true e := namesE_mem.2 (nms_sub _ e (Nat.le_refl _) (namesE_mem.1 h))
theorem checkP_rung {p : PgP} (h : checkP p = none) : ∀ r ∈ p.rungs, (1 ≤ r.kind ∧ r.kind ≤ 6) ∧ ¬ numP p r.name < 0 ∧ ∃ e, r.cond = some e ∧ ∀ s ∈ namesE true e, ¬ numP p s < 0 := fun r hr => by
 unfold checkP at h
 split at h
 ·cases h
 split at h
 ·cases h
 split at h
 ·cases h
 rename_i hB
 obtain ⟨k, hk, rfl⟩ := List.mem_iff_getElem.1 hr
 have h0 := firstBad_none hB k hk
 generalize p.rungs[k] = r at h0
 obtain ⟨kd, nm, cd⟩ := r
 cases cd with
 | none => cases (show (1 : Int) = 0 from h0)
 | some e =>
  rw [badGw_some] at h0
  split at h0
  ·cases h0
  rename_i h1
  split at h0
  ·cases h0
  rename_i h2
  split at h0
  ·cases h0
  split at h0
  ·cases h0
  rename_i h4
  refine ⟨by simpa using h1, h2, e, rfl, fun s hs hn => h4 ?_⟩; exact List.any_eq_true.2 ⟨s, hs, by simpa using hn⟩
end Go.Proofs.YthnjfeielmbfkaaGreatDoor
namespace Go.Proofs.YthnjfeielmbfkaaGreatDoor
open Go.Av
structure StP where
 is : List Bool
 ct : List Int
def startP (p : PgP) : StP := ⟨List.replicate p.names.length false, List.replicate p.names.length 0⟩
def bitF (p : PgP) (l : List Bool) (s : Tx) : Bool := l.getD (numP p s).toNat false
def evC (is was : Tx → Bool) : Option Ex → Bool
 | some e => evE is was e
 | none => false
def runS (s : StP) (i : Nat) (m : Int) (yes : Bool) : StP :=
 let c := if yes then (if s.ct.getD i 0 + 1 < m then s.ct.getD i 0 + 1 else m) else s.ct.getD i 0
 ⟨s.is.set i (decide (m ≤ c)), s.ct.set i c⟩
def zeroS (s : StP) (i : Nat) : StP := ⟨s.is.set i false, s.ct.set i 0⟩
def rungS (p : PgP) (old t : StP) (r : RgP) : StP :=
 let i := (numP p r.name).toNat
 let yes := evC (bitF p t.is) (bitF p old.is) r.cond
 let m := (p.names.getD i ⟨[], 0, 0⟩).count
 if r.kind = 1 then ⟨t.is.set i yes, t.ct⟩
 else if r.kind = 2 then ⟨t.is.set i (t.is.getD i false || yes), t.ct⟩
 else if r.kind = 3 then ⟨t.is.set i (t.is.getD i false && !yes), t.ct⟩
 else if r.kind = 4 then (if yes then runS t i m yes else zeroS (runS t i m yes) i)
 else if r.kind = 5 then runS t i m yes
 else if r.kind = 6 then (if yes then zeroS t i else t)
 else t
def putIn (at' : List Int) (inn : List Bool) (is : List Bool) : Nat → List Bool
 | 0 => is
 | k + 1 => (putIn at' inn is k).set (at'.getD k 0).toNat (inn.getD k false)
def inputP (p : PgP) : List Int := kindN p.names 1 p.names.length
def doP (p : PgP) (s : StP) (inn : List Bool) : StP := p.rungs.foldl (rungS p s) ⟨putIn (inputP p) inn s.is (inputP p).length, s.ct⟩
def stepP (p : PgP) (s : StP) (inn : List Bool) : (Int × Option Nat) ⊕ StP := match checkP p with
 | some e => .inl e
 | none => if inn.length ≠ (inputP p).length ∨ s.is.length ≠ p.names.length ∨ s.ct.length ≠ p.names.length then .inl (2, none) else .inr (doP p s inn)
def dBl (l : List Bool) : D := .sl none (l.map fun b => [.v (.bool b)])
def dIl (l : List Int) : D := .sl none (l.map fun n => [.v (.int .i64 n)])
def cSt (s : StP) : List D := [dBl s.is, dIl s.ct]
def dSt (s : StP) : D := .agg (cSt s)
theorem getD_of {α : Type} {l : List α} {i : Nat} {d : α} (h : i < l.length) : l.getD i d = l[i] := by
 rw [List.getD_eq_getElem?_getD, List.getElem?_eq_getElem h]; rfl
theorem numP_lt {p : PgP} {s : Tx} (h : ¬ numP p s < 0) : (numP p s).toNat < p.names.length ∧ numP p s = ((numP p s).toNat : Int) := by
 obtain ⟨k, hk, hke, _⟩ := idx_pos h
 have e : numP p s = (k : Int) := hke
 rw [e]; exact ⟨by simpa using hk, by simp⟩
set_option maxHeartbeats 2000000 in
theorem ask1 (G : Glob) (p : PgP) (hp : p.names.length < 2^62) (s : StP) (hl : s.is.length = p.names.length) : TellsOn (fun nm => ¬ numP p nm < 0) G 112 [.ip (cSt s), .ip (cPg p)] (bitF p s.is) := by
 intro nm hn
 have hnum := lc_num G p hp nm
 obtain ⟨h1, h2⟩ := numP_lt hn
 have hi : (numP p nm).toNat < s.is.length := by omega
 have hbv : bitF p s.is nm = s.is[(numP p nm).toNat] := by unfold bitF; exact getD_of hi
 rw [hbv]; rw [h2] at hnum; clear h1 h2 hbv hn; simp only [dPg, cPg, dNms, dRgs, dS] at hnum; simp only [cSt, dBl, dIl, cPg, dNms, dRgs]; generalize hix : (numP p nm).toNat = i at hnum hi ⊢; clear hix hl hp; generalize p.names.map cNm = NN at hnum ⊢; generalize p.rungs.map cRg = RR at hnum ⊢; generalize s.is = L at hi ⊢; generalize s.ct.map (fun n => [D.v (.int .i64 n)]) = CC; refine PureC.of_body (tyOf_good _) Tryz.func112 rfl rfl (rs := [.tmp 4]) Tryz.results112 (by simp [Tryz.ntmps112]) fun X => ?_; simp only [Tryz.ntmps112, List.map]
 have fw := @dS.eq_1
 refine rgq fw [0,1,2] [] ?_
 have qf := (Aq fw @hi)
 refine rdcv hnum [4] [] ?_; refine AW_ret ?_; simp [D.le, D.le.go, takeMap, dS]
set_option maxHeartbeats 2000000 in
theorem ask2 (G : Glob) (p : PgP) (hp : p.names.length < 2^62) (s : StP) (hl : s.is.length = p.names.length) : TellsOn (fun nm => ¬ numP p nm < 0) G 113 [.ip (cSt s), .ip (cPg p)] (bitF p s.is) := by
 intro nm hn
 have hnum := lc_num G p hp nm
 obtain ⟨h1, h2⟩ := numP_lt hn
 have hi : (numP p nm).toNat < s.is.length := by omega
 have hbv : bitF p s.is nm = s.is[(numP p nm).toNat] := by unfold bitF; exact getD_of hi
 rw [hbv]; rw [h2] at hnum; clear h1 h2 hbv hn; simp only [dPg, cPg, dNms, dRgs, dS] at hnum; simp only [cSt, dBl, dIl, cPg, dNms, dRgs]; generalize hix : (numP p nm).toNat = i at hnum hi ⊢; clear hix hl hp; generalize p.names.map cNm = NN at hnum ⊢; generalize p.rungs.map cRg = RR at hnum ⊢; generalize s.is = L at hi ⊢; generalize s.ct.map (fun n => [D.v (.int .i64 n)]) = CC; refine PureC.of_body (tyOf_good _) Tryz.func113 rfl rfl (rs := [.tmp 4]) Tryz.results113 (by simp [Tryz.ntmps113]) fun X => ?_; simp only [Tryz.ntmps113, List.map]
 have fw := @dS.eq_1
 refine rgq fw [0,1,2] [] ?_
 have qf := (Aq fw @hi)
 refine rdcv hnum [4] [] ?_; refine AW_ret ?_; simp [D.le, D.le.go, takeMap, dS]
def stR (s : StP) : List (Nat × Row) := [(7, .box 45 [.own 701 0 s.is.length, .own 702 0 s.ct.length]), (701, .sl 4 1 (s.is.map fun b => [.v (.bool b)])), (702, .sl 3 1 (s.ct.map fun n => [.v (.int .i64 n)]))]
set_option maxHeartbeats 4000000 in
theorem run_mc (G : Glob) (s : StP) (i : Nat) (m : Int) (yes : Bool) (hi : i < s.is.length) (hc : i < s.ct.length) (hb : ∀ x ∈ s.ct, 0 ≤ x ∧ x ≤ 2^40) : MC Tryz.prog G [7] 115 [.ref 7 0 0, .d (dNum i), .d (dNum m), .d (.v (.bool yes))] (hlst (stR s)) (.d (.tup [])) (hlst (stR (runS s i m yes))) := by
 have hci : s.ct.getD i 0 = s.ct[i] := getD_of hc
 have hbd := hb s.ct[i] (List.getElem_mem hc)
 have hgc : (s.ct.map fun n => [D.v (.int .i64 n)])[i]? = some [.v (.int .i64 s.ct[i])] := by simp [hc]
 simp only [stR, runS, hci]
 cases yes with
 | true =>
  simp only [if_true]; refine MC.of_body (tyOf_good _) Tryz.func115 rfl rfl (rs := []) Tryz.results115 (by simp [Tryz.ntmps115]) rfl fun X => ?_; simp only [Tryz.ntmps115]
  have fw := @dNum.eq_1
  refine AW_then fun K1 hK1 => ?_; refine rgq fw [0,1,2,8] [7,701,702] ?_; refine AW_tt rfl ?_; refine AW_rdge (tyOf_good _) (by kernel_rfl) [(3, 7), (9, 7), (11, 702), (12, 702), (15, 702), (16, 702)] (by kernel_rfl) fun K' hK' => ?_; (repeat (refine sxg_next fun K2 hK2 => ?_; simp [dNum, hc]; (repeat (refine ⟨by omega, ?_⟩)); refine hK2 _ ?_; clear hK2 K2)); refine sxg_nil (hK' _ ?_); clear hK' K'; refine hK1 _ (AW.norm [0, 1, 2] [7, 701, 702] (notIn_ok rfl) (AW.st (by simp [dNum, hc]; rfl) ?_)); refine AW_rdge (tyOf_good _) (by kernel_rfl) [(3, 7), (8, 7), (10, 702), (11, 702), (14, 701), (15, 701)] (by kernel_rfl) fun K' hK' => ?_; (repeat (refine sxg_next fun K2 hK2 => ?_; simp [dNum, hc, hi]; (repeat (refine ⟨by omega, ?_⟩)); refine hK2 _ ?_; clear hK2 K2)); refine sxg_nil (hK' _ ?_); clear hK' K'; (try simp only [thn, inb]); simp [D.le, D.le.go, List.map_set]
 | false =>
  simp only [Bool.false_eq_true, if_false]; refine MC.of_body (tyOf_good _) Tryz.func115 rfl rfl (rs := []) Tryz.results115 (by simp [Tryz.ntmps115]) rfl fun X => ?_; simp only [Tryz.ntmps115]
  have fw := @dNum.eq_1
  refine AW_then fun K1 hK1 => ?_; refine rgq fw [0,1,2,8] [7,701,702] ?_; refine AW_ff rfl ?_; refine AW_skip (hK1 _ ?_); refine AW_rdge (tyOf_good _) (by kernel_rfl) [(3, 7), (8, 7), (10, 702), (11, 702), (14, 701), (15, 701)] (by kernel_rfl) fun K' hK' => ?_; (repeat (refine sxg_next fun K2 hK2 => ?_; simp [dNum, hc, hi]; (repeat (refine ⟨by omega, ?_⟩)); refine hK2 _ ?_; clear hK2 K2)); refine sxg_nil (hK' _ ?_); clear hK' K'; (try simp only [thn, inb]); simp [D.le, D.le.go, List.map_set]
end Go.Proofs.YthnjfeielmbfkaaGreatDoor
namespace Go.Proofs.YthnjfeielmbfkaaGreatDoor
open Go.Av
theorem checkP_want {p : PgP} (h : checkP p = none) : ∀ r ∈ p.rungs, (p.names.getD (numP p r.name).toNat ⟨[], 0, 0⟩).kind = wantP r.kind := fun r hr => by
 unfold checkP at h
 split at h
 ·cases h
 split at h
 ·cases h
 split at h
 ·cases h
 rename_i hB
 obtain ⟨k, hk, rfl⟩ := List.mem_iff_getElem.1 hr
 have h0 := firstBad_none hB k hk
 generalize p.rungs[k] = r at h0
 obtain ⟨kd, nm, cd⟩ := r
 cases cd with
 | none => cases (show (1 : Int) = 0 from h0)
 | some e =>
  rw [badGw_some] at h0
  split at h0
  ·cases h0
  split at h0
  ·cases h0
  split at h0
  ·cases h0
  rename_i h3
  simp only [Bool.not_eq_true', decide_eq_false_iff_not, Classical.not_not] at h3; exact h3.symm
structure InvS (p : PgP) (s : StP) : Prop where
 l1 : s.is.length = p.names.length
 l2 : s.ct.length = p.names.length
 lo : ∀ k, 0 ≤ s.ct.getD k 0
 hi : ∀ k (hk : k < p.names.length), s.ct.getD k 0 ≤ p.names[k].count
 at' : ∀ k (hk : k < p.names.length), 3 ≤ p.names[k].kind → s.is.getD k false = decide (s.ct.getD k 0 = p.names[k].count)
theorem getD_rep {α : Type} (n k : Nat) (x : α) : (List.replicate n x).getD k x = x := by
 rw [List.getD_eq_getElem?_getD, List.getElem?_replicate]
 split <;> rfl
theorem getD_set_same {α : Type} {l : List α} {i : Nat} {x d : α} (h : i < l.length) : (l.set i x).getD i d = x := by
 rw [List.getD_eq_getElem?_getD, List.getElem?_set_self h]; rfl
theorem getD_set_other {α : Type} {l : List α} {i k : Nat} {x d : α} (h : i ≠ k) : (l.set i x).getD k d = l.getD k d := by
 rw [List.getD_eq_getElem?_getD, List.getElem?_set_ne h, List.getD_eq_getElem?_getD]
theorem start_inv {p : PgP} (h : GoodP p) : InvS p (startP p) := by
 refine ⟨by simp [startP], by simp [startP], fun k => ?_, fun k hk => ?_, fun k hk h3 => ?_⟩
 ·show 0 ≤ (List.replicate _ (0 : Int)).getD k 0
  rw [getD_rep]; exact Int.le_refl _
 ·show (List.replicate _ (0 : Int)).getD k 0 ≤ _
  rw [getD_rep]
  rcases h.count _ (List.getElem_mem hk) with h1 | h1 <;> omega
 ·show (List.replicate _ false).getD k false = decide ((List.replicate _ (0 : Int)).getD k 0 = _)
  rw [getD_rep, getD_rep]
  rcases h.count _ (List.getElem_mem hk) with h1 | h1
  ·omega
  ·exact (decide_eq_false (by omega)).symm
theorem set_inv {p : PgP} {t : StP} (ht : InvS p t) {i : Nat} (hi : i < p.names.length) (hk : p.names[i].kind < 3) (b : Bool) : InvS p ⟨t.is.set i b, t.ct⟩ := by
 refine ⟨by simp [ht.l1], ht.l2, ht.lo, ht.hi, fun k hk' h3 => ?_⟩
 have hne : i ≠ k := fun e => by subst e; omega
 show (t.is.set i b).getD k false = _
 rw [getD_set_other hne]; exact ht.at' k hk' h3
theorem zero_inv {p : PgP} (hg : GoodP p) {t : StP} (ht : InvS p t) {i : Nat} (hi : i < p.names.length) : InvS p (zeroS t i) := by
 refine ⟨by simp [zeroS, ht.l1], by simp [zeroS, ht.l2], fun k => ?_, fun k hk => ?_, fun k hk h3 => ?_⟩
 ·show 0 ≤ (t.ct.set i 0).getD k 0
  by_cases e : i = k
  ·subst e; rw [getD_set_same (by rw [ht.l2]; exact hi)]; exact Int.le_refl _
  ·rw [getD_set_other e]; exact ht.lo k
 ·show (t.ct.set i 0).getD k 0 ≤ _
  by_cases e : i = k
  ·subst e; rw [getD_set_same (by rw [ht.l2]; exact hi)]
   rcases hg.count _ (List.getElem_mem hk) with h1 | h1 <;> omega
  ·rw [getD_set_other e]; exact ht.hi k hk
 ·show (t.is.set i false).getD k false = decide ((t.ct.set i 0).getD k 0 = _)
  by_cases e : i = k
  ·subst e; rw [getD_set_same (by first | (rw [ht.l1]; exact hi) | (rw [ht.l2]; exact hi)), getD_set_same (by first | (rw [ht.l2]; exact hi) | (rw [ht.l1]; exact hi))]
   rcases hg.count _ (List.getElem_mem hk) with h1 | h1
   ·omega
   ·exact (decide_eq_false (by omega)).symm
  ·rw [getD_set_other e, getD_set_other e]; exact ht.at' k hk h3
theorem run_inv {p : PgP} (hg : GoodP p) {t : StP} (ht : InvS p t) {i : Nat} (hi : i < p.names.length) (yes : Bool) : InvS p (runS t i p.names[i].count yes) := by
 have h0 := ht.lo i
 have h1 := ht.hi i hi
 have hc0 := hg.count _ (List.getElem_mem hi)
 obtain ⟨c, hcd, hc⟩ : ∃ c, c = (if yes then (if t.ct.getD i 0 + 1 < p.names[i].count then t.ct.getD i 0 + 1 else p.names[i].count) else t.ct.getD i 0) ∧ 0 ≤ c ∧ c ≤ p.names[i].count := ⟨_, rfl, by split <;> (try split) <;> omega, by split <;> (try split) <;> omega⟩
 have e : runS t i p.names[i].count yes = ⟨t.is.set i (decide (p.names[i].count ≤ c)), t.ct.set i c⟩ := by
  rw [hcd]; rfl
 rw [e]; refine ⟨by simp [ht.l1], by simp [ht.l2], fun k => ?_, fun k hk => ?_, fun k hk h3 => ?_⟩
 ·show 0 ≤ (t.ct.set i c).getD k 0
  by_cases e : i = k
  ·subst e; rw [getD_set_same (by rw [ht.l2]; exact hi)]; omega
  ·rw [getD_set_other e]; exact ht.lo k
 ·show (t.ct.set i c).getD k 0 ≤ _
  by_cases e : i = k
  ·subst e; rw [getD_set_same (by rw [ht.l2]; exact hi)]; omega
  ·rw [getD_set_other e]; exact ht.hi k hk
 ·show (t.is.set i _).getD k false = decide ((t.ct.set i c).getD k 0 = _)
  by_cases e : i = k
  ·subst e; rw [getD_set_same (by first | (rw [ht.l1]; exact hi) | (rw [ht.l2]; exact hi)), getD_set_same (by first | (rw [ht.l2]; exact hi) | (rw [ht.l1]; exact hi))]
   congr 1
   exact propext ⟨fun h => by omega, fun h => by omega⟩
  ·rw [getD_set_other e, getD_set_other e]; exact ht.at' k hk h3
theorem rung_at {p : PgP} (hc : checkP p = none) {r : RgP} (hr : r ∈ p.rungs) : ∃ i, ∃ hi : i < p.names.length, numP p r.name = (i : Int) ∧ p.names[i].kind = wantP r.kind ∧ p.names.getD i ⟨[], 0, 0⟩ = p.names[i] := by
 obtain ⟨_, h2, _⟩ := checkP_rung hc r hr
 obtain ⟨h3, h4⟩ := numP_lt h2
 have h5 := checkP_want hc r hr
 have h6 : p.names.getD (numP p r.name).toNat ⟨[], 0, 0⟩ = p.names[(numP p r.name).toNat] := getD_of h3
 rw [h6] at h5; exact ⟨_, h3, h4, h5, h6⟩
theorem rung_inv {p : PgP} (hc : checkP p = none) {r : RgP} (hr : r ∈ p.rungs) (old : StP) {t : StP} (ht : InvS p t) : InvS p (rungS p old t r) ∧ ∀ k (hk : k < p.names.length), p.names[k].kind = 1 → (rungS p old t r).is.getD k false = t.is.getD k false := by
 have hg := checkP_good hc
 obtain ⟨i, hi, hn, hw, hd⟩ := rung_at hc hr
 obtain ⟨hk, _⟩ := checkP_rung hc r hr
 unfold rungS; simp only [hn, Int.toNat_natCast, hd]
 have hw1 : p.names[i].kind ≠ 1 := by rw [hw]; unfold wantP; split <;> (try split) <;> omega
 have off : ∀ k (hk : k < p.names.length), p.names[k].kind = 1 → i ≠ k := fun k hk h1 e => by subst e; exact hw1 h1
 have hlow : r.kind ≤ 3 → p.names[i].kind < 3 := fun h => by rw [hw]; unfold wantP; rw [if_pos h]; omega
 split
 ·exact ⟨set_inv ht hi (hlow (by omega)) _, fun k hk h1 => getD_set_other (off k hk h1)⟩
 split
 ·exact ⟨set_inv ht hi (hlow (by omega)) _, fun k hk h1 => getD_set_other (off k hk h1)⟩
 split
 ·exact ⟨set_inv ht hi (hlow (by omega)) _, fun k hk h1 => getD_set_other (off k hk h1)⟩
 split
 ·split
  ·exact ⟨run_inv hg ht hi _, fun k hk h1 => getD_set_other (off k hk h1)⟩
  ·refine ⟨zero_inv hg (run_inv hg ht hi _) hi, fun k hk h1 => ?_⟩
   show ((runS t i _ _).is.set i false).getD k false = _
   rw [getD_set_other (off k hk h1)]; exact getD_set_other (off k hk h1)
 split
 ·exact ⟨run_inv hg ht hi _, fun k hk h1 => getD_set_other (off k hk h1)⟩
 split
 ·split
  ·exact ⟨zero_inv hg ht hi, fun k hk h1 => getD_set_other (off k hk h1)⟩
  ·exact ⟨ht, fun k hk h1 => rfl⟩
 ·exact ⟨ht, fun k hk h1 => rfl⟩
theorem rungs_inv {p : PgP} (hc : checkP p = none) (old : StP) : ∀ (l : List RgP) {t : StP}, (∀ r ∈ l, r ∈ p.rungs) → InvS p t → InvS p (l.foldl (rungS p old) t) ∧ ∀ k (hk : k < p.names.length), p.names[k].kind = 1 → (l.foldl (rungS p old) t).is.getD k false = t.is.getD k false
 | [], t, _, ht => ⟨ht, fun k hk h1 => rfl⟩
 | r :: l, t, hl, ht => by
  obtain ⟨h1, h2⟩ := rung_inv hc (hl r (by simp)) old ht
  obtain ⟨h3, h4⟩ := rungs_inv hc old l (fun r hr => hl r (by simp [hr])) h1
  exact ⟨h3, fun k hk hk1 => (h4 k hk hk1).trans (h2 k hk hk1)⟩
theorem kindN_mem {l : List NmP} {k : Int} {x : Int} : ∀ {n : Nat}, n ≤ l.length → (x ∈ kindN l k n ↔ ∃ i, ∃ hi : i < l.length, i < n ∧ x = (i : Int) ∧ l[i].kind = k)
 | 0, _ => by simp [kindN]
 | n + 1, hn => by
  rw [kindN_succ (by omega), List.mem_append, kindN_mem (by omega)]
  constructor
  ·rintro (⟨i, hi, h1, h2, h3⟩ | h)
   ·exact ⟨i, hi, by omega, h2, h3⟩
   ·split at h
    ·rename_i hk
     exact ⟨n, by omega, by omega, by simpa using h, hk⟩
    ·cases h
  ·rintro ⟨i, hi, h1, h2, h3⟩
   by_cases e : i = n
   ·subst e
    right; rw [if_pos h3]; simp [h2]
   ·exact .inl ⟨i, hi, by omega, h2, h3⟩
theorem kindN_nodup {l : List NmP} {k : Int} : ∀ {n : Nat}, n ≤ l.length → (kindN l k n).Nodup
 | 0, _ => by simp [kindN]
 | n + 1, hn => by
  rw [kindN_succ (by omega), List.nodup_append]; refine ⟨kindN_nodup (by omega), by split <;> simp, fun a ha b hb e => ?_⟩; subst e
  obtain ⟨i, hi, h1, h2, _⟩ := (kindN_mem (by omega)).1 ha
  split at hb
  ·have : a = (n : Int) := by simpa using hb
   omega
  ·cases hb
theorem input_at {p : PgP} {j : Nat} (hj : j < (inputP p).length) : ∃ i, ∃ hi : i < p.names.length, (inputP p)[j] = (i : Int) ∧ p.names[i].kind = 1 := by
 obtain ⟨i, hi, _, h2, h3⟩ := (kindN_mem (Nat.le_refl _)).1 (List.getElem_mem hj)
 exact ⟨i, hi, h2, h3⟩
theorem putIn_succ {at' : List Int} {inn is : List Bool} {k i : Nat} (h : k < at'.length) (hi : at'[k] = (i : Int)) : putIn at' inn is (k + 1) = (putIn at' inn is k).set i (inn.getD k false) := by
 rw [putIn, getD_of h, hi]; rfl
theorem putIn_inv {p : PgP} (inn : List Bool) {s : StP} (hs : InvS p s) : ∀ k, k ≤ (inputP p).length → InvS p ⟨putIn (inputP p) inn s.is k, s.ct⟩ ∧ ∀ j (hj : j < k) (hj2 : j < (inputP p).length), (putIn (inputP p) inn s.is k).getD (inputP p)[j].toNat false = inn.getD j false
 | 0, _ => ⟨hs, fun j hj => absurd hj (by omega)⟩
 | k + 1, hk => by
  obtain ⟨h1, h2⟩ := putIn_inv inn hs k (by omega)
  obtain ⟨i, hi, he, h3⟩ := input_at (p := p) (j := k) (by omega)
  rw [putIn_succ (by omega) he]; refine ⟨set_inv h1 hi (by omega) _, fun j hj hj2 => ?_⟩
  by_cases e : j = k
  ·subst e; rw [he, Int.toNat_natCast, getD_set_same (by rw [h1.l1]; exact hi)]
  ·have hne : i ≠ (inputP p)[j].toNat := fun e2 => by
    obtain ⟨i2, hi2, he2, _⟩ := input_at (p := p) hj2
    rw [he2, Int.toNat_natCast] at e2
    have : (inputP p)[j] = (inputP p)[k] := by rw [he, he2, e2]
    exact e ((List.getElem_inj (kindN_nodup (Nat.le_refl _))).1 this)
   rw [getD_set_other hne]; exact h2 j (by omega) hj2
theorem do_inv {p : PgP} (hc : checkP p = none) {s : StP} (hs : InvS p s) (inn : List Bool) : InvS p (doP p s inn) ∧ ∀ j (hj : j < (inputP p).length), (doP p s inn).is.getD (inputP p)[j].toNat false = inn.getD j false := by
 obtain ⟨h1, h2⟩ := putIn_inv inn hs (inputP p).length (Nat.le_refl _)
 obtain ⟨h3, h4⟩ := rungs_inv hc s p.rungs (fun r hr => hr) h1
 refine ⟨h3, fun j hj => ?_⟩
 obtain ⟨i, hi, he, hk⟩ := input_at hj
 have := h2 j hj hj
 rw [he, Int.toNat_natCast] at this ⊢; exact (h4 i hi hk).trans this
def playP (p : PgP) (s : StP) : List (List Bool) → List StP
 | [] => []
 | x :: l => doP p s x :: playP p (doP p s x) l
theorem playP_len (p : PgP) : ∀ (s : StP) (l : List (List Bool)), (playP p s l).length = l.length
 | _, [] => rfl
 | s, x :: l => by rw [playP, List.length_cons, List.length_cons, playP_len]
def behindP (p : PgP) (s : StP) (l : List (List Bool)) (k : Nat) : StP := (l.take k).foldl (doP p) s
theorem behind_succ (p : PgP) (s : StP) {l : List (List Bool)} {k : Nat} (hk : k < l.length) : behindP p s l (k + 1) = doP p (behindP p s l k) l[k] := by
 unfold behindP; rw [List.take_succ_eq_append_getElem hk, List.foldl_append]; rfl
theorem playP_get (p : PgP) : ∀ (s : StP) (l : List (List Bool)) (k : Nat) (hk : k < (playP p s l).length), (playP p s l)[k] = behindP p s l (k + 1)
 | s, x :: l, 0, _ => rfl
 | s, x :: l, k + 1, hk => by
  have := playP_get p (doP p s x) l k (by simpa [playP] using hk)
  simp only [playP, List.getElem_cons_succ]; rw [this]
  rfl
theorem playP_take (p : PgP) (s : StP) {l : List (List Bool)} {k : Nat} (hk : k < l.length) : (playP p s l).take (k + 1) = (playP p s l).take k ++ [behindP p s l (k + 1)] := by
 have hk' : k < (playP p s l).length := by rw [playP_len]; exact hk
 rw [List.take_succ_eq_append_getElem hk', playP_get]
theorem behind_inv {p : PgP} (hc : checkP p = none) (l : List (List Bool)) : ∀ k, k ≤ l.length → InvS p (behindP p (startP p) l k)
 | 0, _ => start_inv (checkP_good hc)
 | k + 1, hk => by
  rw [behind_succ _ _ (by omega)]; exact (do_inv hc (behind_inv hc l k (by omega)) _).1
theorem inv_small {p : PgP} (hc : checkP p = none) {s : StP} (hs : InvS p s) : ∀ x ∈ s.ct, 0 ≤ x ∧ x ≤ 2^20 := fun x hx => by
 obtain ⟨k, hk, rfl⟩ := List.mem_iff_getElem.1 hx
 have hk2 : k < p.names.length := by rw [← hs.l2]; exact hk
 have h1 := hs.lo k
 have h2 := hs.hi k hk2
 rw [getD_of hk] at h1 h2
 rcases (checkP_good hc).count _ (List.getElem_mem hk2) with h3 | h3 <;> omega
end Go.Proofs.YthnjfeielmbfkaaGreatDoor
namespace Go.Proofs.YthnjfeielmbfkaaGreatDoor
open Go.Av
theorem four_apart {α : Type} {f : α → Int} : ∀ {l : List α} {n : Int}, n ≤ 3 → (∀ a ∈ l, 0 ≤ f a ∧ f a < n) → twiceL (fun a b => f a == f b) [] l = false → l.length ≤ 3
 | [], _, _, _, _ => by simp
 | [_], _, _, _, _ => by simp
 | [_, _], _, _, _, _ => by simp
 | [_, _, _], _, _, _, _ => by simp
 | a :: b :: c :: d :: r, n, hn, hb, h => by
  exfalso
  have ha := hb a (by simp)
  have hb1 := hb b (by simp)
  have hc := hb c (by simp)
  have hd := hb d (by simp)
  simp [twiceL] at h
  omega
theorem good_of {secs pts : Int} {rts : List Rt} (h : checkT ⟨secs, pts, rts⟩ = none) : ∃ S P : Nat, secs = (S : Int) ∧ pts = (P : Int) ∧ GoodT S P rts := by
 have h0 : (if limT secs pts rts.length then some (4, none) else firstE (badR 8 2 9 secs pts) rts 0) = none := h
 split at h0
 ·cases h0
 ·rename_i hl
  unfold limT at hl
  obtain ⟨S, rfl⟩ := Int.eq_ofNat_of_zero_le (a := secs) (by omega)
  obtain ⟨P, rfl⟩ := Int.eq_ofNat_of_zero_le (a := pts) (by omega)
  have each : ∀ r ∈ rts, badR 8 2 9 (S : Int) (P : Int) r = 0 := by
   have key : ∀ (l : List Rt) (i : Nat), firstE (badR 8 2 9 (S : Int) (P : Int)) l i = none → ∀ r ∈ l, badR 8 2 9 (S : Int) (P : Int) r = 0 := by
    intro l
    induction l with
    | nil => intro i _ r hr; cases hr
    | cons x l ih =>
     intro i hf r hr
     rw [firstE] at hf
     split at hf
     ·rename_i hx
      rcases List.mem_cons.1 hr with rfl | hr
      ·exact hx
      ·exact ih _ hf r hr
     ·cases hf
   exact key rts 0 h0
  have parts : ∀ r ∈ rts, r.1 ≠ [] ∧ (∀ s ∈ r.1, 0 ≤ s ∧ s < (S : Int)) ∧ (∀ q ∈ r.2, 0 ≤ q.1 ∧ q.1 < (P : Int)) ∧ r.1.length ≤ 3 ∧ r.2.length ≤ 3 := fun r hr => by
   have hb := each r hr
   unfold badR at hb
   split at hb
   ·cases hb
   ·rename_i h1
    split at hb
    ·cases hb
    ·rename_i h2
     split at hb
     ·cases hb
     ·rename_i h3
      simp only [Bool.or_eq_true, List.any_eq_true, decide_eq_true_eq, not_or, not_exists, not_and] at h2
      have hs : ∀ s ∈ r.1, 0 ≤ s ∧ s < (S : Int) := fun s hs => by have := h2.1 s hs; omega
      have hq : ∀ q ∈ r.2, 0 ≤ q.1 ∧ q.1 < (P : Int) := fun q hq => by have := h2.2 q hq; omega
      unfold twiceF at h3; simp only [Bool.or_eq_true, not_or, Bool.not_eq_true] at h3; exact ⟨h1, hs, hq, four_apart (f := fun x => x) (n := (S : Int)) (by omega) hs h3.1, four_apart (f := fun q : Int × Bool => q.1) (n := (P : Int)) (by omega) hq h3.2⟩
  refine ⟨S, P, rfl, rfl, by omega, by omega, by omega, by omega, by omega, fun r hr => (parts r hr).2.1, fun r hr => (parts r hr).2.2.1, fun r hr => ?_, fun r hr => ?_, fun r hr => (parts r hr).2.2.2.1⟩
  ·obtain ⟨h1, _, _, h4, _⟩ := parts r hr
   have := List.length_pos_iff.2 h1
   omega
  ·obtain ⟨_, _, _, _, h5⟩ := parts r hr
   omega
def okN2 (R S P : Nat) : Bool :=
 ((List.range R).all fun i => decide (numN R S P (nmT 97 i) = i))
 && (((List.range S).all fun i => decide (numN R S P (nmT 98 i) = (R + i : Nat)))
 && (((List.range R).all fun i => decide (numN R S P (nmT 108 i) = (R + S + i : Nat)))
 && (((List.range P).all fun i => decide (numN R S P (nmT 112 i) = (R + S + R + i : Nat)))
 && decide (kindN (namesT R S P) 1 (namesT R S P).length = (List.range (R + S)).map Int.ofNat))))
theorem okN2_all : ∀ R < 4, ∀ S < 4, ∀ P < 3, okN2 R S P = true := by decide +kernel
section
variable {S P : Nat} {rts : List Rt}
theorem num_all (hg : GoodT S P rts) : (∀ i < rts.length, numP (ladderT S P rts) (nmT 97 i) = (i : Nat)) ∧ (∀ i < S, numP (ladderT S P rts) (nmT 98 i) = (rts.length + i : Nat)) ∧ (∀ i < rts.length, numP (ladderT S P rts) (nmT 108 i) = (rts.length + S + i : Nat)) ∧ (∀ i < P, numP (ladderT S P rts) (nmT 112 i) = (rts.length + S + rts.length + i : Nat)) ∧ inputP (ladderT S P rts) = (List.range (rts.length + S)).map Int.ofNat := by
 have ⟨_, hs1, hp1, _, hr1, _, _, _, _, _⟩ := hg
 have h := okN2_all rts.length (by omega) S (by omega) P (by omega)
 simp only [okN2, Bool.and_eq_true, List.all_eq_true, List.mem_range, decide_eq_true_eq] at h; exact h
theorem names_len : (ladderT S P rts).names.length = rts.length + S + rts.length + P := by
 show (namesT rts.length S P).length = _
 simp only [namesT, List.length_append, lnm_len]
theorem inputs_len (hg : GoodT S P rts) : (inputP (ladderT S P rts)).length = rts.length + S := by
 rw [(num_all hg).2.2.2.2]; simp
theorem evA_all (is was : Tx → Bool) : ∀ l : List Ex, evA is was l = l.all (evE is was)
 | [] => rfl
 | x :: l => by rw [evA, evA_all is was l, List.all_cons]
theorem evE_and (is was : Tx → Bool) (l : List Ex) : evE is was (andE l) = l.all (evE is was) := by
 unfold andE
 split
 ·rename_i x; simp
 ·exact evA_all is was l
theorem set_other {p : PgP} {s t : StP} {r : RgP} {q i : Nat} (hk : r.kind = 2 ∨ r.kind = 3) (hn : numP p r.name = (i : Int)) (hne : i ≠ q) : (rungS p s t r).is.getD q false = t.is.getD q false := by
 unfold rungS; simp only [hn, Int.toNat_natCast]
 rcases hk with h | h <;> rw [h] <;> simp [hne]
theorem set_len {p : PgP} {s t : StP} {r : RgP} (hk : r.kind = 2 ∨ r.kind = 3) : (rungS p s t r).is.length = t.is.length := by
 unfold rungS
 rcases hk with h | h <;> rw [h] <;> simp
theorem set_two {p : PgP} {s t : StP} {r : RgP} {i : Nat} (hk : r.kind = 2) (hn : numP p r.name = (i : Int)) (hi : i < t.is.length) : (rungS p s t r).is.getD i false = (t.is.getD i false || evC (bitF p t.is) (bitF p s.is) r.cond) := by
 unfold rungS; simp only [hn, Int.toNat_natCast, hk]
 show (t.is.set i _).getD i false = _
 rw [getD_set_same hi]
theorem set_three {p : PgP} {s t : StP} {r : RgP} {i : Nat} (hk : r.kind = 3) (hn : numP p r.name = (i : Int)) (hi : i < t.is.length) : (rungS p s t r).is.getD i false = (t.is.getD i false && !evC (bitF p t.is) (bitF p s.is) r.cond) := by
 unfold rungS; simp only [hn, Int.toNat_natCast, hk]
 show (t.is.set i _).getD i false = _
 rw [getD_set_same hi]
def aB (t : StP) (i : Nat) : Bool := t.is.getD i false
def freB (rts : List Rt) (t : StP) (r : Rt) : Bool := r.1.all fun s => !t.is.getD (rts.length + s.toNat) false
def lB (S : Nat) (rts : List Rt) (t : StP) (i : Nat) : Bool := t.is.getD (rts.length + S + i) false
def SameIn (S : Nat) (rts : List Rt) (t t' : StP) : Prop := ∀ q < rts.length + S, t'.is.getD q false = t.is.getD q false
theorem SameIn.a {t t' : StP} (h : SameIn S rts t t') {i : Nat} (hi : i < rts.length) : aB t' i = aB t i := h i (by omega)
theorem SameIn.f (hg : GoodT S P rts) {t t' : StP} (h : SameIn S rts t t') {r : Rt} (hr : r ∈ rts) : freB rts t' r = freB rts t r := by
 unfold freB; refine Bool.eq_iff_iff.2 ?_; rw [List.all_eq_true, List.all_eq_true]
 constructor <;> intro hh s hs
 ·have := hg.sec r hr s hs
  rw [← h _ (by omega)]; exact hh s hs
 ·have := hg.sec r hr s hs
  rw [h _ (by omega)]; exact hh s hs
theorem ev_not (hg : GoodT S P rts) (is : List Bool) (was : Tx → Bool) {i : Nat} (hi : i < rts.length) : evE (bitF (ladderT S P rts) is) was (notB 97 i) = !is.getD i false := by
 show (!bitF (ladderT S P rts) is (nmT 97 i)) = _
 unfold bitF; rw [(num_all hg).1 i hi, Int.toNat_natCast]
theorem ev_bit (hg : GoodT S P rts) (is : List Bool) (was : Tx → Bool) {i : Nat} (hi : i < rts.length) : evE (bitF (ladderT S P rts) is) was (.bit (nmT 97 i)) = is.getD i false := by
 show bitF (ladderT S P rts) is (nmT 97 i) = _
 unfold bitF; rw [(num_all hg).1 i hi, Int.toNat_natCast]
theorem ev_lock (hg : GoodT S P rts) (is : List Bool) (was : Tx → Bool) {i : Nat} (hi : i < rts.length) : evE (bitF (ladderT S P rts) is) was (notB 108 i) = !is.getD (rts.length + S + i) false := by
 show (!bitF (ladderT S P rts) is (nmT 108 i)) = _
 unfold bitF; rw [(num_all hg).2.2.1 i hi, Int.toNat_natCast]
theorem ev_free (hg : GoodT S P rts) (t : StP) (was : Tx → Bool) {r : Rt} (hr : r ∈ rts) : (freeL r.1).all (evE (bitF (ladderT S P rts) t.is) was) = freB rts t r := by
 unfold freeL freB; rw [List.all_map]; refine Bool.eq_iff_iff.2 ?_; rw [List.all_eq_true, List.all_eq_true]
 have e : ∀ s ∈ r.1, evE (bitF (ladderT S P rts) t.is) was (freeE s) = !t.is.getD (rts.length + s.toNat) false := fun s hs => by
  have := hg.sec r hr s hs
  show (!bitF (ladderT S P rts) t.is (nmT 98 s.toNat)) = _
  unfold bitF; rw [(num_all hg).2.1 s.toNat (by omega), Int.toNat_natCast]
 constructor <;> intro hh s hs
 ·rw [← e s hs]; exact hh s hs
 ·show evE _ _ (freeE s) = true
  rw [e s hs]; exact hh s hs
theorem ev_reset (hg : GoodT S P rts) (s t : StP) {i : Nat} (hi : i < rts.length) : evC (bitF (ladderT S P rts) t.is) (bitF (ladderT S P rts) s.is) (resetG i rts[i]).cond = (!aB t i && freB rts t rts[i]) := by
 show evE _ _ (andE (notB 97 i :: freeL rts[i].1)) = _
 rw [evE_and, List.all_cons, ev_not hg _ _ hi, ev_free hg t _ (List.getElem_mem hi)]; rfl
theorem ev_set (hg : GoodT S P rts) (s t : StP) {w : Nat} (hw : w < rts.length) (hl : ∀ k < rts.length, k ≠ w → lB S rts t k = false) : evC (bitF (ladderT S P rts) t.is) (bitF (ladderT S P rts) s.is) (setG rts w rts[w]).cond = (aB t w && freB rts t rts[w]) := by
 show evE _ _ (andE ((.bit (nmT 97 w) :: freeL rts[w].1) ++ clN rts w rts[w] rts.length)) = _
 have hcl : ∀ n, n ≤ rts.length → (clN rts w rts[w] n).all (evE (bitF (ladderT S P rts) t.is) (bitF (ladderT S P rts) s.is)) = true := by
  intro n
  induction n with
  | zero => intro _; rfl
  | succ n ih =>
   intro hn
   rw [clN, List.all_append, ih (by omega), Bool.true_and]
   split
   ·rename_i hc
    have hne : n ≠ w := by
     intro e; subst e
     simp at hc
    rw [List.all_cons, List.all_nil, Bool.and_true, ev_lock hg _ _ (by omega)]
    have := hl n (by omega) hne
    unfold lB at this; rw [this]; rfl
   ·rfl
 rw [evE_and, List.all_append, List.all_cons, ev_bit hg _ _ hw, ev_free hg t _ (List.getElem_mem hw), hcl _ (Nat.le_refl _), Bool.and_true]; rfl
theorem ev_set_off (hg : GoodT S P rts) (s t : StP) {i : Nat} (hi : i < rts.length) (ha : aB t i = false) : evC (bitF (ladderT S P rts) t.is) (bitF (ladderT S P rts) s.is) (setG rts i rts[i]).cond = false := by
 show evE _ _ (andE ((.bit (nmT 97 i) :: freeL rts[i].1) ++ clN rts i rts[i] rts.length)) = _
 unfold aB at ha; rw [evE_and, List.cons_append, List.all_cons, ev_bit hg _ _ hi, ha, Bool.false_and]
theorem resR_fold (hg : GoodT S P rts) (s t : StP) (ht : t.is.length = rts.length + S + rts.length + P) : ∀ n, n ≤ rts.length → let t' := (resR rts n).foldl (rungS (ladderT S P rts) s) t
  t'.is.length = t.is.length ∧ SameIn S rts t t' ∧ ∀ w < rts.length, lB S rts t' w = if w < n then (lB S rts t w && !(!aB t w && freB rts t (rts.getD w ([], [])))) else lB S rts t w
 | 0, _ => ⟨rfl, fun _ _ => rfl, fun w _ => by simp [resR]⟩
 | n + 1, hn => by
  obtain ⟨h1, h2, h3⟩ := resR_fold hg s t ht n (by omega)
  have hg1 : rts.getD n ([], []) = rts[n] := getD_of (by omega)
  rw [resR, List.foldl_append, List.foldl_cons, List.foldl_nil]; generalize (resR rts n).foldl (rungS (ladderT S P rts) s) t = t1 at h1 h2 h3; rw [hg1]
  show let t' := rungS (ladderT S P rts) s t1 (resetG n rts[n]); _
  intro t'
  have hnum : numP (ladderT S P rts) (resetG n rts[n]).name = (rts.length + S + n : Nat) := (num_all hg).2.2.1 n (by omega)
  have hk : (resetG n rts[n]).kind = 3 := rfl
  refine ⟨(set_len (.inr hk)).trans h1, fun q hq => ?_, fun w hw => ?_⟩
  ·exact (set_other (.inr hk) hnum (by omega)).trans (h2 q hq)
  ·by_cases e : w = n
   ·subst e; rw [if_pos (by omega)]
    have := set_three (s := s) (t := t1) hk hnum (by omega)
    rw [ev_reset hg s t1 (by omega)] at this
    have h3w := h3 w hw
    rw [if_neg (by omega)] at h3w
    show t'.is.getD _ false = _
    rw [this]
    show (lB S rts t1 w && _) = _
    rw [h3w, h2.a (by omega), h2.f hg (List.getElem_mem _), hg1]
   ·have h3w := h3 w hw
    show t'.is.getD _ false = _
    rw [set_other (.inr hk) hnum (by omega)]
    show lB S rts t1 w = _
    rw [h3w]
    by_cases e2 : w < n
    ·rw [if_pos e2, if_pos (by omega)]
    ·rw [if_neg e2, if_neg (by omega)]
theorem setR_fold (hg : GoodT S P rts) (s t : StP) (ht : t.is.length = rts.length + S + rts.length + P) {w : Nat} (hw : w < rts.length) (hal : ∀ k < rts.length, k ≠ w → aB t k = false) : ∀ n, n ≤ rts.length → let t' := (setR rts n).foldl (rungS (ladderT S P rts) s) t
  t'.is.length = t.is.length ∧ SameIn S rts t t' ∧ (∀ k < rts.length, k ≠ w → lB S rts t' k = lB S rts t k) ∧ (n ≤ w → lB S rts t' w = lB S rts t w) ∧ (lB S rts t w = true → lB S rts t' w = true) ∧ (aB t w = false → lB S rts t' w = lB S rts t w) ∧
   (w < n → (∀ k < rts.length, k ≠ w → lB S rts t k = false) → lB S rts t' w = (lB S rts t w || (aB t w && freB rts t rts[w])))
 | 0, _ => ⟨rfl, fun _ _ => rfl, fun _ _ _ => rfl, fun _ => rfl, fun h => h, fun _ => rfl, fun h => absurd h (by omega)⟩
 | n + 1, hn => by
  obtain ⟨h1, h2, h3, h4, h5, h6, h7⟩ := setR_fold hg s t ht hw hal n (by omega)
  have hg1 : rts.getD n ([], []) = rts[n] := getD_of (by omega)
  rw [setR, List.foldl_append, List.foldl_cons, List.foldl_nil]; generalize (setR rts n).foldl (rungS (ladderT S P rts) s) t = t1 at h1 h2 h3 h4 h5 h6 h7; rw [hg1]
  show let t' := rungS (ladderT S P rts) s t1 (setG rts n rts[n]); _
  intro t'
  have hnum : numP (ladderT S P rts) (setG rts n rts[n]).name = (rts.length + S + n : Nat) := (num_all hg).2.2.1 n (by omega)
  have hk : (setG rts n rts[n]).kind = 2 := rfl
  have same : ∀ k, k ≠ n → lB S rts t' k = lB S rts t1 k := fun k hkn => by
   show t'.is.getD _ false = _
   rw [set_other (.inl hk) hnum (by omega)]; rfl
  have at_n : lB S rts t' n = (lB S rts t1 n || evC (bitF (ladderT S P rts) t1.is) (bitF (ladderT S P rts) s.is) (setG rts n rts[n]).cond) := set_two hk hnum (by omega)
  refine ⟨(set_len (.inl hk)).trans h1, fun q hq => (set_other (.inl hk) hnum (by omega)).trans (h2 q hq), fun k hk2 hkw => ?_, fun hnw => ?_, fun hl => ?_, fun ha => ?_, fun hwn hl => ?_⟩
  ·by_cases e : k = n
   ·subst e; rw [at_n, ev_set_off hg s t1 (by omega) (by rw [h2.a hk2]; exact hal k hk2 hkw), Bool.or_false]; exact h3 k hk2 hkw
   ·rw [same k e]; exact h3 k hk2 hkw
  ·rw [same w (by omega)]; exact h4 (by omega)
  ·by_cases e : w = n
   ·subst e; rw [at_n, h5 hl]; rfl
   ·rw [same w e]; exact h5 hl
  ·by_cases e : w = n
   ·subst e; rw [at_n, ev_set_off hg s t1 (by omega) (by rw [h2.a hw]; exact ha), Bool.or_false]; exact h6 ha
   ·rw [same w e]; exact h6 ha
  ·by_cases e : w = n
   ·subst e; rw [at_n, ev_set hg s t1 hw (fun k hk2 hkw => by rw [h3 k hk2 hkw]; exact hl k hk2 hkw), h4 (Nat.le_refl _), h2.a hw, h2.f hg (List.getElem_mem hw)]
   ·rw [same w e]; exact h7 (by omega) hl
theorem ptR_fold (hg : GoodT S P rts) (s : StP) : ∀ (l : List RgP) (t : StP), (∀ r ∈ l, ∃ k < P, ∃ o, r ∈ ptG rts k o) → let t' := l.foldl (rungS (ladderT S P rts) s) t
  t'.is.length = t.is.length ∧ ∀ q < rts.length + S + rts.length, t'.is.getD q false = t.is.getD q false
 | [], t, _ => ⟨rfl, fun _ _ => rfl⟩
 | r :: l, t, hl => by
  obtain ⟨k, hk, o, hr⟩ := hl r (by simp)
  have hkind : r.kind = 2 ∨ r.kind = 3 := by
   by_cases he : ptE rts k o rts.length = []
   ·rw [ptG_none he] at hr; cases hr
   ·rw [ptG_some he, List.mem_singleton] at hr; subst hr
    cases o <;> simp
  have hname : r.name = nmT 112 k := by
   by_cases he : ptE rts k o rts.length = []
   ·rw [ptG_none he] at hr; cases hr
   ·rw [ptG_some he, List.mem_singleton] at hr; subst hr; rfl
  have hnum : numP (ladderT S P rts) r.name = (rts.length + S + rts.length + k : Nat) := by rw [hname]; exact (num_all hg).2.2.2.1 k hk
  obtain ⟨h1, h2⟩ := ptR_fold hg s l (rungS (ladderT S P rts) s t r) (fun r hr => hl r (by simp [hr]))
  rw [List.foldl_cons]; refine ⟨h1.trans (set_len hkind), fun q hq => ?_⟩; rw [h2 q hq]; exact set_other hkind hnum (by omega)
theorem ptJ_mem {k : Nat} {ovs : List Bool} {r : RgP} : ∀ {n : Nat}, r ∈ ptJ rts k ovs n → ∃ o, r ∈ ptG rts k o
 | 0, h => by cases h
 | n + 1, h => by
  rw [ptJ, List.mem_append] at h
  rcases h with h | h
  ·exact ptJ_mem h
  ·exact ⟨_, h⟩
theorem ptR_mem {r : RgP} : ∀ {n : Nat}, r ∈ ptR rts n → ∃ k < n, ∃ o, r ∈ ptG rts k o
 | 0, h => by cases h
 | n + 1, h => by
  rw [ptR, List.mem_append] at h
  rcases h with h | h
  ·obtain ⟨k, hk, o, ho⟩ := ptR_mem h
   exact ⟨k, by omega, o, ho⟩
  ·obtain ⟨o, ho⟩ := ptJ_mem h
   exact ⟨n, by omega, o, ho⟩
theorem putIn_off {p : PgP} (inn : List Bool) (is : List Bool) {q : Nat} : ∀ k, k ≤ (inputP p).length → (∀ j (hj : j < (inputP p).length), (inputP p)[j].toNat ≠ q) → (putIn (inputP p) inn is k).getD q false = is.getD q false
 | 0, _, _ => rfl
 | k + 1, hk, h => by
  obtain ⟨i, hi, he, _⟩ := input_at (p := p) (j := k) (by omega)
  rw [putIn_succ (by omega) he, getD_set_other (by have := h k (by omega); rw [he, Int.toNat_natCast] at this; exact this)]; exact putIn_off inn is k (by omega) h
theorem route_scan (hg : GoodT S P rts) {s : StP} (hs : InvS (ladderT S P rts) s) (inn : List Bool) {w : Nat} (hw : w < rts.length) (hal : ∀ k < rts.length, k ≠ w → inn.getD k false = false) (hfr : ∀ k < S, inn.getD (rts.length + k) false = false) :
  (∀ k < rts.length, k ≠ w → lB S rts (doP (ladderT S P rts) s inn) k = false) ∧ (inn.getD w false = false → lB S rts (doP (ladderT S P rts) s inn) w = false) ∧
  (inn.getD w false = true → (∀ k < rts.length, k ≠ w → lB S rts s k = false) → lB S rts (doP (ladderT S P rts) s inn) w = true) ∧ (inn.getD w false = true → lB S rts s w = true → lB S rts (doP (ladderT S P rts) s inn) w = true) := by
 have hil := inputs_len hg
 have hie := (num_all hg).2.2.2.2
 obtain ⟨t0, ht0⟩ : ∃ t0, t0 = (⟨putIn (inputP (ladderT S P rts)) inn s.is (inputP (ladderT S P rts)).length, s.ct⟩ : StP) := ⟨_, rfl⟩
 obtain ⟨hp1, hp2⟩ := putIn_inv (p := ladderT S P rts) inn hs _ (Nat.le_refl _)
 rw [← ht0] at hp1
 have hlen0 : t0.is.length = rts.length + S + rts.length + P := by rw [hp1.l1, names_len]
 have hin0 : ∀ q < rts.length + S, t0.is.getD q false = inn.getD q false := fun q hq => by
  have := hp2 q (by omega) (by omega)
  have e : (inputP (ladderT S P rts))[q]'(by omega) = (q : Int) := by simp [hie]
  rw [e, Int.toNat_natCast] at this; rw [ht0]; exact this
 have hl0 : ∀ k < rts.length, lB S rts t0 k = lB S rts s k := fun k hk => by
  show t0.is.getD _ false = _
  rw [ht0]
  exact putIn_off inn s.is _ (Nat.le_refl _) fun j hj => by
   have e : (inputP (ladderT S P rts))[j] = (j : Int) := by simp [hie]
   rw [e, Int.toNat_natCast]; omega
 have ha0 : ∀ k < rts.length, aB t0 k = inn.getD k false := fun k hk => hin0 k (by omega)
 have hf0 : ∀ r ∈ rts, freB rts t0 r = true := fun r hr => by
  unfold freB; rw [List.all_eq_true]
  intro x hx
  have := hg.sec r hr x hx
  rw [hin0 _ (by omega), hfr _ (by omega)]; rfl
 have hdo : doP (ladderT S P rts) s inn = (ptR rts P).foldl (rungS (ladderT S P rts) s) ((setR rts rts.length).foldl (rungS (ladderT S P rts) s) ((resR rts rts.length).foldl (rungS (ladderT S P rts) s) t0)) := by
  show (rungsT rts P).foldl _ _ = _
  rw [rungsT, List.foldl_append, List.foldl_append, ht0]
 rw [hdo]
 obtain ⟨r1, r2, r3⟩ := resR_fold hg s t0 hlen0 rts.length (Nat.le_refl _)
 generalize (resR rts rts.length).foldl (rungS (ladderT S P rts) s) t0 = t1 at r1 r2 r3
 have ha1 : ∀ k < rts.length, aB t1 k = inn.getD k false := fun k hk => (r2.a hk).trans (ha0 k hk)
 have hl1 : ∀ k < rts.length, lB S rts t1 k = (lB S rts s k && inn.getD k false) := fun k hk => by
  rw [r3 k hk, if_pos hk, ha0 k hk, hl0 k hk, getD_of hk, hf0 _ (List.getElem_mem hk)]; simp
 obtain ⟨s1, s2, s3, _, s5, s6, s7⟩ := setR_fold hg s t1 (r1.trans hlen0) hw (fun k hk hkw => by rw [ha1 k hk]; exact hal k hk hkw) rts.length (Nat.le_refl _)
 generalize (setR rts rts.length).foldl (rungS (ladderT S P rts) s) t1 = t2 at s1 s2 s3 s5 s6 s7
 obtain ⟨_, p2⟩ := ptR_fold hg s (ptR rts P) t2 (fun r hr => ptR_mem hr)
 generalize (ptR rts P).foldl (rungS (ladderT S P rts) s) t2 = t3 at p2
 have hl3 : ∀ k < rts.length, lB S rts t3 k = lB S rts t2 k := fun k hk => p2 _ (by omega)
 have hoth : ∀ k < rts.length, k ≠ w → lB S rts t1 k = false := fun k hk hkw => by rw [hl1 k hk, hal k hk hkw, Bool.and_false]
 refine ⟨fun k hk hkw => ?_, fun ha => ?_, fun ha _ => ?_, fun ha hl => ?_⟩
 ·rw [hl3 k hk, s3 k hk hkw]; exact hoth k hk hkw
 ·rw [hl3 w hw, s6 (by rw [ha1 w hw]; exact ha), hl1 w hw, ha, Bool.and_false]
 ·rw [hl3 w hw, s7 hw hoth, ha1 w hw, ha, r2.f hg (List.getElem_mem hw), hf0 _ (List.getElem_mem hw)]; simp
 ·rw [hl3 w hw]; exact s5 (by rw [hl1 w hw, hl, ha]; rfl)
theorem route_serves (hg : GoodT S P rts) (hc : checkP (ladderT S P rts) = none) {s : StP} (hs : InvS (ladderT S P rts) s) {w : Nat} (hw : w < rts.length) {no ask : List Bool} (hno : ∀ k, no.getD k false = false) (hask : ask.getD w false = true) (hask2 : ∀ k, k ≠ w → ask.getD k false = false) :
  let s2 := doP (ladderT S P rts) (doP (ladderT S P rts) (doP (ladderT S P rts) s no) ask) ask
  s2.is.getD (rts.length + S + w) false = true ∧ (doP (ladderT S P rts) s2 no).is.getD (rts.length + S + w) false = false := by
 intro s2
 have h1 := (do_inv hc hs no).1
 have h2 := (do_inv hc h1 ask).1
 have h3 := (do_inv hc h2 ask).1
 have a1 := route_scan hg hs no hw (fun k _ _ => hno k) (fun k _ => hno _)
 have a2 := route_scan hg h1 ask hw (fun k _ hk => hask2 k hk) (fun k _ => hask2 _ (by omega))
 have a3 := route_scan hg h2 ask hw (fun k _ hk => hask2 k hk) (fun k _ => hask2 _ (by omega))
 have a4 := route_scan hg h3 no hw (fun k _ _ => hno k) (fun k _ => hno _)
 have b2 := a2.2.2.1 hask (fun k hk hkw => a1.1 k hk hkw)
 exact ⟨a3.2.2.2 hask b2, a4.2.1 (hno w)⟩
end
end Go.Proofs.YthnjfeielmbfkaaGreatDoor
namespace Go.Proofs.YthnjfeielmbfkaaGreatDoor
open Go.Av
theorem rl_one (e : Ex) : (dE e).one = true := by obtain ⟨a, b, h⟩ := dE_ifc e; rw [h]; rfl
def lRow (NM RG : List (List D)) : List (Nat × Row) := [(2, .box 29 [.d (.sl (some false) []), .d (.sl (some false) [])]), (500, .box 29 [.own 501 0 NM.length, .own 502 0 RG.length]), (501, .sl 73 3 NM), (502, .sl 114 3 RG)]
set_option maxHeartbeats 16000000 in
theorem rladder_good (G : Glob) (S P : Nat) (rts : List Rt) (hg : GoodT S P rts) (hct : checkT ⟨S, P, rts⟩ = none) (hsp : SmallP (ladderT S P rts)) (hcp : checkP (ladderT S P rts) = none) :
  PureC Tryz.prog G 9 [dTb ⟨S, P, rts⟩] (.tup [dPg (ladderT S P rts), .v .nilIface]) := by
 have hck := rcheck_spec G ⟨S, P, rts⟩ hg.small
 rw [hct] at hck
 have hlc := ladderCheck_spec G _ hsp
 rw [hcp] at hlc
 have hfin : ladderT S P rts = ⟨namesT rts.length S P, rungsT rts P⟩ := rfl
 rw [hfin] at hlc ⊢
 have ⟨hs0, hs1, hp1, hr0, hr1, hsec, hpts, hsl, hpl, hsl3⟩ := hg
 have hrl : rts.length < 2^62 := by omega
 have A1 := radd_spec G 1 97 rts.length (by omega) (.sl (some false) []) [] (by simp)
 have A2 := radd_spec G 1 98 S (by omega) (.sl (some false) []) (lnm 1 97 rts.length) (by rw [lnm_len]; omega)
 have A3 := radd_spec G 2 108 rts.length (by omega) (.sl (some false) []) (lnm 1 97 rts.length ++ lnm 1 98 S) (by rw [List.length_append, lnm_len, lnm_len]; omega)
 have A4 := radd_spec G 2 112 P (by omega) (.sl (some false) []) (lnm 1 97 rts.length ++ lnm 1 98 S ++ lnm 2 108 rts.length) (by rw [List.length_append, List.length_append, lnm_len, lnm_len, lnm_len]; omega)
 have hNM : lnm 1 97 rts.length ++ lnm 1 98 S ++ lnm 2 108 rts.length ++ lnm 2 112 P = namesT rts.length S P := rfl
 rw [List.nil_append] at A1; rw [hNM] at A4
 have hNl : (namesT rts.length S P).length ≤ 100 := by rw [← hNM]; simp only [List.length_append, lnm_len]; omega
 generalize namesT rts.length S P = NM at A4 hlc hNl ⊢
 have n0 : (lnm 1 97 rts.length).length = rts.length := lnm_len _ _ _
 generalize lnm 1 97 rts.length = N1 at *; generalize lnm 1 98 S = N2 at *; generalize lnm 2 108 rts.length = N3 at *; simp only [aRow] at A1 A2 A3 A4; generalize N1 ++ N2 = N12 at *; generalize N12 ++ N3 = N123 at *; simp only [dTb, cTb, dRts, dPg, cPg, dNms, dErr] at hck hlc ⊢; simp only [dRgs] at hlc ⊢; refine PureC.of_body (tyOf_good _) Tryz.func9 rfl rfl (rs := [.cell 2 29, .tmp 3]) Tryz.results9 (by simp [Tryz.ntmps9]) fun X => ?_; simp only [Tryz.ntmps9, List.map]; refine rg0 [1,2] [1,2] ?_; refine AW.imp (Imp.freezeB 1 trivial) ?_; refine AW.st (by simp; rfl) ?_; refine AW_then fun K1 hK1 => ?_; refine rgc trivial hck [1,2,4] [2] ?_; refine rg0 [1,2,4,27] [2] ?_; refine AW_ff rfl ?_; refine AW_skip (hK1 _ ?_); refine rg0 [1,2,5] [2,5] ?_; refine AW.imp (Imp.ren (r := 5) (r' := 500) trivial (by simp)) ?_; refine AW.st (by simp [renO, renF, Go.Av.ren, renH_hlst]; rfl) ?_; refine AW.imp (Imp.adoptCell 500 0 501 73 3 rfl rfl rfl) ?_; refine AW.imp (τ := ⟨lst [(1, .d (.ip [.v (.int .i64 S), .v (.int .i64 P), .sl none (rts.map cRt)])), (2, .ref 2 0 0), (5, .ref 500 0 0)], hlst [(2, .box 29 [.d (.sl (some false) []), .d (.sl (some false) [])]), (500, .box 29 [.own 501 0 0, .d (.sl (some false) [])]), (501, .sl 73 3 [])]⟩) ?_ ?_
 ·refine Imp.to' (fun _ _ => trivial) (by simp) (by simp)
 refine rg0 [1,2,5,6] [2,500,501] ?_
 have qf := @lxb97
 refine rgmv A1 [1,2,5,6] [2,500,501] ?_
 have qf := (Aq @lxb98 @n0)
 refine rgmv A2 [1,2,5,6] [2,500,501] ?_
 have qf := @lxb108
 refine rgmv A3 [1,2,5,6] [2,500,501] ?_
 have qf := @lxb112
 refine rgmv A4 [1,2,5] [2,500,501] ?_; refine rg0 [1,2,5,7] [2,500,501] ?_; refine AW.imp (Imp.adoptCell 500 1 502 114 3 rfl rfl rfl) ?_; refine AW.imp (τ := ⟨lst [(1, .d (.ip [.v (.int .i64 S), .v (.int .i64 P), .sl none (rts.map cRt)])), (2, .ref 2 0 0), (5, .ref 500 0 0), (7, .d (.fn (.func 45) []))], hlst (lRow (NM.map cNm) ([].map cRg))⟩) ?_ ?_
 ·refine Imp.to' (fun _ _ => trivial) (by simp [lRow]) (by simp [lRow])
 have hNl2 : (NM.map cNm).length ≤ 100 := by rw [List.length_map]; exact hNl
 generalize NM.map cNm = NC at hlc hNl2 ⊢; clear A1 A2 A3 A4; refine AW_then fun K2 hK2 => ?_; refine rgq @lRow.eq_1 [1,2,5,7,50,51,52] [2,500,501,502] ?_; refine AW_for (S := Nat) (fun i => i ≤ rts.length) (fun i => ⟨lst [(1, .d (.ip [.v (.int .i64 S), .v (.int .i64 P), .sl none (rts.map cRt)])), (2, .ref 2 0 0), (5, .ref 500 0 0), (7, .d (.fn (.func 45) [])), (50, .d (.sl none (rts.map cRt))), (51, int rts.length), (52, int i)], hlst (lRow NC ((resR rts i).map cRg))⟩) (fun i => rts.length - i) 0 ?_ (by simp) ?_
 ·refine Imp.to' (fun _ _ => trivial) (by simp [lRow, resR]) (by simp [lRow, resR])
 ·intro i hi
  have hRl : ((resR rts i).map cRg).length = i := by rw [List.length_map, resR_len]
  have hRs : i < rts.length → (resR rts (i + 1)).map cRg = (resR rts i).map cRg ++ [cRg (resetG i (rts.getD i ([], [])))] := fun _ => by rw [resR, List.map_append]; rfl
  generalize hRG0 : (resR rts i).map cRg = RG0 at hRl hRs ⊢; refine rgq @lRow.eq_1 [1,2,5,7,50,51,52,53] [2,500,501,502] ?_; refine AW_then fun K3 hK3 => ?_; refine AW_cond' (b := i < rts.length) (by simp [D.le, D.le.go, takeMap]) (fun hc => ?_) (fun hc => ?_)
  ·have hlt := hc
   have hgd : rts.getD i ([], []) = rts[i] := by rw [List.getD_eq_getElem?_getD, List.getElem?_eq_getElem hlt]; rfl
   have hRs2 := hRs hlt
   rw [hgd] at hRs2
   have hn1 := rname_spec G 97 i (by omega)
   have hn2 := rname_spec G 108 i (by omega)
   rw [Int.toNat_natCast] at hn1 hn2
   have hfr := rfree_spec G rts[i] (hsl _ (List.getElem_mem hlt)).2 (fun s hs => by have := hsec _ (List.getElem_mem hlt) s hs; omega)
   have hnd := rand_spec G none (notB 97 i :: freeL rts[i].1)
   have hcg : cRg (resetG i rts[i]) = [.v (.int .i64 3), .v (.string (bs (nmT 108 i))), dE (andE (notB 97 i :: freeL rts[i].1))] := rfl
   have hfl : (freeL rts[i].1).length < 2^40 := by unfold freeL; rw [List.length_map]; exact (hsl _ (List.getElem_mem hlt)).2
   obtain ⟨ta, ca, hta⟩ := dE_ifc (andE (notB 97 i :: freeL rts[i].1))
   have hno := dE_notB 97 i
   rw [hta] at hcg hnd; rw [List.map_cons, hno] at hnd
   have hcr : cRt rts[i] = [dRow rts[i].1, dPts rts[i].2] := rfl
   generalize resetG i rts[i] = g at hRs2 hcg; generalize freeL rts[i].1 = fl at hfr hnd hfl; simp only [dRt, hcr] at hfr
   have o1 : (dRow rts[i].1).one = true := rfl
   have o2 : (dPts rts[i].2).one = true := rfl
   generalize dRow rts[i].1 = c1 at hcr hfr o1; generalize dPts rts[i].2 = c2 at hcr hfr o2; refine AW_skip (hK3 _ ?_); refine AW_then fun K4 hK4 => ?_; refine AW_block ?_
   have qf := (Aq @hlt (Aq @hcr (Aq @o1 @o2)))
   refine rgqv [1,2,5,7,8,9,50,51,52] [2,500,501,502,9] ?_; refine AW.imp (Imp.freezeB 9 trivial) ?_; refine AW.st (by simp; rfl) ?_; refine AW_rl (tyOf_good _) (by kernel_rfl) ([(9, (62, 999))]) ([(1, [62]), (8, [62])]) ([0, 1, 2, 3, 4, 6, 7, 8, 5, 9, 10]) [1, 2, 5, 7, 8, 10, 50, 51, 52] [2, 500, 501, 502, 62] (fun _ _ => trivial) (by kernel_rfl) fun K' hK' => ?_; (repeat (refine sxl_nextO rfl fun K2 hK2 => ?_; simp [lxb97, hfl, rl_one]; (repeat (refine ⟨by omega, ?_⟩)); refine hK2 _ ?_; clear hK2 K2)); refine sxl_nextO rfl fun K2 hK2 => ?_; simp [lxb97, hfl, rl_one]; refine callD.mk (hn1) (by simp; rfl) (by simp; rfl) (by first | exact D.leGo_refl _ | simp [takeMap, List.map_map, Function.comp_def, D.le, D.le.go, D.le_refl, D.leGo_refl, lxb97, hfl, rl_one]) (by simp) ?_; refine hK2 _ ?_; clear hK2 K2; simp only [putd, upd_lst]; (repeat (refine sxl_nextO rfl fun K2 hK2 => ?_; simp [lxb97, hfl, rl_one]; (repeat (refine ⟨by omega, ?_⟩)); refine hK2 _ ?_; clear hK2 K2)); refine sxl_nextO rfl fun K2 hK2 => ?_; simp [lxb97, hfl, rl_one]; refine callD.mk (hfr) (by simp; rfl) (by simp; rfl) (by first | exact D.leGo_refl _ | simp [takeMap, List.map_map, Function.comp_def, D.le, D.le.go, D.le_refl, D.leGo_refl, lxb97, hfl, rl_one]) (by simp) ?_; refine hK2 _ ?_; clear hK2 K2; simp only [putd, upd_lst]; (repeat (refine sxl_nextO rfl fun K2 hK2 => ?_; simp [lxb97, hfl, rl_one]; (repeat (refine ⟨by omega, ?_⟩)); refine hK2 _ ?_; clear hK2 K2)); refine sxl_nilO (hK' _ ?_); refine AW.st (by simp [lxb97, hfl, rl_one]; rfl) ?_; clear hK' K'
   have hfc : 1 + fl.length = fl.length + 1 := Nat.add_comm _ _
   refine AW.imp (Imp.freeze 62 trivial) ?_; refine AW.st (by simp [hfc]; rfl) ?_; refine AW_rle (tyOf_good _) (by kernel_rfl) ([(8, (502, 74))]) ([(3, [502]), (5, [502])]) (List.range 11) (by kernel_rfl) fun K' hK' => ?_; (repeat (refine sxl_nextO rfl fun K2 hK2 => ?_; simp [lxb108, hRl, List.take_of_length_le]; (repeat (refine ⟨by omega, ?_⟩)); refine hK2 _ ?_; clear hK2 K2)); refine sxl_nextO rfl fun K2 hK2 => ?_; simp [lxb108, hRl, List.take_of_length_le]; refine callD.mk (hn2) (by simp; rfl) (by simp; rfl) (by first | exact D.leGo_refl _ | simp [takeMap, List.map_map, Function.comp_def, D.le, D.le.go, D.le_refl, D.leGo_refl, lxb108, hRl, List.take_of_length_le]) (by simp) ?_; refine hK2 _ ?_; clear hK2 K2; simp only [putd, upd_lst]; (repeat (refine sxl_nextO rfl fun K2 hK2 => ?_; simp [lxb108, hRl, List.take_of_length_le]; (repeat (refine ⟨by omega, ?_⟩)); refine hK2 _ ?_; clear hK2 K2)); refine sxl_nextO rfl fun K2 hK2 => ?_; simp [lxb108, hRl, List.take_of_length_le]; refine callD.mk (hnd) (by simp; rfl) (by simp; rfl) (by first | exact D.leGo_refl _ | simp [takeMap, List.map_map, Function.comp_def, D.le, D.le.go, D.le_refl, D.leGo_refl, lxb108, hRl, List.take_of_length_le]) (by simp) ?_; refine hK2 _ ?_; clear hK2 K2; simp only [putd, upd_lst]; (repeat (refine sxl_nextO rfl fun K2 hK2 => ?_; simp [lxb108, hRl, List.take_of_length_le]; (repeat (refine ⟨by omega, ?_⟩)); refine hK2 _ ?_; clear hK2 K2)); refine sxl_nilO (hK' _ ?_); clear hK' K'; refine hK4 _ (AW.norm [1, 2, 5, 7, 50, 51, 52] [2, 500, 501, 502] (fun _ _ => trivial) (AW.st (by simp [lxb108, hRl, List.take_of_length_le]; rfl) ?_)); refine AW_re (tyOf_good _) fun K' hK' => ?_; (repeat (refine sxn fun K2 hK2 => ?_; simp; (repeat (refine ⟨by omega, ?_⟩)); refine hK2 _ ?_; clear hK2 K2)); refine sxz (hK' _ ?_); clear hK' K'; (try simp only [thn, inb]); refine Again.mk (i + 1) (by omega) (by omega) ?_; refine Imp.to' (fun _ _ => trivial) (by simp [lRow, hRs2, hcg, hRl]) (by simp [lRow, hRs2, hcg, hRl])
  ·obtain rfl : i = rts.length := by omega
   clear hRs; refine AW_exit (hK2 _ ?_); refine AW_then fun K5 hK5 => ?_; refine rgq @lRow.eq_1 [1,2,5,7,79,80,81] [2,500,501,502] ?_; refine AW_for (S := Nat) (fun i => i ≤ rts.length) (fun i => ⟨lst [(1, .d (.ip [.v (.int .i64 S), .v (.int .i64 P), .sl none (rts.map cRt)])), (2, .ref 2 0 0), (5, .ref 500 0 0), (7, .d (.fn (.func 45) [])), (79, .d (.sl none (rts.map cRt))), (80, int rts.length), (81, int i)], hlst (lRow NC (RG0 ++ (setR rts i).map cRg))⟩) (fun i => rts.length - i) 0 ?_ (by simp) ?_
   ·refine Imp.to' (fun _ _ => trivial) (by simp [lRow, setR]) (by simp [lRow, setR])
   ·intro i hi
    have hRl2 : (RG0 ++ (setR rts i).map cRg).length = rts.length + i := by rw [List.length_append, List.length_map, setR_len, hRl]
    have hRs : i < rts.length → RG0 ++ (setR rts (i + 1)).map cRg = (RG0 ++ (setR rts i).map cRg) ++ [cRg (setG rts i (rts.getD i ([], [])))] := fun _ => by rw [setR, List.map_append, ← List.append_assoc]; rfl
    generalize hRG1 : RG0 ++ (setR rts i).map cRg = RG1 at hRl2 hRs ⊢; refine rgq @lRow.eq_1 [1,2,5,7,79,80,81,82] [2,500,501,502] ?_; refine AW_then fun K6 hK6 => ?_; refine AW_cond' (b := i < rts.length) (by simp [D.le, D.le.go, takeMap]) (fun hc => ?_) (fun hc => ?_)
    ·have hlt := hc
     have hgd : rts.getD i ([], []) = rts[i] := by rw [List.getD_eq_getElem?_getD, List.getElem?_eq_getElem hlt]; rfl
     have hRs2 := hRs hlt
     rw [hgd] at hRs2
     have hn1 := rname_spec G 97 i (by omega)
     have hn2 := rname_spec G 108 i (by omega)
     rw [Int.toNat_natCast] at hn1 hn2
     have hfr := rfree_spec G rts[i] (hsl _ (List.getElem_mem hlt)).2 (fun s hs => by have := hsec _ (List.getElem_mem hlt) s hs; omega)
     have hfl : (freeL rts[i].1).length < 2^40 := by unfold freeL; rw [List.length_map]; exact (hsl _ (List.getElem_mem hlt)).2
     have hbt := dE_bitN 97 i
     have hcl : ∀ k (hk : k < rts.length), PureC Tryz.prog G 47 [.agg (cRt rts[i]), .agg (cRt rts[k])] (.v (.bool (clashF rts[i] rts[k]))) := fun k hk => clash_spec G rts[i] rts[k] (hg.small.2 _ (List.getElem_mem hlt)) (hg.small.2 _ (List.getElem_mem hk))
     have hcg : cRg (setG rts i rts[i]) = [.v (.int .i64 2), .v (.string (bs (nmT 108 i))), dE (andE ((.bit (nmT 97 i) :: freeL rts[i].1) ++ clN rts i rts[i] rts.length))] := rfl
     have hcS : ∀ k (hk : k < rts.length), clN rts i rts[i] (k + 1) = clN rts i rts[i] k ++ if !decide (k = i) && clashF rts[i] rts[k] then [notB 108 k] else [] := fun k hk => by
      rw [clN, List.getD_eq_getElem?_getD, List.getElem?_eq_getElem hk]; rfl
     have hcN := clN_len rts i rts[i]
     have hc0 : clN rts i rts[i] 0 = [] := rfl
     have hcr : cRt rts[i] = [dRow rts[i].1, dPts rts[i].2] := rfl
     have o1 : (dRow rts[i].1).one = true := rfl
     have o2 : (dPts rts[i].2).one = true := rfl
     generalize setG rts i rts[i] = g at hRs2 hcg; generalize clN rts i rts[i] = cl at hcg hcS hcN hc0; generalize freeL rts[i].1 = fl at hfr hfl hcg
     have hLn : ∀ k, ((.bit (nmT 97 i) :: fl) ++ cl k).length ≤ 1 + fl.length + k := fun k => by have := hcN k; simp only [List.length_append, List.length_cons]; omega
     have hL0 : ((.bit (nmT 97 i) :: fl) ++ cl 0).map (fun e => [dE e]) = [dE (.bit (nmT 97 i))] :: fl.map (fun e => [dE e]) := by rw [hc0, List.append_nil]; rfl
     have hL1 : ((.bit (nmT 97 i) :: fl) ++ cl 0).length = 1 + fl.length := by rw [hc0, List.append_nil, List.length_cons]; omega
     have hLS : ∀ k (hk : k < rts.length), (.bit (nmT 97 i) :: fl) ++ cl (k + 1) = ((.bit (nmT 97 i) :: fl) ++ cl k) ++ if !decide (k = i) && clashF rts[i] rts[k] then [notB 108 k] else [] := fun k hk => by rw [hcS k hk, List.append_assoc]
     have hnd := rand_spec G none ((.bit (nmT 97 i) :: fl) ++ cl rts.length)
     obtain ⟨LL, hLL⟩ : ∃ f : Nat → List Ex, f = fun k => (.bit (nmT 97 i) :: fl) ++ cl k := ⟨_, rfl⟩
     have hLk : ∀ k, (.bit (nmT 97 i) :: fl) ++ cl k = LL k := fun k => by rw [hLL]
     simp only [hLk] at hLn hL0 hL1 hLS hnd hcg; clear hLk hLL hcS hcN hc0
     obtain ⟨ta, ca, hta⟩ := dE_ifc (andE (LL rts.length))
     rw [hta] at hcg hnd; rw [hbt] at hL0; simp only [dRt] at hfr; generalize hri : rts[i] = ri at hcr hfr hcl hLS o1 o2; generalize dRow ri.1 = c1 at hcr o1; generalize dPts ri.2 = c2 at hcr o2; rw [hcr] at hfr; simp only [hcr] at hcl; refine AW_skip (hK6 _ ?_); refine AW_then fun K7 hK7 => ?_; refine AW_block ?_
     have qf := (Aq @hlt (Aq @hri (Aq @hcr (Aq @o1 @o2))))
     refine rgqv [1,2,5,7,11,12,79,80,81] [2,500,501,502,12] ?_; refine AW.imp (Imp.freezeB 12 trivial) ?_; refine AW.st (by simp; rfl) ?_; refine AW_rl (tyOf_good _) (by kernel_rfl) ([(7, (89, 999))]) ([(1, [89]), (6, [89])]) ([0, 1, 2, 4, 5, 6, 3, 7, 8]) [1, 2, 5, 7, 11, 12, 13, 79, 80, 81] [2, 500, 501, 502, 89] (fun _ _ => trivial) (by kernel_rfl) fun K' hK' => ?_; (repeat (refine sxl_nextO rfl fun K2 hK2 => ?_; simp [lxb97, hfl, rl_one]; (repeat (refine ⟨by omega, ?_⟩)); refine hK2 _ ?_; clear hK2 K2)); refine sxl_nextO rfl fun K2 hK2 => ?_; simp [lxb97, hfl, rl_one]; refine callD.mk (hn1) (by simp; rfl) (by simp; rfl) (by first | exact D.leGo_refl _ | simp [takeMap, List.map_map, Function.comp_def, D.le, D.le.go, D.le_refl, D.leGo_refl, lxb97, hfl, rl_one]) (by simp) ?_; refine hK2 _ ?_; clear hK2 K2; simp only [putd, upd_lst]; (repeat (refine sxl_nextO rfl fun K2 hK2 => ?_; simp [lxb97, hfl, rl_one]; (repeat (refine ⟨by omega, ?_⟩)); refine hK2 _ ?_; clear hK2 K2)); refine sxl_nextO rfl fun K2 hK2 => ?_; simp [lxb97, hfl, rl_one]; refine callD.mk (hfr) (by simp; rfl) (by simp; rfl) (by first | exact D.leGo_refl _ | simp [takeMap, List.map_map, Function.comp_def, D.le, D.le.go, D.le_refl, D.leGo_refl, lxb97, hfl, rl_one]) (by simp) ?_; refine hK2 _ ?_; clear hK2 K2; simp only [putd, upd_lst]; (repeat (refine sxl_nextO rfl fun K2 hK2 => ?_; simp [lxb97, hfl, rl_one]; (repeat (refine ⟨by omega, ?_⟩)); refine hK2 _ ?_; clear hK2 K2)); refine sxl_nilO (hK' _ ?_); refine AW.st (by simp [lxb97, hfl, rl_one]; rfl) ?_; clear hK' K'; refine AW_then fun K8 hK8 => ?_; refine rg0 [1,2,5,7,11,12,13,79,80,81,95,96,97] [2,500,501,502,89] ?_; refine AW_for (S := Nat) (fun k => k ≤ rts.length) (fun k => ⟨lst [(1, .d (.ip [.v (.int .i64 S), .v (.int .i64 P), .sl none (rts.map cRt)])), (2, .ref 2 0 0), (5, .ref 500 0 0), (7, .d (.fn (.func 45) [])), (11, int i), (12, .d (.ip [c1, c2])), (13, .own 89 0 (LL k).length), (79, .d (.sl none (rts.map cRt))), (80, int rts.length), (81, int i), (95, .d (.sl none (rts.map cRt))), (96, int rts.length), (97, int k)], hlst (lRow NC RG1 ++ [(89, .sl 48 1 ((LL k).map fun e => [dE e]))])⟩) (fun k => rts.length - k) 0 ?_ (by simp) ?_
     ·refine Imp.to' (fun _ _ => trivial) (by simp [lRow, hL0, hL1]) (by simp [lRow, hL0, hL1])
     ·intro k hk
      have hLn2 := hLn k
      have hLS2 := hLS k
      generalize hLk : LL k = L at hLn2 hLS2 ⊢; refine rgq @lRow.eq_1 [1,2,5,7,11,12,13,79,80,81,95,96,97,98] [2,500,501,502,89] ?_; refine AW_then fun K9 hK9 => ?_; refine AW_cond' (b := k < rts.length) (by simp [D.le, D.le.go, takeMap]) (fun hc => ?_) (fun hc => ?_)
      ·have hkt := hc
       have hLS3 := hLS2 hkt
       have hck2 := hcl k hkt
       have hn3 := rname_spec G 108 k (by omega)
       rw [Int.toNat_natCast] at hn3
       have hno := dE_notB 108 k
       have hck0 : cRt rts[k] = [dRow rts[k].1, dPts rts[k].2] := rfl
       have q1 : (dRow rts[k].1).one = true := rfl
       have q2 : (dPts rts[k].2).one = true := rfl
       generalize hrk : rts[k] = rk at hck0 hck2 hLS3 q1 q2; generalize dRow rk.1 = e1 at hck0 q1; generalize dPts rk.2 = e2 at hck0 q2; rw [hck0] at hck2; generalize clashF ri rk = cf at hck2 hLS3; refine AW_skip (hK9 _ ?_); refine AW_then fun K10 hK10 => ?_; refine AW_block ?_
       have qf := (Aq @hkt (Aq @hrk (Aq @hck0 (Aq @q1 @q2))))
       refine rgqv [1,2,5,7,11,12,13,14,15,79,80,81,95,96,97] [2,500,501,502,89,15] ?_; refine AW.imp (Imp.freezeB 15 trivial) ?_; refine AW.st (by simp; rfl) ?_
       by_cases hki : k = i
       ·rw [if_neg (by simp [hki]), List.append_nil] at hLS3; subst hki; refine rg0 [1,2,5,7,11,12,13,14,79,80,81,95,96,97,109] [2,500,501,502,89] ?_; refine AW_ff rfl ?_; refine AW_skip ?_; refine hK10 _ (AW.norm [1, 2, 5, 7, 11, 12, 13, 79, 80, 81, 95, 96, 97] [2, 500, 501, 502, 89] (fun _ _ => trivial) (AW.st (by simp; rfl) ?_)); refine AW_re (tyOf_good _) fun K' hK' => ?_; (repeat (refine sxn fun K2 hK2 => ?_; simp; (repeat (refine ⟨by omega, ?_⟩)); refine hK2 _ ?_; clear hK2 K2)); refine sxz (hK' _ ?_); clear hK' K'; (try simp only [thn, inb]); refine Again.mk (k + 1) (by omega) (by omega) ?_; refine Imp.to' (fun _ _ => trivial) (by simp [lRow, hLS3]) (by simp [lRow, hLS3])
       ·have qf := @hki
        refine rgcv hck2 [1,2,5,7,11,12,13,14,79,80,81,95,96,97,109] [2,500,501,502,89] ?_
        cases cf with
        | false =>
         rw [if_neg (by simp), List.append_nil] at hLS3; refine AW_ff rfl ?_; refine AW_skip ?_; refine hK10 _ (AW.norm [1, 2, 5, 7, 11, 12, 13, 79, 80, 81, 95, 96, 97] [2, 500, 501, 502, 89] (fun _ _ => trivial) (AW.st (by simp; rfl) ?_)); refine AW_re (tyOf_good _) fun K' hK' => ?_; (repeat (refine sxn fun K2 hK2 => ?_; simp; (repeat (refine ⟨by omega, ?_⟩)); refine hK2 _ ?_; clear hK2 K2)); refine sxz (hK' _ ?_); clear hK' K'; (try simp only [thn, inb]); refine Again.mk (k + 1) (by omega) (by omega) ?_; refine Imp.to' (fun _ _ => trivial) (by simp [lRow, hLS3]) (by simp [lRow, hLS3])
        | true =>
         rw [if_pos (by simp [hki])] at hLS3; refine AW_tt rfl ?_; refine AW_re (tyOf_good _) fun K' hK' => ?_; (repeat (refine sxn fun K2 hK2 => ?_; simp [lxb108, List.take_of_length_le]; (repeat (refine ⟨by omega, ?_⟩)); refine hK2 _ ?_; clear hK2 K2)); refine sxn fun K2 hK2 => ?_; simp [lxb108, List.take_of_length_le]; refine callK.data (hn3) (by simp; rfl) (by first | exact D.leGo_refl _ | simp [takeMap, List.map_map, Function.comp_def, D.le, D.le.go, D.le_refl, D.leGo_refl, lxb108, List.take_of_length_le]) ?_; refine hK2 _ ?_; clear hK2 K2; simp only [putd, upd_lst]; (repeat (refine sxn fun K2 hK2 => ?_; simp [lxb108, List.take_of_length_le]; (repeat (refine ⟨by omega, ?_⟩)); refine hK2 _ ?_; clear hK2 K2)); refine sxz (hK' _ ?_); clear hK' K'; refine hK10 _ (AW.norm [1, 2, 5, 7, 11, 12, 13, 79, 80, 81, 95, 96, 97] [2, 500, 501, 502, 89] (fun _ _ => trivial) (AW.st (by simp [lxb108, List.take_of_length_le]; rfl) ?_)); refine AW_re (tyOf_good _) fun K' hK' => ?_; (repeat (refine sxn fun K2 hK2 => ?_; simp; (repeat (refine ⟨by omega, ?_⟩)); refine hK2 _ ?_; clear hK2 K2)); refine sxz (hK' _ ?_); clear hK' K'; (try simp only [thn, inb]); refine Again.mk (k + 1) (by omega) (by omega) ?_; refine Imp.to' (fun _ _ => trivial) (by simp [lRow, hLS3, hno]) (by simp [lRow, hLS3, hno])
      ·obtain rfl : k = rts.length := by omega
       rw [hLk] at hnd; refine AW_exit (hK8 _ ?_)
       have htk : L.length = (L.map fun e => [dE e]).length := by simp
       refine AW.imp (Imp.freeze 89 trivial) ?_; refine AW.st (by simp [List.take_of_length_le]; rfl) ?_; refine AW_rle (tyOf_good _) (by kernel_rfl) ([(8, (502, 126))]) ([(3, [502]), (5, [502])]) (List.range 11) (by kernel_rfl) fun K' hK' => ?_; (repeat (refine sxl_nextO rfl fun K2 hK2 => ?_; simp [lxb108, hRl2, List.take_of_length_le]; (repeat (refine ⟨by omega, ?_⟩)); refine hK2 _ ?_; clear hK2 K2)); refine sxl_nextO rfl fun K2 hK2 => ?_; simp [lxb108, hRl2, List.take_of_length_le]; refine callD.mk (hn2) (by simp; rfl) (by simp; rfl) (by first | exact D.leGo_refl _ | simp [takeMap, List.map_map, Function.comp_def, D.le, D.le.go, D.le_refl, D.leGo_refl, lxb108, hRl2, List.take_of_length_le]) (by simp) ?_; refine hK2 _ ?_; clear hK2 K2; simp only [putd, upd_lst]; (repeat (refine sxl_nextO rfl fun K2 hK2 => ?_; simp [lxb108, hRl2, List.take_of_length_le]; (repeat (refine ⟨by omega, ?_⟩)); refine hK2 _ ?_; clear hK2 K2)); refine sxl_nextO rfl fun K2 hK2 => ?_; simp [lxb108, hRl2, List.take_of_length_le]; refine callD.mk (hnd) (by simp; rfl) (by simp; rfl) (by first | exact D.leGo_refl _ | simp [takeMap, List.map_map, Function.comp_def, D.le, D.le.go, D.le_refl, D.leGo_refl, lxb108, hRl2, List.take_of_length_le]) (by simp) ?_; refine hK2 _ ?_; clear hK2 K2; simp only [putd, upd_lst]; (repeat (refine sxl_nextO rfl fun K2 hK2 => ?_; simp [lxb108, hRl2, List.take_of_length_le]; (repeat (refine ⟨by omega, ?_⟩)); refine hK2 _ ?_; clear hK2 K2)); refine sxl_nilO (hK' _ ?_); clear hK' K'; refine hK7 _ (AW.norm [1, 2, 5, 7, 79, 80, 81] [2, 500, 501, 502] (fun _ _ => trivial) (AW.st (by simp [lxb108, hRl2, List.take_of_length_le]; rfl) ?_)); refine AW_re (tyOf_good _) fun K' hK' => ?_; (repeat (refine sxn fun K2 hK2 => ?_; simp; (repeat (refine ⟨by omega, ?_⟩)); refine hK2 _ ?_; clear hK2 K2)); refine sxz (hK' _ ?_); clear hK' K'; (try simp only [thn, inb]); refine Again.mk (i + 1) (by omega) (by omega) ?_; refine Imp.to' (fun _ _ => trivial) (by simp [lRow, hRs2, hcg, hRl2]) (by simp [lRow, hRs2, hcg, hRl2])
    ·obtain rfl : i = rts.length := by omega
     clear hRs; refine AW_exit (hK5 _ ?_); refine AW_then fun K11 hK11 => ?_; refine rgq @lRow.eq_1 [1,2,5,131,132] [2,500,501,502] ?_
     obtain ⟨ovs, hov⟩ : ∃ l : List Bool, l = [true, false] := ⟨_, rfl⟩
     have hovl : ovs.length = 2 := by rw [hov]; rfl
     have hovm : ovs.map (fun b => [D.v (.bool b)]) = [[.v (.bool true)], [.v (.bool false)]] := by rw [hov]; rfl
     have hPS : ∀ k, RG1 ++ (ptR rts (k + 1)).map cRg = (RG1 ++ (ptR rts k).map cRg) ++ (ptJ rts k ovs 2).map cRg := fun k => by rw [ptR, List.map_append, hov, List.append_assoc]
     have hPL : ∀ k ≤ P, (RG1 ++ (ptR rts k).map cRg).length ≤ 20 := fun k hk => by rw [List.length_append, List.length_map, hRl2]; have := ptR_len rts k; omega
     clear hov; refine AW_for (S := Nat) (fun k => k ≤ P) (fun k => ⟨lst [(1, .d (.ip [.v (.int .i64 S), .v (.int .i64 P), .sl none (rts.map cRt)])), (2, .ref 2 0 0), (5, .ref 500 0 0), (131, int P), (132, int k)], hlst (lRow NC (RG1 ++ (ptR rts k).map cRg))⟩) (fun k => P - k) 0 ?_ (by simp) ?_
     ·refine Imp.to' (fun _ _ => trivial) (by simp [lRow, ptR]) (by simp [lRow, ptR])
     ·intro k hk
      have hPS2 := hPS k
      have hPL2 := hPL k hk
      generalize hRG2 : RG1 ++ (ptR rts k).map cRg = RG2 at hPS2 hPL2 ⊢; refine rgq @lRow.eq_1 [1,2,5,131,132,133] [2,500,501,502] ?_; refine AW_then fun K12 hK12 => ?_; refine AW_cond' (b := k < P) (by simp [D.le, D.le.go, takeMap]) (fun hc => ?_) (fun hc => ?_)
      ·have hkp := hc
       refine AW_skip (hK12 _ ?_); refine AW_then fun K13 hK13 => ?_; refine AW_block ?_; refine rg0 [1,2,5,16,131,132] [2,500,501,502] ?_; refine rg0 [1,2,5,16,131,132,135,136,137] [2,500,501,502,135] ?_; refine AW.imp (Imp.freeze 135 trivial) ?_; refine AW.st (by simp; rfl) ?_; refine AW_for (S := Nat) (fun j => j ≤ 2) (fun j => ⟨lst [(1, .d (.ip [.v (.int .i64 S), .v (.int .i64 P), .sl none (rts.map cRt)])), (2, .ref 2 0 0), (5, .ref 500 0 0), (16, int k), (131, int P), (132, int k), (135, .d (.sl none (ovs.map fun b => [.v (.bool b)]))), (136, int 2), (137, int j)], hlst (lRow NC (RG2 ++ (ptJ rts k ovs j).map cRg))⟩) (fun j => 2 - j) 0 ?_ (by simp) ?_
       ·refine Imp.to' (fun _ _ => trivial) (by simp [lRow, hovm, ptJ]) (by simp [lRow, hovm, ptJ])
       ·intro j hj
        have hJS : j < 2 → ∀ ov, ovs.getD j false = ov → RG2 ++ (ptJ rts k ovs (j + 1)).map cRg = (RG2 ++ (ptJ rts k ovs j).map cRg) ++ (ptG rts k ov).map cRg := fun _ ov ho => by rw [ptJ, List.map_append, ho, List.append_assoc]
        have hJL : (RG2 ++ (ptJ rts k ovs j).map cRg).length ≤ 30 := by rw [List.length_append, List.length_map]; have := ptJ_len rts k ovs j; omega
        have hj0 : RG2 ++ (ptJ rts k ovs 2).map cRg = RG2 ++ (ptJ rts k ovs j).map cRg ∨ j < 2 := by
         by_cases h : j < 2
         ·exact .inr h
         ·obtain rfl : j = 2 := by omega
          exact .inl rfl
        generalize hRG3 : RG2 ++ (ptJ rts k ovs j).map cRg = RG3 at hJS hJL hj0 ⊢; refine rgq @lRow.eq_1 [1,2,5,16,131,132,135,136,137,138] [2,500,501,502] ?_; refine AW_then fun K14 hK14 => ?_; refine AW_cond' (b := (j : Int) < 2) (by simp [D.le, D.le.go, takeMap]) (fun hc => ?_) (fun hc => ?_)
        ·have hjt : j < 2 := by omega
         have hjl : j < ovs.length := by omega
         have hgd : ovs.getD j false = ovs[j] := by rw [List.getD_eq_getElem?_getD, List.getElem?_eq_getElem hjl]; rfl
         have hJS2 := hJS hjt _ hgd
         generalize hov : ovs[j] = ov at hJS2
         have hES : ∀ n (hn : n < rts.length), ptE rts k ov (n + 1) = ptE rts k ov n ++ if rts[n].2.contains ((k : Int), ov) then [.bit (nmT 108 n)] else [] := fun n hn => by
          rw [ptE, List.getD_eq_getElem?_getD, List.getElem?_eq_getElem hn]; rfl
         have hEN := ptE_len rts k ov
         have hE0 : ptE rts k ov 0 = [] := rfl
         have hG1 := fun h => ptG_some (rts := rts) (k := k) (o := ov) h
         have hG0 := fun h => ptG_none (rts := rts) (k := k) (o := ov) h
         have hnd := ror_spec G none (ptE rts k ov rts.length)
         have hn2 := rname_spec G 112 k (by omega)
         rw [Int.toNat_natCast] at hn2; generalize ptG rts k ov = pg at hJS2 hG1 hG0; generalize ptE rts k ov = EE at hES hEN hE0 hG1 hG0 hnd
         obtain ⟨ta, ca, hta⟩ := dE_ifc (orE (EE rts.length))
         rw [hta] at hnd; refine AW_skip (hK14 _ ?_); refine AW_then fun K15 hK15 => ?_; refine AW_block ?_
         have qf := (Aq @hjl @hov)
         refine rgqv [1,2,5,16,18,131,132,135,136,137] [2,500,501,502] ?_; refine rg0 [1,2,5,16,18,19,131,132,135,136,137] [2,500,501,502] ?_; refine AW_then fun K16 hK16 => ?_; refine rg0 [1,2,5,16,18,19,131,132,135,136,137,142,143,144] [2,500,501,502] ?_; refine AW_for (S := Nat) (fun n => n ≤ rts.length) (fun n => ⟨lst [(1, .d (.ip [.v (.int .i64 S), .v (.int .i64 P), .sl none (rts.map cRt)])), (2, .ref 2 0 0), (5, .ref 500 0 0), (16, int k), (18, .d (.v (.bool ov))), (19, .own 300 0 (EE n).length), (131, int P), (132, int k), (135, .d (.sl none (ovs.map fun b => [.v (.bool b)]))), (136, int 2), (137, int j), (142, .d (.sl none (rts.map cRt))), (143, int rts.length), (144, int n)], hlst (lRow NC RG3 ++ [(300, .sl 48 1 ((EE n).map fun e => [dE e]))])⟩) (fun n => rts.length - n) 0 ?_ (by simp) ?_
         ·refine (Imp.adopt 19 300 48 1 rfl rfl).trans ?_; refine Imp.to' (fun _ _ => trivial) (by simp [lRow, hE0]) (by simp [lRow, hE0])
         ·intro n hn
          have hES2 := hES n
          have hEN2 := hEN n
          have hEb : n = rts.length → EE rts.length = EE n := fun h => by rw [h]
          generalize hEk : EE n = E at hES2 hEN2 hEb ⊢; refine rgq @lRow.eq_1 [1,2,5,16,18,19,131,132,135,136,137,142,143,144,145] [2,500,501,502,300] ?_; refine AW_then fun K17 hK17 => ?_; refine AW_cond' (b := n < rts.length) (by simp [D.le, D.le.go, takeMap]) (fun hc => ?_) (fun hc => ?_)
          ·have hnt := hc
           have hES3 := hES2 hnt
           have hn3 := rname_spec G 108 n (by omega)
           rw [Int.toNat_natCast] at hn3
           have hno := dE_bitN 108 n
           have hcp2 := containsPtEq_spec G rts[n].2 ((k : Int), ov) (by have := hpl _ (List.getElem_mem hnt); omega)
           simp only [dPt, cPt] at hcp2
           have hck0 : cRt rts[n] = [dRow rts[n].1, .sl none (rts[n].2.map cPt)] := rfl
           have q1 : (dRow rts[n].1).one = true := rfl
           generalize hrk : rts[n] = rk at hck0 hcp2 hES3 q1; generalize dRow rk.1 = e1 at hck0 q1; generalize rk.2.contains ((k : Int), ov) = cf at hcp2 hES3; generalize rk.2.map cPt = e2 at hck0 hcp2; refine AW_skip (hK17 _ ?_); refine AW_then fun K18 hK18 => ?_; refine AW_block ?_
           have qf := (Aq @hnt (Aq @hrk (Aq @hck0 @q1)))
           refine rgqv [1,2,5,16,18,19,20,21,131,132,135,136,137,142,143,144] [2,500,501,502,300,21] ?_; refine AW.imp (Imp.freezeB 21 trivial) ?_; refine AW.st (by simp; rfl) ?_; refine rgc trivial hcp2 [1,2,5,16,18,19,20,131,132,135,136,137,142,143,144,154] [2,500,501,502,300] ?_
           cases cf with
           | false =>
            rw [if_neg (by simp), List.append_nil] at hES3; refine AW_ff rfl ?_; refine AW_skip ?_; refine hK18 _ (AW.norm [1, 2, 5, 16, 18, 19, 131, 132, 135, 136, 137, 142, 143, 144] [2, 500, 501, 502, 300] (fun _ _ => trivial) (AW.st (by simp; rfl) ?_)); refine AW_re (tyOf_good _) fun K' hK' => ?_; (repeat (refine sxn fun K2 hK2 => ?_; simp; (repeat (refine ⟨by omega, ?_⟩)); refine hK2 _ ?_; clear hK2 K2)); refine sxz (hK' _ ?_); clear hK' K'; (try simp only [thn, inb]); refine Again.mk (n + 1) (by omega) (by omega) ?_; refine Imp.to' (fun _ _ => trivial) (by simp [lRow, hES3]) (by simp [lRow, hES3])
           | true =>
            rw [if_pos rfl] at hES3; refine AW_tt rfl ?_; refine AW_re (tyOf_good _) fun K' hK' => ?_; (repeat (refine sxn fun K2 hK2 => ?_; simp [lxb108, List.take_of_length_le]; (repeat (refine ⟨by omega, ?_⟩)); refine hK2 _ ?_; clear hK2 K2)); refine sxn fun K2 hK2 => ?_; simp [lxb108, List.take_of_length_le]; refine callK.data (hn3) (by simp; rfl) (by first | exact D.leGo_refl _ | simp [takeMap, List.map_map, Function.comp_def, D.le, D.le.go, D.le_refl, D.leGo_refl, lxb108, List.take_of_length_le]) ?_; refine hK2 _ ?_; clear hK2 K2; simp only [putd, upd_lst]; (repeat (refine sxn fun K2 hK2 => ?_; simp [lxb108, List.take_of_length_le]; (repeat (refine ⟨by omega, ?_⟩)); refine hK2 _ ?_; clear hK2 K2)); refine sxz (hK' _ ?_); clear hK' K'; refine hK18 _ (AW.norm [1, 2, 5, 16, 18, 19, 131, 132, 135, 136, 137, 142, 143, 144] [2, 500, 501, 502, 300] (fun _ _ => trivial) (AW.st (by simp [lxb108, List.take_of_length_le]; rfl) ?_)); refine AW_re (tyOf_good _) fun K' hK' => ?_; (repeat (refine sxn fun K2 hK2 => ?_; simp; (repeat (refine ⟨by omega, ?_⟩)); refine hK2 _ ?_; clear hK2 K2)); refine sxz (hK' _ ?_); clear hK' K'; (try simp only [thn, inb]); refine Again.mk (n + 1) (by omega) (by omega) ?_; refine Imp.to' (fun _ _ => trivial) (by simp [lRow, hES3, hno]) (by simp [lRow, hES3, hno])
          ·obtain rfl : n = rts.length := by omega
           rw [hEk] at hnd hG1 hG0 hta; refine AW_exit (hK16 _ ?_); refine AW.imp (Imp.freeze 300 trivial) ?_; refine AW.st (by simp [List.take_of_length_le]; rfl) ?_; refine rg0 [1,2,5,16,18,19,22,131,132,135,136,137] [2,500,501,502] ?_; refine AW_then fun K19 hK19 => ?_; refine' lateG (fun hrest => ?_) ?_
           rotate_left
           ·by_cases ho : ov = true
            ·have qf := @ho
             refine rgqv [1,2,5,16,19,22,131,132,135,136,137,163] [2,500,501,502] ?_; refine AW_ff rfl ?_; refine AW_skip ?_; refine hK19 _ (AW.norm [1, 2, 5, 16, 19, 22, 131, 132, 135, 136, 137] [2, 500, 501, 502] (fun _ _ => trivial) (AW.st (by simp; rfl) ?_)); refine AW.st (show _ = (⟨lst [(1, .d (.ip [.v (.int .i64 S), .v (.int .i64 P), .sl none (rts.map cRt)])), (2, .ref 2 0 0), (5, .ref 500 0 0), (16, int k), (19, .d (.sl none (E.map fun e => [dE e]))), (22, int (if ov = true then 2 else 3)), (131, int P), (132, int k), (135, .d (.sl none (ovs.map fun b => [.v (.bool b)]))), (136, int 2), (137, int j)], hlst [(2, .box 29 [.d (.sl (some false) []), .d (.sl (some false) [])]), (500, .box 29 [.own 501 0 NC.length, .own 502 0 RG3.length]), (501, .sl 73 3 NC), (502, .sl 114 3 RG3)]⟩ : St) by rw [ho] <;> rfl) ?_; exact hrest.out
            ·have ho2 : ov = false := by simpa using ho
             have qf := @ho2
             refine rgqv [1,2,5,16,19,22,131,132,135,136,137,163] [2,500,501,502] ?_; refine AW_tt rfl ?_; refine reK trivial hK19 [1,2,5,16,19,22,131,132,135,136,137] [2,500,501,502] ?_; refine AW.st (show _ = (⟨lst [(1, .d (.ip [.v (.int .i64 S), .v (.int .i64 P), .sl none (rts.map cRt)])), (2, .ref 2 0 0), (5, .ref 500 0 0), (16, int k), (19, .d (.sl none (E.map fun e => [dE e]))), (22, int (if ov = true then 2 else 3)), (131, int P), (132, int k), (135, .d (.sl none (ovs.map fun b => [.v (.bool b)]))), (136, int 2), (137, int j)], hlst [(2, .box 29 [.d (.sl (some false) []), .d (.sl (some false) [])]), (500, .box 29 [.own 501 0 NC.length, .own 502 0 RG3.length]), (501, .sl 73 3 NC), (502, .sl 114 3 RG3)]⟩ : St) by rw [ho2] <;> rfl) ?_; exact hrest.out
           ·by_cases hE : E = []
            ·have hp := hG0 hE
             rw [hp, List.map_nil, List.append_nil] at hJS2
             have hE2 : E.length = 0 := by rw [hE]; rfl
             have qf := @hE2
             refine rgqv [1,2,5,16,19,22,131,132,135,136,137,166] [2,500,501,502] ?_; refine AW_ff rfl ?_; refine AW_skip ?_; refine hK15 _ (AW.norm [1, 2, 5, 16, 131, 132, 135, 136, 137] [2, 500, 501, 502] (fun _ _ => trivial) (AW.st (by simp; rfl) ?_)); refine AW_re (tyOf_good _) fun K' hK' => ?_; (repeat (refine sxn fun K2 hK2 => ?_; simp; (repeat (refine ⟨by omega, ?_⟩)); refine hK2 _ ?_; clear hK2 K2)); refine sxz (hK' _ ?_); clear hK' K'; (try simp only [thn, inb]); refine Again.mk (j + 1) (by omega) (by omega) ?_; refine Imp.to' (fun _ _ => trivial) (by simp [lRow, hJS2]) (by simp [lRow, hJS2])
            ·have hp := hG1 hE
             rw [hp, List.map_cons, List.map_nil, cRg_eq, hta] at hJS2
             have hE2 : E.length ≠ 0 := fun h => hE (List.length_eq_zero_iff.1 h)
             have hE3 : 0 < E.length := by omega
             generalize (if ov = true then (2 : Int) else 3) = kd at hJS2 ⊢; refine rg0 [1,2,5,16,19,22,131,132,135,136,137,166] [2,500,501,502] ?_; refine AW_cond true (by simp [hE3]) (fun _ => ?_) (fun h => by cases h); refine AW_rle (tyOf_good _) (by kernel_rfl) ([(9, (502, 175))]) ([(4, [502]), (6, [502])]) (List.range 12) (by kernel_rfl) fun K' hK' => ?_; (repeat (refine sxl_nextO rfl fun K2 hK2 => ?_; simp [lxb112, List.take_of_length_le]; (repeat (refine ⟨by omega, ?_⟩)); refine hK2 _ ?_; clear hK2 K2)); refine sxl_nextO rfl fun K2 hK2 => ?_; simp [lxb112, List.take_of_length_le]; refine callD.mk (hn2) (by simp; rfl) (by simp; rfl) (by first | exact D.leGo_refl _ | simp [takeMap, List.map_map, Function.comp_def, D.le, D.le.go, D.le_refl, D.leGo_refl, lxb112, List.take_of_length_le]) (by simp) ?_; refine hK2 _ ?_; clear hK2 K2; simp only [putd, upd_lst]; (repeat (refine sxl_nextO rfl fun K2 hK2 => ?_; simp [lxb112, List.take_of_length_le]; (repeat (refine ⟨by omega, ?_⟩)); refine hK2 _ ?_; clear hK2 K2)); refine sxl_nextO rfl fun K2 hK2 => ?_; simp [lxb112, List.take_of_length_le]; refine callD.mk (hnd) (by simp; rfl) (by simp; rfl) (by first | exact D.leGo_refl _ | simp [takeMap, List.map_map, Function.comp_def, D.le, D.le.go, D.le_refl, D.leGo_refl, lxb112, List.take_of_length_le]) (by simp) ?_; refine hK2 _ ?_; clear hK2 K2; simp only [putd, upd_lst]; (repeat (refine sxl_nextO rfl fun K2 hK2 => ?_; simp [lxb112, List.take_of_length_le]; (repeat (refine ⟨by omega, ?_⟩)); refine hK2 _ ?_; clear hK2 K2)); refine sxl_nilO (hK' _ ?_); clear hK' K'; refine hK15 _ (AW.norm [1, 2, 5, 16, 131, 132, 135, 136, 137] [2, 500, 501, 502] (fun _ _ => trivial) (AW.st (by simp [lxb112, List.take_of_length_le]; rfl) ?_)); refine AW_re (tyOf_good _) fun K' hK' => ?_; (repeat (refine sxn fun K2 hK2 => ?_; simp; (repeat (refine ⟨by omega, ?_⟩)); refine hK2 _ ?_; clear hK2 K2)); refine sxz (hK' _ ?_); clear hK' K'; (try simp only [thn, inb]); refine Again.mk (j + 1) (by omega) (by omega) ?_; refine Imp.to' (fun _ _ => trivial) (by simp [lRow, hJS2]) (by simp [lRow, hJS2])
        ·obtain rfl : j = 2 := by omega
         rw [hRG3] at hPS2; refine AW_exit (hK13 _ ?_); refine AW_re (tyOf_good _) fun K' hK' => ?_; (repeat (refine sxn fun K2 hK2 => ?_; simp; (repeat (refine ⟨by omega, ?_⟩)); refine hK2 _ ?_; clear hK2 K2)); refine sxz (hK' _ ?_); clear hK' K'; (try simp only [thn, inb]); refine Again.mk (k + 1) (by omega) (by omega) ?_; refine Imp.to' (fun _ _ => trivial) (by simp [lRow, hPS2]) (by simp [lRow, hPS2])
      ·obtain rfl : k = P := by omega
       refine AW_exit (hK11 _ ?_)
       have hRT : (rungsT rts k).map cRg = RG2 := by rw [← hRG2, ← hRG1, ← hRG0]; simp only [rungsT, List.map_append]
       rw [hRT] at hlc ⊢; refine AW_then fun K20 hK20 => ?_; refine AW.imp (Imp.freeze 501 trivial) ?_; refine AW.st (by simp [List.take_of_length_le]; rfl) ?_; refine AW.imp (Imp.freeze 502 trivial) ?_; refine AW.st (by simp [List.take_of_length_le]; rfl) ?_; refine rgc trivial hlc [2,5,23] [2,500] ?_; refine rg0 [2,5,23,183] [2,500] ?_; refine AW_ff rfl ?_; refine AW_skip (hK20 _ ?_); refine rg0 [2,3] [2,500] ?_; refine AW_ret ?_; simp [D.le, D.le.go, takeMap]
end Go.Proofs.YthnjfeielmbfkaaGreatDoor
namespace Go.Proofs.YthnjfeielmbfkaaGreatDoor
open Go.Av
theorem rl_weak {Mv X : Nat → Prop} {G : Glob} {N : Fr} (i : Nat) {x : D} (y : D) {e : Env} {H : Heap} (he : e i = some (.d x)) (hle : x.le y) : Imp Mv X G N ⟨e, H⟩ ⟨upd e i (.d y), H⟩ := fun w μ a hi => by
 refine ⟨μ, ⟨hi.sim, ⟨hi.env.defers, hi.env.size, fun j z hz => ?_⟩, hi.glob⟩, .refl _ w μ⟩; simp only [upd] at hz
 split at hz
 ·rename_i hj
  subst hj
  obtain rfl := Option.some.inj hz
  obtain ⟨u, hu, hrv⟩ := hi.env.slot j _ he
  exact ⟨u, hu, .d (hrv.data.le hle)⟩
 ·exact hi.env.slot j z hz
def rtC : List Rt := [([0], []), ([0], [])]
theorem rtC_good : GoodT 1 0 rtC := by
 constructor <;> simp [rtC]
theorem rtC_check : checkT ⟨1, 0, rtC⟩ = none := by decide +kernel
theorem rtC_names : (ladderT 1 0 rtC).names.length = 5 := by decide +kernel
theorem rtC_rungs : (ladderT 1 0 rtC).rungs.length = 4 := by decide +kernel
set_option maxHeartbeats 4000000 in
theorem routed_spec (G : Glob) : PureC Tryz.prog G 10 [] (.v (.bool true)) := by
 have hl := rladder_good G 1 0 rtC rtC_good rtC_check (ladder_small rtC_good) (ladder_check rtC_good)
 have hc := clash_spec G ([0], []) ([0], []) (by simp [SmallR]) (by simp [SmallR])
 have hcf : clashF ([0], []) ([0], []) = true := by decide
 rw [hcf] at hc
 have h5 := rtC_names
 have h4 := rtC_rungs
 simp only [dPg, cPg, dNms, dRgs] at hl; rw [← List.length_map (f := cNm)] at h5; rw [← List.length_map (f := cRg)] at h4; generalize (ladderT 1 0 rtC).names.map cNm = N at hl h5; generalize (ladderT 1 0 rtC).rungs.map cRg = R at hl h4; simp only [dTb, cTb, dRts, rtC, List.map_cons, List.map_nil, cRt, dRow, dInts, dPts] at hl; simp only [dRt, cRt, dRow, dInts, dPts, List.map_cons, List.map_nil] at hc; rw [show ((1 : Nat) : Int) = 1 from rfl, show ((0 : Nat) : Int) = 0 from rfl] at hl; refine PureC.of_body (tyOf_good _) Tryz.func10 rfl rfl (rs := [.tmp 0]) Tryz.results10 (by simp [Tryz.ntmps10]) fun X => ?_; simp only [Tryz.ntmps10, List.map]; refine rg0 [] [] ?_; refine rg0 [1] [5,1] ?_; refine AW.imp (Imp.freeze 5 trivial) ?_; refine AW.st (by simp; rfl) ?_; refine AW.imp (Imp.freezeB 1 trivial) ?_; refine AW.st (by simp; rfl) ?_; refine AW.imp (rl_weak 1 (.ip [.sl none [[.v (.int .i64 0)]], .sl none []]) rfl (by simp [D.le, D.le.go])) ?_; refine AW.st (by simp [upd_lst]; rfl) ?_; refine rg0 [1,2] [9,2] ?_; refine AW.imp (Imp.freeze 9 trivial) ?_; refine AW.st (by simp; rfl) ?_; refine AW.imp (Imp.freezeB 2 trivial) ?_; refine AW.st (by simp; rfl) ?_; refine rgc trivial hl [1,3,4] [3] ?_; refine AW.imp (Imp.freezeB 3 trivial) ?_; refine AW.st (by simp; rfl) ?_
 have qf := (Aq @h4 @h5)
 refine rgcv hc [0] [] ?_; refine AW_ret ?_; simp [D.le, D.le.go, takeMap]
end Go.Proofs.YthnjfeielmbfkaaGreatDoor
