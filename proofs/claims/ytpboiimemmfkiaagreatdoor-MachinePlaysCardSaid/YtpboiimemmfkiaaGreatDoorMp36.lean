/-
  Texts that belong together, in one file: MA2, MA3, MA4, P7, R1.
-/
import Derived.Test.YtpboiimemmfkiaaGreatDoorMp35
set_option linter.unusedSimpArgs false
set_option linter.unusedVariables false
namespace Go.Proofs.YtpboiimemmfkiaaGreatDoor
open Go.Av
theorem wrap_shl6 {V : Nat} (h : V ≤ 6) : IntKind.i64.wrap (2 ^ (min V IntKind.i64.bits)) = ((2^V : Nat) : Int) := by
 have : V = 0 ∨ V = 1 ∨ V = 2 ∨ V = 3 ∨ V = 4 ∨ V = 5 ∨ V = 6 := by omega
 rcases this with rfl | rfl | rfl | rfl | rfl | rfl | rfl <;> decide
def setsB (n : Nat) (E : List Int) : Nat → List Bool
 | 0 => List.replicate n false
 | j + 1 => (setsB n E j).set (E.getD j 0).toNat true
theorem setsB_len (n : Nat) (E : List Int) : ∀ j, (setsB n E j).length = n
 | 0 => by simp [setsB]
 | j + 1 => by rw [setsB, List.length_set, setsB_len]
theorem setsB_at {n : Nat} {E : List Int} {i : Nat} (hi : i < n) : ∀ j, j ≤ E.length → ((setsB n E j).getD i false = true ↔ ∃ q, q < j ∧ (E.getD q 0).toNat = i)
 | 0, _ => by
  rw [setsB, getD_rep]; exact ⟨fun h => (by cases h), fun ⟨q, hq, _⟩ => absurd hq (by omega)⟩
 | j + 1, hj => by
  rw [setsB]
  by_cases e : (E.getD j 0).toNat = i
  ·rw [← e, getD_set_same (by rw [setsB_len]; omega)]; exact ⟨fun _ => ⟨j, by omega, rfl⟩, fun _ => rfl⟩
  ·rw [getD_set_other e, setsB_at hi j (by omega)]
   constructor
   ·rintro ⟨q, hq, h⟩; exact ⟨q, by omega, h⟩
   ·rintro ⟨q, hq, h⟩
    refine ⟨q, Classical.byContradiction fun hn => ?_, h⟩
    obtain rfl : q = j := by omega
    exact e h
theorem sets_edges (p : PgP) : setsB p.names.length (wedN p p.names.length) (wedN p p.names.length).length = p.names.map (edB p) := by
 refine ext_getD (d := false) (by rw [setsB_len]; simp) fun i hi => ?_; rw [setsB_len] at hi
 have e1 : (p.names.map (edB p)).getD i false = edB p p.names[i] := by rw [getD_of (by simpa using hi)]; simp
 rw [e1]
 have h := setsB_at (E := wedN p p.names.length) hi _ (Nat.le_refl _)
 have h2 : (∃ q, q < (wedN p p.names.length).length ∧ ((wedN p p.names.length).getD q 0).toNat = i) ↔ edB p p.names[i] = true := by
  constructor
  ·rintro ⟨q, hq, he⟩
   rw [getD_of hq] at he
   obtain ⟨k, hk, _, hx, ha⟩ := (wedN_mem (Nat.le_refl _)).1 (List.getElem_mem hq)
   rw [hx, Int.toNat_natCast] at he; subst he; exact ha
  ·intro ha
   obtain ⟨q, hq, he⟩ := List.mem_iff_getElem.1 ((wedN_mem (x := (i : Int)) (Nat.le_refl _)).2 ⟨i, hi, hi, rfl, ha⟩)
   exact ⟨q, hq, by rw [getD_of hq, he]; simp⟩
 rw [h2] at h
 cases h3 : edB p p.names[i] with
 | true => exact h.2 h3
 | false =>
  cases h4 : (setsB p.names.length (wedN p p.names.length) (wedN p p.names.length).length).getD i false with
  | true => rw [h.1 h4] at h3; cases h3
  | false => rfl
theorem wed_at {p : PgP} {q : Nat} (hq : q < (wedN p p.names.length).length) : ∃ i, i < p.names.length ∧ (wedN p p.names.length)[q] = (i : Int) := by
 obtain ⟨k, hk, _, hx, _⟩ := (wedN_mem (Nat.le_refl _)).1 (List.getElem_mem hq)
 exact ⟨k, hk, hx⟩
theorem nextP_take {p : PgP} {s : Nat} (h : s < (nextP p).length) : nxD ((nextP p).take (s + 1)) = nxD ((nextP p).take s) ++ [[dIl (rowP p (inputP p).length s)]] := by
 rw [List.take_succ_eq_append_getElem h, nxD, nxD, List.map_append, nextP_at h]
 rfl
theorem rowP_take {p : PgP} {m s i : Nat} (h : i < 2 ^ m) : (rowP p m s).take (i + 1) = (rowP p m s).take i ++ [nrP (partsP p) (doP p (stP p s) (inBs i m))] := by
 have h' : i < (rowP p m s).length := by rw [rowP_len]; exact h
 rw [List.take_succ_eq_append_getElem h', rowP_at]
set_option maxRecDepth 100000 in
set_option maxHeartbeats 32000000 in
theorem mof_good (G : Glob) (p : PgP) (hck : checkP p = none) (hk : ∀ r ∈ p.rungs, CondOk r) (hin : (inputP p).length ≤ 6) (hP : prodP (partsP p) ≤ 4096) : PureC Tryz.prog G 37 [dPg p] (.tup [dMa p (prodP (partsP p)) ((2 ^ (inputP p).length : Nat) : Int) (nxD (nextP p)), .v .nilIface]) := by
 have hg := checkP_good hck
 have hnm := hg.names
 have hcs := ladderCheck_spec G p (small_of hck hk)
 rw [hck] at hcs
 have hkd := lkind_spec G p (by omega) 1
 have hkI : kindN p.names 1 p.names.length = inputP p := rfl
 rw [hkI] at hkd
 have hed := ledges_spec G p (by omega) (by have := hg.rungs; omega) (fun r hr => by
  obtain ⟨e, he, _, _, hb⟩ := hk r hr
  exact ⟨e, he, by omega⟩)
 rw [edges_same hck] at hed
 have hsL := setsB_len p.names.length (wedN p p.names.length)
 have hsE := sets_edges p
 have hwA := fun q (hq : q < (wedN p p.names.length).length) => wed_at hq
 have hwS := fun q (hq : q < (wedN p p.names.length).length) => (show setsB p.names.length (wedN p p.names.length) (q + 1) = (setsB p.names.length (wedN p p.names.length) q).set ((wedN p p.names.length)[q]).toNat true by rw [setsB, getD_of hq])
 have hs0 : setsB p.names.length (wedN p p.names.length) 0 = List.replicate p.names.length false := rfl
 have hwl := wedN_len p p.names.length
 have hstm := fun (nx : List (List D)) (n : Nat) (h1 : (n : Int) < 4096) => mstate_mc G p hck (prodP (partsP p)) ((2 ^ (inputP p).length : Nat) : Int) nx n (by omega) (by omega)
 have hinm := fun (nx : List (List D)) (n : Nat) => minput_mc G p hck (prodP (partsP p)) ((2 ^ (inputP p).length : Nat) : Int) nx n
 have hnum := fun (nx : List (List D)) (s : StP) (hs : InvS p s) => mnumber_mc G p hck (prodP (partsP p)) ((2 ^ (inputP p).length : Nat) : Int) nx s hs hP
 have hdo := fun (s : Nat) (i : Nat) => do_spec G p hck hk (stP p s) (stP_inv hck s) (inBs i (inputP p).length) (inBs_len _ _)
 have hdi := fun (s : Nat) (i : Nat) => (do_inv hck (stP_inv hck s) (inBs i (inputP p).length)).1
 have hPs : ∀ k (h : k < p.names.length), partsN p (k + 1) = partsN p k ++ partOf p.names[k] (edB p p.names[k]) k := fun k h => partsN_succ h
 have hPl := partsN_len p
 have hPe : partsN p p.names.length = partsP p := rfl
 have hm2 : ∀ x ∈ partsP p, 2 ≤ x.most := fun x hx => (parts_good hg hx).m2
 have hpt := fun k (h : k < (partsP p).length) => prodP_take h
 have hpm := fun k => prodP_mono hm2 k
 have hpp : 0 < prodP (partsP p) := prodP_pos hm2
 have hp1 := fun k => (prodP_pos (l := (partsP p).take k) fun x hx => hm2 x (List.mem_of_mem_take hx))
 have hnt := fun s (h : s < (nextP p).length) => nextP_take h
 have hnl := nextP_len p
 have hrt := fun s i (h : i < 2 ^ (inputP p).length) => rowP_take (p := p) (s := s) h
 have hrl := fun s => rowP_len p (inputP p).length s
 have hsh := wrap_shl6 hin
 have h26 : 2 ^ (inputP p).length ≤ 64 := by
  have := Nat.pow_le_pow_right (n := 2) (by omega) hin
  omega
 have hcnt := hg.count
 simp only [maR, dNum, dSt, cSt, dBl, dIl, dPas] at hstm hinm hnum hdo; simp only [dPg, cPg, dNms, dRgs, dErr, dMa, cMa, dPas, dIl] at hkd hcs hed hdo hstm hinm hnum hnt ⊢; generalize nextP p = NXT at *; generalize hROW : rowP p (inputP p).length = ROW at *; clear hROW; generalize wedN p p.names.length = E at *; generalize setsB p.names.length E = SB at *
 have hIl : ((inputP p).map fun x => [D.v (.int .i64 x)]).length = (inputP p).length := by simp
 generalize ((inputP p).map fun x => [D.v (.int .i64 x)]) = IN at *; generalize (inputP p).length = m at *
 have hNl : (p.names.map cNm).length = p.names.length := by simp
 have hNg : ∀ i (h : i < p.names.length), (p.names.map cNm)[i]? = some [.v (.string (bs p.names[i].name)), .v (.int .i64 p.names[i].kind), .v (.int .i64 p.names[i].count)] := fun i h => by simp [h, cNm, dS]
 generalize p.names.map cNm = NN at *; generalize p.rungs.map cRg = RR at *
 have hEl : (E.map fun x => [D.v (.int .i64 x)]).length = E.length := by simp
 refine PureC.of_body (tyOf_good _) Tryz.func37 rfl rfl (rs := [.tmp 2, .tmp 3]) Tryz.results37 (by simp [Tryz.ntmps37]) fun X => ?_; simp only [Tryz.ntmps37, List.map]
 have fw := @dNum.eq_1
 refine rgq fw [1] [1] ?_; refine AW.imp (Imp.freezeB 1 trivial) ?_; refine AW.st (by simp [dNum]; rfl) ?_; refine AW_then fun K1 hK1 => ?_; refine rgc fw hcs [1,4] [] ?_; refine rgq fw [1,4,19] [] ?_; refine AW_ff rfl ?_; refine AW_skip (hK1 _ ?_); refine rdc fw hkd [1,5] [25] ?_; refine AW_then fun K2 hK2 => ?_
 have hin2 : ¬ (IN.length : Int) > 6 := by omega
 have qf := (Aq fw @hin2)
 refine rgqv [1,5,31] [25] ?_; refine AW_cond false (by simp <;> omega) (fun h => by cases h) (fun _ => ?_); refine AW_skip (hK2 _ ?_)
 have qf := (Aq fw (Aq @shI.eq_1 (Aq @shI.eq_2 (Aq @shI.eq_3 (Aq @hIl @hsh)))))
 refine rgqv [1,5] [25] ?_; refine rgq (Aq fw (Aq @makeEls.eq_1 (Aq @zeroD.eq_1 @zeroD.eq_2))) [1,5,6] [25,45] ?_; refine AW_then fun K3 hK3 => ?_; refine rgc fw hed [1,5,6,47,48,49] [25,45] ?_; refine AW_for (S := Nat) (fun j => j ≤ E.length) (fun j => ⟨lst [(1, .d (.ip [.sl none NN, .sl none RR])), (5, .ref 25 0 0), (6, .own 45 0 p.names.length), (47, .d (.sl none (E.map fun x => [.v (.int .i64 x)]))), (48, int E.length), (49, int j)], hlst [(25, .box 59 [.d (.sl none NN), .d (.sl none RR), int 1, int ((2 ^ m : Nat) : Int), .d (.sl (some false) []), .d (.sl (some false) []), .d (.sl none IN)]), (45, .sl 4 1 ((SB j).map fun b => [.v (.bool b)]))]⟩) (fun j => E.length - j) 0 ?_ (by omega) ?_
 ·rw [hs0]; refine Imp.to' (fun _ _ => trivial) (by simp [dNum, List.map_replicate, hNl, hEl]) (by simp [dNum, List.map_replicate, hNl, hEl])
 ·intro j hj
  have hsj := hsL j
  have hwj := hwS j
  generalize hSj : SB j = B at hsj hwj ⊢; refine rgq fw [1,5,6,47,48,49,50] [25,45] ?_; refine AW_then fun K4 hK4 => ?_; refine AW_cond' (b := j < E.length) (by simp [D.le, D.le.go, takeMap, dNum]) (fun hc => ?_) (fun hc => ?_)
  ·refine AW_skip (hK4 _ ?_); refine AW_then fun K5 hK5 => ?_; refine AW_block ?_
   obtain ⟨i, hi, hEi⟩ := hwA j hc
   have hwj2 := hwj hc
   rw [hEi, Int.toNat_natCast] at hwj2
   have hi2 : i < B.length := by omega
   have qf := (Aq fw (Aq @hc @hEi))
   refine rgqv [1,5,6,8,47,48,49] [25,45] ?_
   have qf := (Aq fw (Aq @hi2 @hi))
   refine reKv hK5 [1,5,6,47,48,49] [25,45] ?_; refine AW_re (tyOf_good _) fun K' hK' => ?_; (repeat (refine sxn fun K2 hK2 => ?_; simp [dNum]; (repeat (refine ⟨by omega, ?_⟩)); refine hK2 _ ?_; clear hK2 K2)); refine sxz (hK' _ ?_); clear hK' K'; (try simp only [thn, inb]); refine Again.mk (j + 1) (by omega) (by omega) ?_; rw [hwj2]; refine Imp.to' (fun _ _ => trivial) (by simp [dNum, List.map_set]) (by simp [dNum, List.map_set])
  ·obtain rfl : j = E.length := by omega
   rw [hsE] at hSj; subst hSj; refine AW_exit (hK3 _ ?_); refine AW_then fun K6 hK6 => ?_; refine rgq fw [1,5,6,58,59,60] [25,45] ?_; refine AW_for (S := Nat) (fun k => k ≤ p.names.length) (fun k => ⟨lst [(1, .d (.ip [.sl none NN, .sl none RR])), (5, .ref 25 0 0), (6, .own 45 0 p.names.length), (58, .d (.sl none NN)), (59, int NN.length), (60, int k)], hlst [(25, .box 59 [.d (.sl none NN), .d (.sl none RR), int 1, int ((2 ^ m : Nat) : Int), .d (.sl (some false) []), .own 801 0 (partsN p k).length, .d (.sl none IN)]), (45, .sl 4 1 ((p.names.map (edB p)).map fun b => [.v (.bool b)])), (801, .sl 187 3 ((partsN p k).map cPa))]⟩) (fun k => p.names.length - k) 0 ?_ (by omega) ?_
   ·refine (Imp.adoptCell 25 5 801 187 3 rfl rfl rfl).trans ?_; refine Imp.to' (fun _ _ => trivial) (by simp [dNum, partsN]) (by simp [dNum, partsN])
   ·intro k hkk
    have hPs2 := hPs k
    have hPl2 := hPl k
    have hPm : ((partsN p k).map cPa).length = (partsN p k).length := by simp
    generalize hPk : partsN p k = PK at hPs2 hPl2 hPm ⊢; refine rgq fw [1,5,6,58,59,60,61] [25,45,801] ?_; refine AW_then fun K7 hK7 => ?_
    by_cases hlt : k < p.names.length
    ·have hlt2 : k < NN.length := by omega
     have hlt3 : (k : Int) < (NN.length : Int) := by omega
     refine AW_cond true (by simp <;> omega) (fun _ => ?_) (fun h => by cases h); refine AW_skip (hK7 _ ?_); refine AW_then fun K8 hK8 => ?_; refine AW_block ?_
     have hPs3 := hPs2 hlt
     have hcn := hcnt _ (List.getElem_mem hlt)
     have hNk : NN[k] = [.v (.string (bs p.names[k].name)), .v (.int .i64 p.names[k].kind), .v (.int .i64 p.names[k].count)] := by
      have := hNg k hlt
      rw [List.getElem?_eq_getElem hlt2] at this; exact Option.some.inj this
     unfold partOf at hPs3; generalize hnk : p.names[k] = nk at hPs3 hNk hcn
     obtain ⟨nm, kd, ct⟩ := nk
     dsimp only at hPs3 hNk hcn
     have hebv : edB p p.names[k] = edB p ⟨nm, kd, ct⟩ := by rw [hnk]
     generalize hev : edB p ⟨nm, kd, ct⟩ = ev at *
     have qf := (Aq fw (Aq @hlt2 @hNk))
     refine rgqv [1,5,6,9,10,58,59,60] [25,45,801,10] ?_; refine AW.imp (Imp.freezeB 10 trivial) ?_; refine AW.st (by simp [dNum]; rfl) ?_; refine AW_block ?_
     by_cases k2 : kd = 2
     ·subst k2; rw [if_pos (.inl rfl)] at hPs3; refine rgq fw [1,5,6,9,10,58,59,60,65] [25,45,801] ?_; refine AW_tt rfl ?_; refine AW_re (tyOf_good _) fun K' hK' => ?_; (repeat (refine sxn fun K2 hK2 => ?_; simp [dNum, List.take_of_length_le]; (repeat (refine ⟨by omega, ?_⟩)); refine hK2 _ ?_; clear hK2 K2)); refine sxz (hK' _ ?_); clear hK' K'; refine hK8 _ (AW.norm [1, 5, 6, 58, 59, 60] [25, 45, 801] (fun _ _ => trivial) (AW.st (by simp [dNum, List.take_of_length_le]; rfl) ?_)); refine AW_re (tyOf_good _) fun K' hK' => ?_; (repeat (refine sxn fun K2 hK2 => ?_; simp [dNum]; (repeat (refine ⟨by omega, ?_⟩)); refine hK2 _ ?_; clear hK2 K2)); refine sxz (hK' _ ?_); clear hK' K'; (try simp only [thn, inb]); refine Again.mk (k + 1) (by omega) (by omega) ?_; rw [hPs3]; refine Imp.to' (fun _ _ => trivial) (by simp [dNum, cPa]) (by simp [dNum, cPa])
     ·by_cases k1 : kd = 1
      ·subst k1
       cases ev with
       | true =>
        rw [if_pos (.inr ⟨rfl, rfl⟩)] at hPs3
        have qf := (Aq fw (Aq @hlt @hebv))
        refine rgqv [1,5,6,9,10,58,59,60,65] [25,45,801] ?_; refine AW_tt rfl ?_; refine AW_re (tyOf_good _) fun K' hK' => ?_; (repeat (refine sxn fun K2 hK2 => ?_; simp [dNum, List.take_of_length_le]; (repeat (refine ⟨by omega, ?_⟩)); refine hK2 _ ?_; clear hK2 K2)); refine sxz (hK' _ ?_); clear hK' K'; refine hK8 _ (AW.norm [1, 5, 6, 58, 59, 60] [25, 45, 801] (fun _ _ => trivial) (AW.st (by simp [dNum, List.take_of_length_le]; rfl) ?_)); refine AW_re (tyOf_good _) fun K' hK' => ?_; (repeat (refine sxn fun K2 hK2 => ?_; simp [dNum]; (repeat (refine ⟨by omega, ?_⟩)); refine hK2 _ ?_; clear hK2 K2)); refine sxz (hK' _ ?_); clear hK' K'; (try simp only [thn, inb]); refine Again.mk (k + 1) (by omega) (by omega) ?_; rw [hPs3]; refine Imp.to' (fun _ _ => trivial) (by simp [dNum, cPa]) (by simp [dNum, cPa])
       | false =>
        rw [if_neg (by simp), if_neg (by simp), List.append_nil] at hPs3
        have qf := (Aq fw (Aq @hlt @hebv))
        refine rgqv [1,5,6,9,10,58,59,60,65] [25,45,801] ?_; refine AW_ff rfl ?_; refine rgq fw [1,5,6,9,10,58,59,60,91] [25,45,801] ?_; refine AW_ff rfl ?_; refine AW_skip ?_; refine hK8 _ (AW.norm [1, 5, 6, 58, 59, 60] [25, 45, 801] (fun _ _ => trivial) (AW.st (by simp [dNum]; rfl) ?_)); refine AW_re (tyOf_good _) fun K' hK' => ?_; (repeat (refine sxn fun K2 hK2 => ?_; simp [dNum]; (repeat (refine ⟨by omega, ?_⟩)); refine hK2 _ ?_; clear hK2 K2)); refine sxz (hK' _ ?_); clear hK' K'; (try simp only [thn, inb]); refine Again.mk (k + 1) (by omega) (by omega) ?_; rw [hPs3]; refine Imp.to' (fun _ _ => trivial) (by simp [dNum]) (by simp [dNum])
      ·rw [if_neg (by simp [k1, k2]), if_pos k1] at hPs3
       have qf := (Aq fw (Aq @k1 @k2))
       refine rgqv [1,5,6,9,10,58,59,60,65] [25,45,801] ?_; refine AW_cond false (by simp [k1, k2]) (fun h => by cases h) (fun _ => ?_)
       have qf := (Aq fw @k1)
       refine rgqv [1,5,6,9,10,58,59,60,91] [25,45,801] ?_; refine AW_cond true (by simp [k1]) (fun _ => ?_) (fun h => by cases h); refine AW_rle (tyOf_good _) (by kernel_rfl) ([(11, (801, 105))]) ([(0, [801])]) ([0, 1, 2, 3, 4, 5, 6, 7, 8, 9, 10, 11, 12, 13, 14]) (by kernel_rfl) fun K' hK' => ?_; (repeat (refine sxl_nextO rfl fun K2 hK2 => ?_; simp [dNum, List.take_of_length_le]; (repeat (refine ⟨by omega, ?_⟩)); refine hK2 _ ?_; clear hK2 K2)); refine sxl_nilO (hK' _ ?_); clear hK' K'; refine hK8 _ (AW.norm [1, 5, 6, 58, 59, 60] [25, 45, 801] (fun _ _ => trivial) (AW.st (by simp [dNum, List.take_of_length_le]; rfl) ?_)); refine AW_re (tyOf_good _) fun K' hK' => ?_; (repeat (refine sxn fun K2 hK2 => ?_; simp [dNum]; (repeat (refine ⟨by omega, ?_⟩)); refine hK2 _ ?_; clear hK2 K2)); refine sxz (hK' _ ?_); clear hK' K'; (try simp only [thn, inb]); refine Again.mk (k + 1) (by omega) (by omega) ?_; rw [hPs3]; refine Imp.to' (fun _ _ => trivial) (by simp [dNum, cPa]) (by simp [dNum, cPa])
    ·have hlt3 : ¬ (k : Int) < (NN.length : Int) := by omega
     obtain rfl : k = p.names.length := by omega
     rw [hPe] at hPk; subst hPk; refine AW_cond false (by simp <;> omega) (fun h => by cases h) (fun _ => ?_); refine AW_exit (hK6 _ ?_); refine AW.imp (Imp.freeze 801 trivial) ?_; refine AW.st (by simp [dNum, hPm, List.take_of_length_le]; rfl) ?_; refine AW_then fun K9 hK9 => ?_
     have hPTl : ((partsP p).map cPa).length = (partsP p).length := by simp
     have hPTg : ∀ i (h : i < (partsP p).length), ((partsP p).map cPa)[i]? = some [.v (.int .i64 (partsP p)[i].nm), .v (.int .i64 (partsP p)[i].most), .v (.bool (partsP p)[i].far)] := fun i h => by simp [h, cPa]
     generalize hPTS : partsP p = PTS at *; generalize PTS.map cPa = PT at *; refine rgq fw [1,5,113,114,115] [25] ?_; refine AW_for (S := Nat) (fun k => k ≤ PTS.length) (fun k => ⟨lst [(1, .d (.ip [.sl none NN, .sl none RR])), (5, .ref 25 0 0), (113, .d (.sl none PT)), (114, int PT.length), (115, int k)], hlst [(25, .box 59 [.d (.sl none NN), .d (.sl none RR), int (prodP (PTS.take k)), int ((2 ^ m : Nat) : Int), .d (.sl (some false) []), .d (.sl none PT), .d (.sl none IN)])]⟩) (fun k => PTS.length - k) 0 ?_ (by omega) ?_
     ·refine Imp.to' (fun _ _ => trivial) (by simp [dNum, prodP]) (by simp [dNum, prodP])
     ·intro k hkk
      have hq := hpt k
      have hqm := hpm (k + 1)
      have hqp := hp1 k
      have hqm0 := hpm k
      generalize hQ : prodP (PTS.take k) = Q at hq hqp hqm0 ⊢; refine rgq fw [1,5,113,114,115,116] [25] ?_; refine AW_then fun K10 hK10 => ?_
      by_cases hlt : k < PTS.length
      ·have hlt2 : k < PT.length := by omega
       have hlt3 : (k : Int) < (PT.length : Int) := by omega
       refine AW_cond true (by simp <;> omega) (fun _ => ?_) (fun h => by cases h); refine AW_skip (hK10 _ ?_); refine AW_then fun K11 hK11 => ?_; refine AW_block ?_
       have hq1 := hq hlt
       have hx2 := hm2 _ (List.getElem_mem hlt)
       have hPk : PT[k] = [.v (.int .i64 PTS[k].nm), .v (.int .i64 PTS[k].most), .v (.bool PTS[k].far)] := by
        have := hPTg k hlt
        rw [List.getElem?_eq_getElem hlt2] at this; exact Option.some.inj this
       generalize PTS[k] = x at hPk hq1 hx2
       obtain ⟨xi, M, fa⟩ := x
       dsimp only at hPk hq1 hx2
       rw [hq1] at hqm
       have hQM0 : 0 < Q * M := Int.mul_pos hqp (by omega)
       have hQM1 : ¬ Q * M > 4096 := by omega
       have qf := (Aq fw (Aq @hlt2 @hPk))
       refine rgqv [1,5,12,113,114,115] [25,12] ?_; refine AW.imp (Imp.freezeB 12 trivial) ?_; refine AW.st (by simp [dNum]; rfl) ?_; refine AW_rdg (tyOf_good _) (by kernel_rfl) [(3, 25), (5, 999), (9, 25)] [1, 5, 113, 114, 115] [25] (fun _ _ => trivial) (by kernel_rfl) fun K' hK' => ?_; (repeat (refine sxg_next fun K2 hK2 => ?_; simp [dNum, hQM0]; (repeat (refine ⟨by omega, ?_⟩)); refine hK2 _ ?_; clear hK2 K2)); refine sxg_nil (hK' _ ?_); refine AW.st (by simp [dNum, hQM0]; rfl) ?_; clear hK' K'
       have qf := (Aq fw @hQM1)
       refine rgqv [1,5,113,114,115,132] [25] ?_; refine AW_cond false (by simp <;> omega) (fun h => by cases h) (fun _ => ?_); refine AW_skip (hK11 _ ?_); refine AW_re (tyOf_good _) fun K' hK' => ?_; (repeat (refine sxn fun K2 hK2 => ?_; simp [dNum]; (repeat (refine ⟨by omega, ?_⟩)); refine hK2 _ ?_; clear hK2 K2)); refine sxz (hK' _ ?_); clear hK' K'; (try simp only [thn, inb]); refine Again.mk (k + 1) (by omega) (by omega) ?_; rw [hq1]; refine Imp.to' (fun _ _ => trivial) (by simp [dNum]) (by simp [dNum])
      ·have hlt3 : ¬ (k : Int) < (PT.length : Int) := by omega
       refine AW_cond false (by simp <;> omega) (fun h => by cases h) (fun _ => ?_); refine AW_exit (hK9 _ ?_); rw [List.take_of_length_le (by omega)] at hQ; refine AW_then fun K12 hK12 => ?_
       obtain ⟨S, hS⟩ : ∃ S : Nat, prodP PTS = (S : Int) := Int.eq_ofNat_of_zero_le (by omega)
       rw [hS] at hnl hP hstm hinm hnum hQ ⊢; rw [Int.toNat_natCast] at hnl; subst hQ; refine rgq fw [1,5,138,139] [25] ?_; refine AW_for (S := Nat) (fun s => s ≤ S) (fun s => ⟨lst [(1, .d (.ip [.sl none NN, .sl none RR])), (5, .ref 25 0 0), (138, int S), (139, int s)], hlst [(25, .box 59 [.d (.sl none NN), .d (.sl none RR), int S, int ((2 ^ m : Nat) : Int), .own 800 0 s, .d (.sl none PT), .d (.sl none IN)]), (800, .sl 51 1 (nxD (NXT.take s)))]⟩) (fun s => S - s) 0 ?_ (by omega) ?_
       ·refine (Imp.adoptCell 25 4 800 51 1 rfl rfl rfl).trans ?_; refine Imp.to' (fun _ _ => trivial) (by simp [dNum, nxD]) (by simp [dNum, nxD])
       ·intro s hss
        have hns := hnt s
        have hXl : (nxD (NXT.take s)).length = s := by rw [nxD_len, List.length_take]; omega
        have hNXe : s = S → nxD (NXT.take s) = nxD NXT := fun e => by rw [List.take_of_length_le (by omega)]
        generalize nxD (NXT.take s) = NX at hns hXl hNXe ⊢; refine rgq fw [1,5,138,139,140] [25,800] ?_; refine AW_then fun K13 hK13 => ?_; refine AW_cond' (b := s < S) (by simp [D.le, D.le.go, takeMap, dNum]) (fun hc => ?_) (fun hc => ?_)
        ·refine AW_skip (hK13 _ ?_); refine AW_then fun K14 hK14 => ?_; refine AW_block ?_
         have hns2 := hns (by omega)
         have hstm2 := hstm NX s (by omega)
         have hinm2 := hinm NX
         have hdo2 := hdo s
         have hnum2 := fun i => hnum NX _ (hdi s i)
         have hrt2 := fun i h => hrt s i h
         have hrl2 := hrl s
         generalize hst1 : stP p s = st1 at hstm2 hdo2 hnum2 hrt2; generalize hRs : ROW s = RS at hns2 hrt2 hrl2; refine rgq fw [1,5,13,138,139] [25,800] ?_; refine rgq fw [1,5,13,14,138,139] [25,800] ?_; refine AW_then fun K15 hK15 => ?_; refine rgq fw [1,5,13,14,138,139,145,146] [25,800] ?_; refine AW_for (S := Nat) (fun i => i ≤ 2 ^ m) (fun i => ⟨lst [(1, .d (.ip [.sl none NN, .sl none RR])), (5, .ref 25 0 0), (13, int s), (14, .own 902 0 i), (138, int S), (139, int s), (145, int ((2 ^ m : Nat) : Int)), (146, int i)], hlst [(25, .box 59 [.d (.sl none NN), .d (.sl none RR), int S, int ((2 ^ m : Nat) : Int), .own 800 0 s, .d (.sl none PT), .d (.sl none IN)]), (800, .sl 51 1 NX), (902, .sl 3 1 ((RS.take i).map fun x => [.v (.int .i64 x)]))]⟩) (fun i => 2 ^ m - i) 0 ?_ (by omega) ?_
         ·refine (Imp.adopt 14 902 3 1 rfl rfl).trans ?_; refine Imp.to' (fun _ _ => trivial) (by simp [dNum]) (by simp [dNum])
         ·intro i hii
          have hri := hrt2 i
          have hRl : ((RS.take i).map fun x => [D.v (.int .i64 x)]).length = i := by simp; omega
          generalize hRi : RS.take i = RI at hri hRl ⊢; refine rgq fw [1,5,13,14,138,139,145,146,147] [25,800,902] ?_; refine AW_then fun K16 hK16 => ?_
          by_cases hil : i < 2 ^ m
          ·have hil3 : (i : Int) < ((2 ^ m : Nat) : Int) := by exact_mod_cast hil
           refine AW_cond true (by simpa using hil3) (fun _ => ?_) (fun h => by cases h); refine AW_skip (hK16 _ ?_); refine AW_then fun K17 hK17 => ?_; refine AW_block ?_
           have hri2 := hri hil
           have hinm3 := hinm2 i
           have hdo3 := hdo2 i
           have hnum3 := hnum2 i
           generalize doP p st1 (inBs i m) = d1 at hdo3 hnum3 hri2; generalize inBs i m = ib at hinm3 hdo3; generalize nrP PTS d1 = v1 at hnum3 hri2
           obtain ⟨I1, C1⟩ := st1
           obtain ⟨I2, C2⟩ := d1
           dsimp only at hstm2 hdo3 hnum3
           rw [hXl] at hstm2 hinm3 hnum3; refine rgq fw [1,5,13,14,15,138,139,145,146] [25,800,902] ?_; refine AW_rne (tyOf_good _) (by kernel_rfl) ([12]) ([]) ([5, 8, 10]) ([(2, .d (.ip [.sl none NN, .sl none RR]))]) (List.range 14) (by kernel_rfl) fun K' hK' => ?_; (repeat (refine sxap_nextO rfl fun K2 hK2 => ?_; simp [dNum, hRl, List.take_of_length_le]; (repeat (refine ⟨by omega, ?_⟩)); refine hK2 _ ?_; clear hK2 K2)); refine sxap_nextO rfl fun K2 hK2 => ?_; simp [dNum, hRl, List.take_of_length_le]; refine hcK.mc (hstm2) (by simp [dNum, hRl, List.take_of_length_le]) (by simp [dNum, hRl, List.take_of_length_le]) (by simp [dNum, hRl, List.take_of_length_le]) (by simp [dNum, hRl, List.take_of_length_le]) (by simp [dNum, hRl, List.take_of_length_le]) (by simp [dNum, hRl, List.take_of_length_le]) (by simp [LdSame, dNum, hRl, List.take_of_length_le]) ?_; simp [dNum, hRl, List.take_of_length_le]; refine hK2 _ ?_; clear hK2 K2; (repeat (refine sxap_nextO rfl fun K2 hK2 => ?_; simp [dNum, hRl, List.take_of_length_le]; (repeat (refine ⟨by omega, ?_⟩)); refine hK2 _ ?_; clear hK2 K2)); refine sxap_nextO rfl fun K2 hK2 => ?_; simp [dNum, hRl, List.take_of_length_le]; refine hcK.mc (hinm3) (by simp [dNum, hRl, List.take_of_length_le]) (by simp [dNum, hRl, List.take_of_length_le]) (by simp [dNum, hRl, List.take_of_length_le]) (by simp [dNum, hRl, List.take_of_length_le]) (by simp [dNum, hRl, List.take_of_length_le]) (by simp [dNum, hRl, List.take_of_length_le]) (by simp [LdSame, dNum, hRl, List.take_of_length_le]) ?_; simp [dNum, hRl, List.take_of_length_le]; refine hK2 _ ?_; clear hK2 K2; (repeat (refine sxap_nextO rfl fun K2 hK2 => ?_; simp [dNum, hRl, List.take_of_length_le]; (repeat (refine ⟨by omega, ?_⟩)); refine hK2 _ ?_; clear hK2 K2)); refine sxap_nextO rfl fun K2 hK2 => ?_; simp [dNum, hRl, List.take_of_length_le]; refine callD.mk (hdo3) (by simp; rfl) (by simp; rfl) (by first | exact D.leGo_refl _ | simp [takeMap, List.map_map, Function.comp_def, D.le, D.le.go, D.le_refl, D.leGo_refl, dNum, hRl, List.take_of_length_le]) (by simp) ?_; refine hK2 _ ?_; clear hK2 K2; simp only [putd, upd_lst]; (repeat (refine sxap_nextO rfl fun K2 hK2 => ?_; simp [dNum, hRl, List.take_of_length_le]; (repeat (refine ⟨by omega, ?_⟩)); refine hK2 _ ?_; clear hK2 K2)); refine sxap_nextO rfl fun K2 hK2 => ?_; simp [dNum, hRl, List.take_of_length_le]; refine hcK.mc (hnum3) (by simp [dNum, hRl, List.take_of_length_le]) (by simp [dNum, hRl, List.take_of_length_le]) (by simp [dNum, hRl, List.take_of_length_le]) (by simp [dNum, hRl, List.take_of_length_le]) (by simp [dNum, hRl, List.take_of_length_le]) (by simp [dNum, hRl, List.take_of_length_le]) (by simp [LdSame, dNum, hRl, List.take_of_length_le]) ?_; simp [dNum, hRl, List.take_of_length_le]; refine hK2 _ ?_; clear hK2 K2; (repeat (refine sxap_nextO rfl fun K2 hK2 => ?_; simp [dNum, hRl, List.take_of_length_le]; (repeat (refine ⟨by omega, ?_⟩)); refine hK2 _ ?_; clear hK2 K2)); refine sxap_nilO (hK' _ ?_); clear hK' K'
           refine hK17 _ (AW.norm [1, 5, 13, 14, 138, 139, 145, 146] [25, 800, 902] (fun _ _ => trivial) (AW.st (by simp [dNum, hRl, List.take_of_length_le]; rfl) ?_)); refine AW_re (tyOf_good _) fun K' hK' => ?_; (repeat (refine sxn fun K2 hK2 => ?_; simp [dNum]; (repeat (refine ⟨by omega, ?_⟩)); refine hK2 _ ?_; clear hK2 K2)); refine sxz (hK' _ ?_); clear hK' K'; (try simp only [thn, inb]); refine Again.mk (i + 1) (by omega) (by omega) ?_; rw [hri2]; refine Imp.to' (fun _ _ => trivial) (by simp [dNum]) (by simp [dNum])
          ·obtain rfl : i = 2 ^ m := by omega
           have hRe : RI = RS := by rw [← hRi]; exact List.take_of_length_le (by omega)
           subst hRe; refine AW_cond false (by simp) (fun h => by cases h) (fun _ => ?_); refine AW_exit (hK15 _ ?_); refine AW.imp (Imp.freeze 902 trivial) ?_; refine AW.st (by simp [dNum, hRl, List.take_of_length_le]; rfl) ?_; refine AW_re (tyOf_good _) fun K' hK' => ?_; (repeat (refine sxn fun K2 hK2 => ?_; simp [dNum, hXl, List.take_of_length_le]; (repeat (refine ⟨by omega, ?_⟩)); refine hK2 _ ?_; clear hK2 K2)); refine sxz (hK' _ ?_); clear hK' K'; refine hK14 _ (AW.norm [1, 5, 138, 139] [25, 800] (fun _ _ => trivial) (AW.st (by simp [dNum, hXl, List.take_of_length_le]; rfl) ?_)); refine AW_re (tyOf_good _) fun K' hK' => ?_; (repeat (refine sxn fun K2 hK2 => ?_; simp [dNum]; (repeat (refine ⟨by omega, ?_⟩)); refine hK2 _ ?_; clear hK2 K2)); refine sxz (hK' _ ?_); clear hK' K'; (try simp only [thn, inb]); refine Again.mk (s + 1) (by omega) (by omega) ?_; rw [hns2]; refine Imp.to' (fun _ _ => trivial) (by simp [dNum]) (by simp [dNum])
        ·obtain rfl : s = S := by omega
         obtain rfl := hNXe rfl
         refine AW_exit (hK12 _ ?_); refine AW.imp (Imp.freeze 800 trivial) ?_; refine AW.st (by simp [dNum, hXl, List.take_of_length_le]; rfl) ?_; refine rgq fw [2,3] [25] ?_; refine AW_ret ?_; simp [D.le, D.le.go, takeMap, dNum, D.le_refl, D.leGo_refl, hS]
end Go.Proofs.YtpboiimemmfkiaaGreatDoor
namespace Go.Proofs.YtpboiimemmfkiaaGreatDoor
open Go.Av
def inN (p : PgP) : Nat := 2 ^ (inputP p).length
def dMc (p : PgP) : D := dMa p (prodP (partsP p)) ((inN p : Nat) : Int) (nxD (nextP p))
set_option maxRecDepth 100000 in
set_option maxHeartbeats 8000000 in
theorem sees_good (G : Glob) (p : PgP) (hck : checkP p = none) (hk : ∀ r ∈ p.rungs, CondOk r) (s i : Nat) (hP : prodP (partsP p) ≤ 4096) (hs : (s : Int) < prodP (partsP p)) (hi : i < inN p) : PureC Tryz.prog G 30 [dMc p, dNum s, dNum i] (.tup [dBl (doP p (stP p s) (inBs i (inputP p).length)).is, .v .nilIface]) := by
 have hst := mstate_spec G p hck (prodP (partsP p)) ((inN p : Nat) : Int) (nxD (nextP p)) s (by omega) (by omega)
 have hin := minput_spec G p hck (prodP (partsP p)) ((inN p : Nat) : Int) (nxD (nextP p)) i
 have hdo := do_spec G p hck hk (stP p s) (stP_inv hck s) (inBs i (inputP p).length) (inBs_len _ _)
 simp only [dMc, dMa, cMa, dNms, dRgs, dPas, dIl, dNum, dSt, cSt, dBl, dPg, cPg] at hst hin hdo ⊢; generalize doP p (stP p s) (inBs i (inputP p).length) = d at *; generalize stP p s = t at *; generalize inBs i (inputP p).length = ib at *; generalize nxD (nextP p) = NX at *; generalize prodP (partsP p) = S at *; generalize inN p = N at *; generalize (inputP p).map (fun n => [D.v (.int .i64 n)]) = IN at *; generalize (partsP p).map cPa = PT at *; generalize p.names.map cNm = NN at *; generalize p.rungs.map cRg = RR at *
 obtain ⟨I1, C1⟩ := t
 obtain ⟨I2, C2⟩ := d
 dsimp only at hst hdo ⊢
 have h1 : ¬ S ≤ (s : Int) := by omega
 have h2 : ¬ N ≤ i := by omega
 have h0 : ¬ (s : Int) < 0 := by omega
 have h3 : ¬ (i : Int) < 0 := by omega
 refine PureC.of_body (tyOf_good _) Tryz.func30 rfl rfl (rs := [.tmp 6, .tmp 7]) Tryz.results30 (by simp [Tryz.ntmps30]) fun X => ?_; simp only [Tryz.ntmps30, List.map]
 have fw := @dNum.eq_1
 refine rgq fw [0,1,2] [] ?_; refine AW_then fun K1 hK1 => ?_; refine rgq fw [0,1,2,9] [] ?_; refine AW_ff rfl ?_; refine AW_skip (hK1 _ ?_); refine AW_then fun K2 hK2 => ?_
 have qf := (Aq fw (Aq @h0 (Aq @h1 (Aq @h2 @h3))))
 refine rgqv [0,1,2,32] [] ?_; refine AW_cond false (by simp <;> omega) (fun h => by cases h) (fun _ => ?_); refine AW_skip (hK2 _ ?_); refine AW_rd (tyOf_good _) (by kernel_rfl) [6, 7] [] (fun _ _ => trivial) (by kernel_rfl) fun K' hK' => ?_; (repeat (refine sxd_next fun K2 hK2 => ?_; simp [dNum]; (repeat (refine ⟨by omega, ?_⟩)); refine hK2 _ ?_; clear hK2 K2)); refine sxd_next fun K2 hK2 => ?_; simp [dNum]; refine callQ.data (hst) (by simp; rfl) (by simp; rfl) (by first | exact D.leGo_refl _ | simp [takeMap, List.map_map, Function.comp_def, D.le, D.le.go, D.le_refl, D.leGo_refl, dNum]) ?_; refine hK2 _ ?_; clear hK2 K2; simp only [putd, upd_lst]; (repeat (refine sxd_next fun K2 hK2 => ?_; simp [dNum]; (repeat (refine ⟨by omega, ?_⟩)); refine hK2 _ ?_; clear hK2 K2)); refine sxd_next fun K2 hK2 => ?_; simp [dNum]; refine callQ.data (hin) (by simp; rfl) (by simp; rfl) (by first | exact D.leGo_refl _ | simp [takeMap, List.map_map, Function.comp_def, D.le, D.le.go, D.le_refl, D.leGo_refl, dNum]) ?_; refine hK2 _ ?_; clear hK2 K2; simp only [putd, upd_lst]; (repeat (refine sxd_next fun K2 hK2 => ?_; simp [dNum]; (repeat (refine ⟨by omega, ?_⟩)); refine hK2 _ ?_; clear hK2 K2)); refine sxd_next fun K2 hK2 => ?_; simp [dNum]; refine callQ.data (hdo) (by simp; rfl) (by simp; rfl) (by first | exact D.leGo_refl _ | simp [takeMap, List.map_map, Function.comp_def, D.le, D.le.go, D.le_refl, D.leGo_refl, dNum]) ?_; refine hK2 _ ?_; clear hK2 K2; simp only [putd, upd_lst]; (repeat (refine sxd_next fun K2 hK2 => ?_; simp [dNum]; (repeat (refine ⟨by omega, ?_⟩)); refine hK2 _ ?_; clear hK2 K2)); refine sxd_nil (hK' _ ?_); refine AW.st (by simp [dNum]; rfl) ?_; clear hK' K'; refine AW_ret ?_; simp [D.le, D.le.go, takeMap, dNum, D.le_refl, D.leGo_refl]
def edE (l : List Int) : List (Value × D) := l.foldl (fun E k => entPut (.int .i64 k) (.v (.bool true)) E) []
theorem edE_snoc (l : List Int) (k : Int) : edE (l ++ [k]) = entPut (.int .i64 k) (.v (.bool true)) (edE l) := by simp [edE]
theorem keyEq_int (a b : Int) : keyEq (.int .i64 a) (.int .i64 b) = decide (a = b) := by
 by_cases h : a = b
 ·subst h; simp [keyEq]
 ·simp [keyEq, h]
theorem entPut_key {k : Value} {x : D} : ∀ {l : List (Value × D)}, (∀ p ∈ l, keyOk (.int .i64) p.1 = true) → keyOk (.int .i64) k = true → ∀ p ∈ entPut k x l, keyOk (.int .i64) p.1 = true
 | [], _, hk, p, hp => by
  rw [entPut_nil, List.mem_singleton] at hp; subst hp; exact hk
 | q :: l, hl, hk, p, hp => by
  rw [entPut_cons] at hp
  split at hp
  ·rcases List.mem_cons.1 hp with rfl | hp
   ·exact hk
   ·exact hl p (by simp [hp])
  ·rcases List.mem_cons.1 hp with rfl | hp
   ·exact hl _ (by simp)
   ·exact entPut_key (fun p hp => hl p (by simp [hp])) hk p hp
theorem edE_get (i : Int) (l : List Int) : (∀ p ∈ edE l, keyOk (.int .i64) p.1 = true) ∧ entGet (.int .i64 i) (edE l) = if i ∈ l then some (.v (.bool true)) else none := by
 suffices h : ∀ (n : Nat) (l : List Int), l.length = n → (∀ p ∈ edE l, keyOk (.int .i64) p.1 = true) ∧ entGet (.int .i64 i) (edE l) = if i ∈ l then some (.v (.bool true)) else none from h _ l rfl
 intro n
 induction n with
 | zero =>
  intro l h
  obtain rfl := List.eq_nil_of_length_eq_zero h
  exact ⟨by simp [edE], rfl⟩
 | succ n ih =>
  intro l h
  have hne : l ≠ [] := fun e => by subst e; cases h
  obtain ⟨l', k, rfl⟩ : ∃ l' k, l = l' ++ [k] := ⟨l.dropLast, l.getLast hne, (List.dropLast_concat_getLast hne).symm⟩
  obtain ⟨h1, h2⟩ := ih l' (by simpa using h)
  rw [edE_snoc]; refine ⟨entPut_key h1 rfl, ?_⟩; rw [entGet_put (d := .int .i64) rfl rfl _ h1, h2, keyEq_int]
  by_cases e : i = k
  ·subst e; simp
  ·simp [e]
def madeP (t : Tx) (most : Int) : Option PgP := match readP t with
 | none => none
 | some p => if 4 < (inputP p).length ∨ most < prodP (partsP p) then none else some p
def dMade : Option PgP → D
 | none => .tup [.v (.pointer none), .v (.bool false)]
 | some p => .tup [dMc p, .v (.bool true)]
theorem madeP_some {t : Tx} {most : Int} {p : PgP} (h : madeP t most = some p) : checkP p = none ∧ (∀ r ∈ p.rungs, CondOk r) ∧ (inputP p).length ≤ 4 ∧ prodP (partsP p) ≤ most := by
 unfold madeP at h
 split at h
 ·cases h
 ·rename_i q hq
  split at h
  ·cases h
  ·rename_i hn
   obtain rfl := Option.some.inj h
   obtain ⟨h1, h2⟩ := parse_ok (readP_some hq)
   exact ⟨h1, h2, by omega, by omega⟩
theorem prodN_mono {p : PgP} (hg : GoodP p) : ∀ {k : Nat}, k ≤ p.names.length → prodP (partsN p k) ≤ prodP (partsP p) := fun {k} hk => by
 have h : ∀ d, k + d ≤ p.names.length → prodP (partsN p k) ≤ prodP (partsN p (k + d)) := by
  intro d
  induction d with
  | zero => intro _; exact Int.le_refl _
  | succ d ih =>
   intro hd
   have h1 := ih (by omega)
   have hm : ∀ x ∈ partsN p (k + d + 1), 2 ≤ x.most := fun x hx => by
    obtain ⟨i, hi, _, h2⟩ := (partsN_mem (by omega)).1 hx
    exact (parts_good hg ((partsN_mem (Nat.le_refl _)).2 ⟨i, hi, hi, h2⟩)).m2
   have e : partsN p (k + d + 1) = partsN p (k + d) ++ partOf p.names[k + d] (edB p p.names[k + d]) (k + d) := partsN_succ (by omega)
   have h3 := prodP_mono hm (partsN p (k + d)).length
   rw [e, List.take_left] at h3; rw [← Nat.add_assoc, e]
   omega
 have := h (p.names.length - k) (by omega)
 rw [show k + (p.names.length - k) = p.names.length from by omega] at this; exact this
theorem wed_mem {p : PgP} {k : Nat} (hk : k < p.names.length) : ((k : Int) ∈ wedN p p.names.length) ↔ edB p p.names[k] = true := by
 rw [wedN_mem (Nat.le_refl _)]
 constructor
 ·rintro ⟨i, hi, _, he, ha⟩
  obtain rfl : k = i := by omega
  exact ha
 ·intro ha
  exact ⟨k, hk, hk, rfl, ha⟩
set_option maxRecDepth 100000 in
set_option maxHeartbeats 16000000 in
theorem made_spec (G : Glob) (hM : HasMax G) (hP : HasP10 G) (hG : HasErr G) {es er : Value} (hE : HasNE G es er) (t : Tx) (most : Int) (h1 : 1 ≤ most) (h2 : most ≤ 4096) : PureC Tryz.prog G 24 [dS t, dNum most] (dMade (madeP t most)) := by
 have hrd := kread_spec G hM hP hG hE t
 unfold madeP; simp only [dS] at hrd ⊢
 cases hre : readP t with
 | none =>
  rw [hre] at hrd; simp only [dRd, dPg0, dNum, dMade] at hrd ⊢; refine PureC.of_body (tyOf_good _) Tryz.func24 rfl rfl (rs := [.tmp 4, .tmp 5]) Tryz.results24 (by simp [Tryz.ntmps24]) fun X => ?_; simp only [Tryz.ntmps24, List.map]
  have fw := @dNum.eq_1
  refine rgq fw [0,1] [] ?_; refine rgc fw hrd [1,6,7] [6] ?_; refine AW_then fun K1 hK1 => ?_; refine rgq fw [1,6,28] [6] ?_; refine AW_tt rfl ?_; refine rgq fw [4,5] [6] ?_; refine AW_ret ?_; simp [D.le, D.le.go, takeMap, dNum]
 | some p =>
  rw [hre] at hrd
  obtain ⟨hck, hk⟩ := parse_ok (readP_some hre)
  have hg := checkP_good hck
  have hnm := hg.names
  have hkd := lkind_spec G p (by omega) 1
  have hkI : kindN p.names 1 p.names.length = inputP p := rfl
  rw [hkI] at hkd
  have hIl : ((inputP p).map fun x => [D.v (.int .i64 x)]).length = (inputP p).length := by simp
  by_cases h4 : 4 < (inputP p).length
  ·simp only [h4, true_or, if_true]
   have h4' : ((inputP p).length : Int) > 4 := by omega
   simp only [dRd, dPg, cPg, dNms, dRgs, dNum, dMade] at hrd hkd ⊢; generalize ((inputP p).map fun x => [D.v (.int .i64 x)]) = IN at *; generalize p.names.map cNm = NN at *; generalize p.rungs.map cRg = RR at *
   have h4'' : (IN.length : Int) > 4 := by omega
   refine PureC.of_body (tyOf_good _) Tryz.func24 rfl rfl (rs := [.tmp 4, .tmp 5]) Tryz.results24 (by simp [Tryz.ntmps24]) fun X => ?_; simp only [Tryz.ntmps24, List.map]
   have fw := @dNum.eq_1
   refine rgq fw [0,1] [] ?_; refine rgc fw hrd [1,6,7] [6] ?_; refine AW.imp (Imp.freezeB 6 trivial) ?_; refine AW.st (by simp [dNum]; rfl) ?_; refine AW_then fun K1 hK1 => ?_
   have qf := (Aq fw @h4'')
   refine rgcv hkd [1,6,28] [] ?_; refine AW_cond true (by simp <;> omega) (fun _ => ?_) (fun h => by cases h); refine rgq fw [4,5] [] ?_; refine AW_ret ?_; simp [D.le, D.le.go, takeMap, dNum]
  ·simp only [h4, false_or]
   have hof : prodP (partsP p) ≤ most → PureC Tryz.prog G 37 [dPg p] (.tup [dMc p, .v .nilIface]) := fun h => mof_good G p hck hk (by omega) (by omega)
   have hed := ledges_spec G p (by omega) (by have := hg.rungs; omega) (fun r hr => by
    obtain ⟨e, he, _, _, hb⟩ := hk r hr
    exact ⟨e, he, by omega⟩)
   rw [edges_same hck] at hed
   have hwl := wedN_len p p.names.length
   have hwm := fun k (h : k < p.names.length) => wed_mem (p := p) h
   generalize wedN p p.names.length = E at *
   have hPs : ∀ k (h : k < p.names.length), prodP (partsN p (k + 1)) = prodP (partsN p k) * prodP (partOf p.names[k] (edB p p.names[k]) k) := fun k h => by rw [partsN_succ h, prodP_append]
   have hP0 : prodP (partsN p 0) = 1 := rfl
   have hPe : prodP (partsN p p.names.length) = prodP (partsP p) := rfl
   have hPm := fun k (h : k ≤ p.names.length) => prodN_mono hg h
   have hPp : ∀ k, k ≤ p.names.length → 0 < prodP (partsN p k) := fun k h => prodP_pos fun x hx => by
    obtain ⟨i, hi, _, h2⟩ := (partsN_mem h).1 hx
    exact (parts_good hg ((partsN_mem (Nat.le_refl _)).2 ⟨i, hi, hi, h2⟩)).m2
   generalize prodP (partsP p) = PP at *
   obtain ⟨PN, hPN⟩ : ∃ PN : Nat → Int, ∀ k, prodP (partsN p k) = PN k := ⟨_, fun _ => rfl⟩
   simp only [hPN] at hPs hP0 hPe hPm hPp; clear hPN
   have hcnt := hg.count
   have hkn := hg.name
   have hdMc : ∃ c, dMc p = .ip c := ⟨_, rfl⟩
   obtain ⟨MC, hMC⟩ := hdMc
   simp only [hMC] at hof
   have hres : (most < PP ∧ dMade (if most < PP then none else some p) = D.tup [.v (.pointer none), .v (.bool false)]) ∨ (¬ most < PP ∧ dMade (if most < PP then none else some p) = D.tup [.ip MC, .v (.bool true)]) := by
    by_cases hb : most < PP
    ·exact .inl ⟨hb, by rw [if_pos hb]; rfl⟩
    ·exact .inr ⟨hb, by rw [if_neg hb]; simp only [dMade, hMC]⟩
   generalize hRES : dMade (if most < PP then none else some p) = RES at hres ⊢; clear hRES; simp only [dRd, dPg, cPg, dNms, dRgs, dNum] at hrd hkd hof hed ⊢; generalize ((inputP p).map fun x => [D.v (.int .i64 x)]) = IN at *
   have hNl : (p.names.map cNm).length = p.names.length := by simp
   have hNg : ∀ i (h : i < p.names.length), (p.names.map cNm)[i]? = some [.v (.string (bs p.names[i].name)), .v (.int .i64 p.names[i].kind), .v (.int .i64 p.names[i].count)] := fun i h => by simp [h, cNm, dS]
   generalize p.names.map cNm = NN at *; generalize p.rungs.map cRg = RR at *
   have hEl : (E.map fun x => [D.v (.int .i64 x)]).length = E.length := by simp
   have h4'' : ¬ (IN.length : Int) > 4 := by omega
   refine PureC.of_body (tyOf_good _) Tryz.func24 rfl rfl (rs := [.tmp 4, .tmp 5]) Tryz.results24 (by simp [Tryz.ntmps24]) fun X => ?_; simp only [Tryz.ntmps24, List.map]
   have fw := @dNum.eq_1
   refine rgq fw [0,1] [] ?_; refine rgc fw hrd [1,6,7] [6] ?_; refine AW.imp (Imp.freezeB 6 trivial) ?_; refine AW.st (by simp [dNum]; rfl) ?_; refine AW_then fun K1 hK1 => ?_
   have qf := (Aq fw @h4'')
   refine rgcv hkd [1,6,28] [] ?_; refine AW_cond false (by simp <;> omega) (fun h => by cases h) (fun _ => ?_); refine AW_skip (hK1 _ ?_); refine rgq fw [1,6,8] [] ?_; refine rgq fw [1,6,8,9] [29] ?_; refine AW_then fun K2 hK2 => ?_; refine rgc fw hed [1,6,8,9,10,11] [29] ?_; refine AW_for (S := Nat) (fun j => j ≤ E.length) (fun j => ⟨lst [(1, int most), (6, .d (.ip [.sl none NN, .sl none RR])), (8, int 1), (9, .mp 29), (10, int j), (11, .d (.sl none (E.map fun x => [.v (.int .i64 x)])))], hlst [(29, .mp 181 (edE (E.take j)))]⟩) (fun j => E.length - j) 0 ?_ (by omega) ?_
   ·refine Imp.to' (fun _ _ => trivial) (by simp [dNum, edE]) (by simp [dNum, edE])
   ·intro j hj
    refine AW_then fun K3 hK3 => ?_
    by_cases hlt : j < E.length
    ·have hsn : edE (E.take (j + 1)) = entPut (.int .i64 E[j]) (.v (.bool true)) (edE (E.take j)) := by rw [List.take_succ_eq_append_getElem hlt, edE_snoc]
     have hkA := (edE_get 0 (E.take j)).1
     have hkB := hkA
     simp at hkB
     have hk1 := eq_true hkB
     have qf := (Aq fw @hlt)
     refine rgqv [1,6,8,9,10,11,35] [29] ?_; refine AW_cond true (by simp [hlt]) (fun _ => ?_) (fun h => by cases h); refine AW_skip (hK3 _ ?_); refine AW_then fun K4 hK4 => ?_; refine AW_block ?_
     have qf := (Aq fw (Aq @hlt (Aq @ofOk.eq_1 (Aq @zeroM.eq_1 (Aq @zeroM.eq_2 @hk1)))))
     refine reKv hK4 [1,6,8,9,10,11] [29] ?_; refine AW_re (tyOf_good _) fun K' hK' => ?_; (repeat (refine sxn fun K2 hK2 => ?_; simp [dNum]; (repeat (refine ⟨by omega, ?_⟩)); refine hK2 _ ?_; clear hK2 K2)); refine sxz (hK' _ ?_); clear hK' K'; (try simp only [thn, inb]); refine Again.mk (j + 1) (by omega) (by omega) ?_; rw [hsn]; refine Imp.to' (fun _ _ => trivial) (by simp [dNum]) (by simp [dNum])
    ·obtain rfl : j = E.length := by omega
     refine rgq fw [1,6,8,9,10,11,35] [29] ?_; refine AW_cond false (by simp) (fun h => by cases h) (fun _ => ?_); refine AW_exit (hK2 _ ?_)
     try rw [List.take_of_length_le (Nat.le_refl _)]
     have hlk : ∀ k (h : k < p.names.length), entGet (.int .i64 (k : Int)) (edE E) = if edB p p.names[k] = true then some (.v (.bool true)) else none := fun k h => by
      rw [(edE_get (k : Int) E).2]; simp only [hwm k h]
     have hkA := (edE_get 0 E).1
     generalize edE E = EE at hlk hkA ⊢
     have hkB := hkA
     simp at hkB
     have hk1 := eq_true hkB
     refine AW_then fun K5 hK5 => ?_; refine rgq fw [1,6,8,9,12] [29] ?_; refine AW_for (S := Nat) (fun k => k ≤ p.names.length) (fun k => ⟨lst [(1, int most), (6, .d (.ip [.sl none NN, .sl none RR])), (8, int (PN k)), (9, .mp 29), (12, int k)], hlst [(29, .mp 181 EE)]⟩) (fun k => p.names.length - k) 0 ?_ (by omega) ?_
     ·refine Imp.to' (fun _ _ => trivial) (by simp [dNum, hP0]) (by simp [dNum, hP0])
     ·intro k hkk
      have hPs2 := hPs k
      have hPm2 := hPm k hkk
      have hPp2 := hPp k hkk
      generalize hnv : PN k = n at hPs2 hPm2 hPp2 ⊢; refine AW_then fun K6 hK6 => ?_
      by_cases hgo : k < p.names.length ∧ n ≤ most
      ·obtain ⟨hlt, hle⟩ := hgo
       have hlt2 : k < NN.length := by omega
       have hlt3 : (k : Int) < (NN.length : Int) := by omega
       have qf := (Aq fw (Aq @hlt3 @hle))
       refine rgqv [1,6,8,9,12,52] [29] ?_; refine AW_cond true (by simp [hlt2, hle]) (fun _ => ?_) (fun h => by cases h); refine AW_skip (hK6 _ ?_); refine AW_then fun K7 hK7 => ?_; refine AW_block ?_
       have hlk2 := hlk k hlt
       have hPs3 := hPs2 hlt
       have hcn := hcnt _ (List.getElem_mem hlt)
       have hkd2 := hkn _ (List.getElem_mem hlt)
       have hNk : NN[k] = [.v (.string (bs p.names[k].name)), .v (.int .i64 p.names[k].kind), .v (.int .i64 p.names[k].count)] := by
        have := hNg k hlt
        rw [List.getElem?_eq_getElem hlt2] at this; exact Option.some.inj this
       generalize edB p p.names[k] = ev at *; unfold partOf at hPs3; generalize hnk : p.names[k] = nk at hPs3 hNk hcn hkd2
       obtain ⟨nm, kd, ct⟩ := nk
       dsimp only at hPs3 hNk hcn hkd2
       have qf := (Aq fw (Aq @hlt2 @hNk))
       refine rgqv [1,6,8,9,12,13] [29,13] ?_; refine AW.imp (Imp.freezeB 13 trivial) ?_; refine AW.st (by simp [dNum]; rfl) ?_; refine AW_block ?_
       by_cases k2 : kd = 2
       ·subst k2; rw [if_pos (.inl rfl)] at hPs3; simp only [prodP, Int.mul_one] at hPs3; refine rgq fw [1,6,8,9,12,13,60] [29] ?_; refine AW_tt rfl ?_; refine reK fw hK7 [1,6,8,9,12] [29] ?_; refine AW_re (tyOf_good _) fun K' hK' => ?_; (repeat (refine sxn fun K2 hK2 => ?_; simp [dNum]; (repeat (refine ⟨by omega, ?_⟩)); refine hK2 _ ?_; clear hK2 K2)); refine sxz (hK' _ ?_); clear hK' K'; (try simp only [thn, inb]); refine Again.mk (k + 1) (by omega) (by omega) ?_; rw [hPs3]; refine Imp.to' (fun _ _ => trivial) (by simp [dNum]) (by simp [dNum])
       ·by_cases k1 : kd = 1
        ·subst k1
         cases ev with
         | true =>
          rw [if_pos (.inr ⟨rfl, rfl⟩)] at hPs3; simp only [prodP, Int.mul_one] at hPs3; simp only [if_true] at hlk2
          have qf := (Aq fw (Aq @hlk2 (Aq @ofOk.eq_1 (Aq @zeroM.eq_1 (Aq @zeroM.eq_2 @hk1)))))
          refine rgqv [1,6,8,9,12,13,60] [29] ?_; refine AW_tt rfl ?_; refine reK fw hK7 [1,6,8,9,12] [29] ?_; refine AW_re (tyOf_good _) fun K' hK' => ?_; (repeat (refine sxn fun K2 hK2 => ?_; simp [dNum]; (repeat (refine ⟨by omega, ?_⟩)); refine hK2 _ ?_; clear hK2 K2)); refine sxz (hK' _ ?_); clear hK' K'; (try simp only [thn, inb]); refine Again.mk (k + 1) (by omega) (by omega) ?_; rw [hPs3]; refine Imp.to' (fun _ _ => trivial) (by simp [dNum]) (by simp [dNum])
         | false =>
          rw [if_neg (by simp), if_neg (by simp)] at hPs3; simp only [prodP, Int.mul_one] at hPs3; simp only [Bool.false_eq_true, if_false] at hlk2
          have qf := (Aq fw (Aq @hlk2 (Aq @ofOk.eq_1 (Aq @zeroM.eq_1 (Aq @zeroM.eq_2 @hk1)))))
          refine rgqv [1,6,8,9,12,13,60] [29] ?_; refine AW_ff rfl ?_; refine rgq fw [1,6,8,9,12,13,76] [29] ?_; refine AW_ff rfl ?_; refine AW_skip ?_; refine hK7 _ (AW.norm [1, 6, 8, 9, 12] [29] (fun _ _ => trivial) (AW.st (by simp [dNum]; rfl) ?_)); refine AW_re (tyOf_good _) fun K' hK' => ?_; (repeat (refine sxn fun K2 hK2 => ?_; simp [dNum]; (repeat (refine ⟨by omega, ?_⟩)); refine hK2 _ ?_; clear hK2 K2)); refine sxz (hK' _ ?_); clear hK' K'; (try simp only [thn, inb]); refine Again.mk (k + 1) (by omega) (by omega) ?_; rw [hPs3]; refine Imp.to' (fun _ _ => trivial) (by simp [dNum]) (by simp [dNum])
        ·rw [if_neg (by simp [k1, k2]), if_pos k1] at hPs3; simp only [prodP, Int.mul_one] at hPs3
         have hb1 : n * (ct + 1) ≤ 4096 * 8 := Int.mul_le_mul (by omega) (by omega) (by omega) (by omega)
         have hb0 : 0 ≤ n * (ct + 1) := Int.mul_nonneg (by omega) (by omega)
         have qf := (Aq fw (Aq @k1 @k2))
         refine rgqv [1,6,8,9,12,13,60] [29] ?_; refine AW_cond false (by simp [k1, k2]) (fun h => by cases h) (fun _ => ?_)
         have qf := (Aq fw @k1)
         refine rgqv [1,6,8,9,12,13,76] [29] ?_; refine AW_cond true (by simp [k1]) (fun _ => ?_) (fun h => by cases h); refine reK fw hK7 [1,6,8,9,12] [29] ?_; refine AW_re (tyOf_good _) fun K' hK' => ?_; (repeat (refine sxn fun K2 hK2 => ?_; simp [dNum]; (repeat (refine ⟨by omega, ?_⟩)); refine hK2 _ ?_; clear hK2 K2)); refine sxz (hK' _ ?_); clear hK' K'; (try simp only [thn, inb]); refine Again.mk (k + 1) (by omega) (by omega) ?_; rw [hPs3]; refine Imp.to' (fun _ _ => trivial) (by simp [dNum]) (by simp [dNum])
      ·rcases hres with ⟨hb, hR⟩ | ⟨hb, hR⟩
       ·have hgt : n > most := by
         by_cases hlt : k < p.names.length
         ·exact Classical.byContradiction fun hn => hgo ⟨hlt, by omega⟩
         ·obtain rfl : k = p.names.length := by omega
          omega
        subst hR
        have hngo : ¬ n ≤ most := by omega
        by_cases hlt : k < p.names.length
        ·have hlt3 : (k : Int) < (NN.length : Int) := by omega
         have qf := (Aq fw (Aq @hlt3 @hngo))
         refine rgqv [1,6,8,9,12,52] [29] ?_; refine AW_cond false (by simp <;> omega) (fun h => by cases h) (fun _ => ?_); refine AW_exit (hK5 _ ?_); refine AW_then fun K8 hK8 => ?_
         have qf := (Aq fw @hgt)
         refine rgqv [6,87] [29] ?_; refine AW_cond true (by simp <;> omega) (fun _ => ?_) (fun h => by cases h); refine rgq fw [4,5] [29] ?_; refine AW_ret ?_; simp [D.le, D.le.go, takeMap, dNum]
        ·have hlt3 : ¬ (k : Int) < (NN.length : Int) := by omega
         have qf := (Aq fw @hlt3)
         refine rgqv [1,6,8,9,12,52] [29] ?_; refine AW_cond false (by simp <;> omega) (fun h => by cases h) (fun _ => ?_); refine AW_exit (hK5 _ ?_); refine AW_then fun K8 hK8 => ?_
         have qf := (Aq fw @hgt)
         refine rgqv [6,87] [29] ?_; refine AW_cond true (by simp <;> omega) (fun _ => ?_) (fun h => by cases h); refine rgq fw [4,5] [29] ?_; refine AW_ret ?_; simp [D.le, D.le.go, takeMap, dNum]
       ·have hng : ¬ n > most := by omega
        have hof2 := hof (by omega)
        subst hR
        have hlt3 : ¬ (k : Int) < (NN.length : Int) := fun h => hgo ⟨by omega, by omega⟩
        have qf := (Aq fw @hlt3)
        refine rgqv [1,6,8,9,12,52] [29] ?_; refine AW_cond false (by simp <;> omega) (fun h => by cases h) (fun _ => ?_); refine AW_exit (hK5 _ ?_); refine AW_then fun K8 hK8 => ?_
        have qf := (Aq fw @hng)
        refine rgqv [6,87] [29] ?_; refine AW_cond false (by simp <;> omega) (fun h => by cases h) (fun _ => ?_); refine AW_skip (hK8 _ ?_); refine rgc fw hof2 [14,15] [29] ?_; refine rgq fw [4,5] [29] ?_; refine AW_ret ?_; simp [D.le, D.le.go, takeMap, dNum, D.le_refl, D.leGo_refl]
end Go.Proofs.YtpboiimemmfkiaaGreatDoor
namespace Go.Proofs.YtpboiimemmfkiaaGreatDoor
open Go.Av
def pkF (a : Int) (n : Nat) : Nat := ((IntKind.u64.wrap a).tmod (n : Int)).toNat
theorem wrapU0 (a : Int) : IntKind.u64.wrap a = a % 18446744073709551616 := by
 simp [IntKind.wrap, IntKind.signed, IntKind.bits]
theorem pkF_is (a : Int) {n : Nat} (hn : 0 < n) : ((IntKind.u64.wrap a).tmod (n : Int)) = (pkF a n : Int) ∧ pkF a n < n := by
 have h0 : 0 ≤ IntKind.u64.wrap a := by rw [wrapU0]; omega
 have h1 : 0 ≤ (IntKind.u64.wrap a).tmod (n : Int) := Int.tmod_nonneg _ h0
 have h2 : (IntKind.u64.wrap a).tmod (n : Int) < n := Int.tmod_lt_of_pos _ (by omega)
 unfold pkF
 constructor <;> omega
set_option maxHeartbeats 4000000 in
theorem pk_spec (G : Glob) (a : Int) (n : Nat) (hn : 0 < n) (hn2 : n < 2^40) : PureC Tryz.prog G 29 [dNum a, dNum n] (dNum (pkF a n)) := by
 obtain ⟨h1, h2⟩ := pkF_is a hn
 have hw : IntKind.u64.wrap (n : Int) = n := by rw [wrapU0]; omega
 have hn0 : ¬ n = 0 := by omega
 generalize pkF a n = w at h1 h2 ⊢; simp only [dNum]; refine PureC.of_body (tyOf_good _) Tryz.func29 rfl rfl (rs := [.tmp 4]) Tryz.results29 (by simp [Tryz.ntmps29]) fun X => ?_; simp only [Tryz.ntmps29, List.map]; refine rg0 [0,1] [] ?_
 have qf := (Aq @hw (Aq @h1 @hn0))
 refine rgqv [4] [] ?_; refine AW_ret ?_; simp [D.le, D.le.go, takeMap]
theorem and1_any (y : Int) : (bitsI .and .i64 y 1 == 1) = decide (y % 2 = 1) := by
 unfold bitsI
 dsimp only
 have h2 : (BitVec.ofInt 64 (1 : Int)).toNat = 1 := by decide
 have h3 : (BitVec.ofInt IntKind.i64.bits y &&& BitVec.ofInt IntKind.i64.bits (1 : Int)).toNat = (y % 2).toNat := by
  show (BitVec.ofInt 64 y &&& BitVec.ofInt 64 (1 : Int)).toNat = (y % 2).toNat
  rw [BitVec.toNat_and, h2, Nat.and_one_is_mod, BitVec.toNat_ofInt]
  omega
 rw [h3]
 have : y % 2 = 0 ∨ y % 2 = 1 := by omega
 rcases this with h | h <;> rw [h] <;> decide
theorem inB_is (x : Int) {k : Nat} (hk : k ≤ 6) : inB x k = decide ((x / 2 ^ k) % 2 = 1) := by
 unfold inB
 have e : min k IntKind.i64.bits = k := by
  have : IntKind.i64.bits = 64 := rfl
  rw [this]; omega
 rw [e, Int.fdiv_eq_ediv_of_nonneg _ (by exact Int.le_of_lt (Int.pow_pos (by decide))), and1_any]
theorem inB_pick (a : Int) {m k : Nat} (hm : m ≤ 6) (hk : k < m) : inB (pkF a (2 ^ m) : Int) k = inB a k := by
 have h1 := (pkF_is a (n := 2 ^ m) (Nat.pow_pos (by decide))).1
 rw [wrapU0] at h1; rw [inB_is _ (by omega), inB_is _ (by omega)]
 have h0 : 0 ≤ a % 18446744073709551616 := by omega
 rw [Int.tmod_eq_emod_of_nonneg h0] at h1; generalize (pkF a (2 ^ m) : Int) = w at h1 ⊢
 congr 1
 have e : (w / 2 ^ k) % 2 = (a / 2 ^ k) % 2 := by
  have hm' : m = 1 ∨ m = 2 ∨ m = 3 ∨ m = 4 ∨ m = 5 ∨ m = 6 := by omega
  rcases hm' with rfl | rfl | rfl | rfl | rfl | rfl
  ·obtain rfl : k = 0 := by omega
   simp only [Int.pow_zero, Int.ediv_one] at *; simp at h1; omega
  ·have : k = 0 ∨ k = 1 := by omega
   rcases this with rfl | rfl <;> simp at h1 ⊢ <;> omega
  ·have : k = 0 ∨ k = 1 ∨ k = 2 := by omega
   rcases this with rfl | rfl | rfl <;> simp at h1 ⊢ <;> omega
  ·have : k = 0 ∨ k = 1 ∨ k = 2 ∨ k = 3 := by omega
   rcases this with rfl | rfl | rfl | rfl <;> simp at h1 ⊢ <;> omega
  ·have : k = 0 ∨ k = 1 ∨ k = 2 ∨ k = 3 ∨ k = 4 := by omega
   rcases this with rfl | rfl | rfl | rfl | rfl <;> simp at h1 ⊢ <;> omega
  ·have : k = 0 ∨ k = 1 ∨ k = 2 ∨ k = 3 ∨ k = 4 ∨ k = 5 := by omega
   rcases this with rfl | rfl | rfl | rfl | rfl | rfl <;> simp at h1 ⊢ <;> omega
 rw [e]
theorem inBs_pick (a : Int) {m : Nat} (hm : m ≤ 6) : ∀ k, k ≤ m → inBs (pkF a (2 ^ m) : Int) k = inBs a k
 | 0, _ => rfl
 | k + 1, hk => by rw [inBs, inBs, inBs_pick a hm k (by omega), inB_pick a hm (by omega)]
theorem fix_read : readP fixT = some fixP := by unfold readP; rw [if_neg (by decide), fix_parse]
theorem fix_next : nextP fixP = [[0, 1], [1, 1]] := by kernel_rfl
theorem fix_prod : prodP (partsP fixP) = 2 := by kernel_rfl
theorem fix_inl : (inputP fixP).length = 1 := by kernel_rfl
theorem fix_made {most : Int} (h : 2 ≤ most) : madeP fixT most = some fixP := by
 unfold madeP; rw [fix_read]; simp only [fix_inl, fix_prod]; rw [if_neg (by omega)]
set_option maxRecDepth 100000 in
set_option maxHeartbeats 8000000 in
theorem machined_spec (G : Glob) (hM : HasMax G) (hP : HasP10 G) (hG : HasErr G) {es er : Value} (hE : HasNE G es er) : PureC Tryz.prog G 25 [] (.v (.bool true)) := by
 have hmd := made_spec G hM hP hG hE fixT 9 (by decide) (by decide)
 rw [fix_made (by decide)] at hmd
 have s1 := sameInts_spec G none none [0, 1] [0, 1] (by decide)
 have s2 := sameInts_spec G none none [1, 1] [1, 1] (by decide)
 simp only [dMade, dMc, dMa, cMa, fix_prod, inN, fix_inl, fix_next, nxD, dNms, dRgs, dPas, dIl, dInts, List.map, dS, dNum] at hmd s1 s2; generalize fixP.names.map cNm = NN at *; generalize fixP.rungs.map cRg = RR at *; generalize (partsP fixP).map cPa = PT at *; generalize (inputP fixP).map (fun n => [D.v (.int .i64 n)]) = IN at *
 have hfb := fix_bs
 generalize bs fixT = FT at *; refine PureC.of_body (tyOf_good _) Tryz.func25 rfl rfl (rs := [.tmp 0]) Tryz.results25 (by simp [Tryz.ntmps25]) fun X => ?_; simp only [Tryz.ntmps25, List.map]; refine rg0 [] [] ?_
 have qf := @hfb
 refine rgcv hmd [1,2] [] ?_; refine rg [0] [] (fun _ _ => trivial) fun K' hK' => ?_; (repeat (refine sxn fun K2 hK2 => ?_; simp; (repeat (refine ⟨by omega, ?_⟩)); refine hK2 _ ?_; clear hK2 K2)); refine sxn fun K2 hK2 => ?_; simp; refine callK.lend (s1) (by simp; rfl) (by first | exact D.leGo_refl _ | simp [takeMap, List.map_map, Function.comp_def, D.le, D.le.go, D.le_refl, D.leGo_refl]) (by simp [D.scalar]) ?_; refine hK2 _ ?_; clear hK2 K2; simp only [putd, upd_lst]; (repeat (refine sxn fun K2 hK2 => ?_; simp; (repeat (refine ⟨by omega, ?_⟩)); refine hK2 _ ?_; clear hK2 K2)); refine sxn fun K2 hK2 => ?_; simp; refine callK.lend (s2) (by simp; rfl) (by first | exact D.leGo_refl _ | simp [takeMap, List.map_map, Function.comp_def, D.le, D.le.go, D.le_refl, D.leGo_refl]) (by simp [D.scalar]) ?_; refine hK2 _ ?_; clear hK2 K2; simp only [putd, upd_lst]; (repeat (refine sxn fun K2 hK2 => ?_; simp; (repeat (refine ⟨by omega, ?_⟩)); refine hK2 _ ?_; clear hK2 K2)); refine sxz (hK' _ (AW.st (by simp; rfl) ?_)); clear hK' K'; refine AW_ret ?_; simp [D.le, D.le.go, takeMap]
def bhP (p : PgP) (l : List Int) (i : Nat) : StP := behindP p (startP p) (inputsF l (inputP p).length) i
def nuP (p : PgP) (l : List Int) (i : Nat) : Nat := (nrP (partsP p) (bhP p l i)).toNat
theorem bh_inv {p : PgP} (hck : checkP p = none) (l : List Int) {i : Nat} (hi : i ≤ l.length) : InvS p (bhP p l i) := behind_inv hck _ i (by rw [inputsF_len]; omega)
theorem nu_is {p : PgP} (hck : checkP p = none) (l : List Int) {i : Nat} (hi : i ≤ l.length) : nrP (partsP p) (bhP p l i) = (nuP p l i : Int) ∧ (nuP p l i : Int) < prodP (partsP p) := by
 have h := nr_lt hck (bh_inv hck l hi)
 unfold nuP
 omega
theorem nr_start {p : PgP} : ∀ L : List PtP, nrP L (startP p) = 0
 | [] => rfl
 | x :: L => by
  rw [nrP, nr_start L]
  have : digP x (startP p) = 0 := by
   unfold digP startP; rw [getD_rep, getD_rep]
   split <;> simp
  rw [this]; simp
theorem bh_step {p : PgP} (hck : checkP p = none) (hk : ∀ r ∈ p.rungs, CondOk r) (hi6 : (inputP p).length ≤ 6) (l : List Int) {i : Nat} (h : i < l.length) : doP p (stP p (nuP p l i)) (inBs (pkF l[i] (inN p) : Int) (inputP p).length) = bhP p l (i + 1) := by
 rw [← (nu_is hck l (i := i) (by omega)).1, next_step hck hk (bh_inv hck l (by omega))]; unfold bhP; rw [behind_succ _ _ (by rw [inputsF_len]; exact h)]
 congr 1
 unfold inN; rw [inBs_pick _ hi6 _ (Nat.le_refl _)]; simp [inputsF]
theorem nx_at {p : PgP} {s i : Nat} (h1 : (s : Int) < prodP (partsP p)) (h2 : i < inN p) : ∃ R : List Int, (nxD (nextP p))[s]? = some [dIl R] ∧ R[i]? = some (nrP (partsP p) (doP p (stP p s) (inBs i (inputP p).length))) := by
 have hs : s < (nextP p).length := by rw [nextP_len]; omega
 refine ⟨rowP p (inputP p).length s, by simp [nxD, hs, nextP_at hs], ?_⟩
 have hi : i < (rowP p (inputP p).length s).length := by rw [rowP_len]; exact h2
 rw [List.getElem?_eq_getElem hi, rowP_at]
theorem inN_pos (p : PgP) : 0 < inN p := Nat.pow_pos (by decide)
theorem inN_le {p : PgP} (h : (inputP p).length ≤ 4) : inN p ≤ 16 := Nat.pow_le_pow_right (n := 2) (by decide) h
theorem plays_step (G : Glob) {p : PgP} (hck : checkP p = none) (hk : ∀ r ∈ p.rungs, CondOk r) (hi4 : (inputP p).length ≤ 4) (hP : prodP (partsP p) ≤ 4096) (l : List Int) {i : Nat} (h : i < l.length) :
  ∃ (w : Nat) (R : List Int) (st : StP), w < inN p ∧ PureC Tryz.prog G 29 [dNum l[i], dNum (inN p)] (dNum w) ∧
   PureC Tryz.prog G 30 [dMc p, dNum (nuP p l i), dNum w] (.tup [dBl (bhP p l (i + 1)).is, .v .nilIface]) ∧
   (nxD (nextP p))[nuP p l i]? = some [dIl R] ∧ R[w]? = some (nuP p l (i + 1) : Int) ∧
   PureC Tryz.prog G 32 [dMc p, dSt (bhP p l (i + 1))] (dNum (nuP p l (i + 1))) ∧
   PureC Tryz.prog G 33 [dMc p, dNum (nuP p l (i + 1))] (dSt st) ∧
   PureC Tryz.prog G 32 [dMc p, dSt st] (dNum (nuP p l (i + 1))) := by
 have hw := (pkF_is l[i] (inN_pos p)).2
 have h1 := nu_is hck l (i := i) (by omega)
 have h2 := nu_is hck l (i := i + 1) (by omega)
 have hb := bh_step hck hk (by omega) l h
 have hse := sees_good G p hck hk (nuP p l i) (pkF l[i] (inN p)) hP h1.2 hw
 obtain ⟨R, hR1, hR2⟩ := nx_at h1.2 hw
 rw [hb] at hse hR2; rw [h2.1] at hR2
 have hn1 := mnumber_spec G p hck (prodP (partsP p)) ((inN p : Nat) : Int) (nxD (nextP p)) _ (bh_inv hck l (i := i + 1) (by omega)) hP
 rw [h2.1] at hn1
 have hn2 := mnumber_spec G p hck (prodP (partsP p)) ((inN p : Nat) : Int) (nxD (nextP p)) _ (stP_inv hck (nuP p l (i + 1))) hP
 rw [nr_stP hck (by omega) h2.2] at hn2; exact ⟨_, R, _, hw, pk_spec G l[i] (inN p) (inN_pos p) (by have := inN_le hi4; omega), hse, hR1, hR2, hn1, mstate_spec G p hck _ _ _ _ (by omega) (by omega), hn2⟩
set_option maxRecDepth 100000 in
set_option maxHeartbeats 16000000 in
theorem mplays_law (G : Glob) (hM : HasMax G) (hP : HasP10 G) (hG : HasErr G) {es er : Value} (hE : HasNE G es er) (t : Tx) (l : List Int) : PureC Tryz.prog G 4 [dS t, dIl l] (.v (.bool true)) := by
 have hmd := made_spec G hM hP hG hE t 300 (by decide) (by decide)
 have hmc := machined_spec G hM hP hG hE
 have hLl : (l.map fun n => [D.v (.int .i64 n)]).length = l.length := by simp
 cases hma : madeP t 300 with
 | none =>
  rw [hma] at hmd; simp only [dMade, dS, dIl, dNum] at hmd ⊢; generalize (l.map fun n => [D.v (.int .i64 n)]) = LL at *; refine PureC.of_body (tyOf_good _) Tryz.func4 rfl rfl (rs := [.tmp 4]) Tryz.results4 (by simp [Tryz.ntmps4]) fun X => ?_; simp only [Tryz.ntmps4, List.map]; refine rg0 [0,1] [] ?_; refine rgc trivial hmd [1,5,6] [] ?_; refine AW_then fun K1 hK1 => ?_; refine rg0 [1,5,26] [] ?_; refine AW_tt rfl ?_; refine rgc trivial hmc [4] [] ?_; refine AW_ret ?_; simp [D.le, D.le.go, takeMap]
 | some p =>
  rw [hma] at hmd
  obtain ⟨hck, hk, hi4, hPr⟩ := madeP_some hma
  by_cases h40 : (l.length : Int) > 40
  ·have hdc : ∃ c, dMc p = .ip c := ⟨_, rfl⟩
   obtain ⟨MC, hMC⟩ := hdc
   simp only [dMade, dS, dIl, dNum, hMC] at hmd ⊢; generalize (l.map fun n => [D.v (.int .i64 n)]) = LL at *
   have h40' : (LL.length : Int) > 40 := by omega
   refine PureC.of_body (tyOf_good _) Tryz.func4 rfl rfl (rs := [.tmp 4]) Tryz.results4 (by simp [Tryz.ntmps4]) fun X => ?_; simp only [Tryz.ntmps4, List.map]; refine rg0 [0,1] [] ?_; refine rgc trivial hmd [1,5,6] [] ?_; refine AW_then fun K1 hK1 => ?_
   have qf := @h40'
   refine rgqv [1,5,26] [] ?_; refine AW_cond true (by simp <;> omega) (fun _ => ?_) (fun h => by cases h); refine rgc trivial hmc [4] [] ?_; refine AW_ret ?_; simp [D.le, D.le.go, takeMap]
  have hnm := (checkP_good hck).names
  have hkd := lkind_spec G p (by omega) 1
  have hkI : kindN p.names 1 p.names.length = inputP p := rfl
  rw [hkI] at hkd
  have hin := kinputs_spec G l (inputP p).length (by omega) (by omega)
  have hpl := play_good G p hck hk (inputsF l (inputP p).length) (by rw [inputsF_len]; omega) inputsF_each
  have hPLl := playP_len p (startP p) (inputsF l (inputP p).length)
  rw [inputsF_len] at hPLl
  have hPLg : ∀ i (h : i < (playP p (startP p) (inputsF l (inputP p).length)).length), (playP p (startP p) (inputsF l (inputP p).length))[i] = bhP p l (i + 1) := fun i h => playP_get _ _ _ _ h
  have hst := start_spec G p (by omega)
  have hs0 := mnumber_spec G p hck (prodP (partsP p)) ((inN p : Nat) : Int) (nxD (nextP p)) _ (start_inv (checkP_good hck)) (by omega)
  rw [nr_start] at hs0
  have hn0 : nuP p l 0 = 0 := by
   have : nrP (partsP p) (bhP p l 0) = 0 := nr_start _
   unfold nuP; rw [this]; rfl
  have hround := fun i (h : i < l.length) => plays_step G hck hk hi4 (by omega) l h
  have hBl : ∀ i, i ≤ l.length → (bhP p l i).is.length < 2^63 := fun i hi => by rw [(bh_inv hck l hi).l1]; omega
  have hsame := fun (a : List Bool) (h : a.length < 2^63) => sameBools_spec G a a h
  obtain ⟨B, hB⟩ : ∃ B : Nat → StP, ∀ i, bhP p l i = B i := ⟨_, fun _ => rfl⟩
  simp only [hB] at hround hBl hPLg; clear hB; generalize hNU : nuP p l = NU at *; generalize startP p = ST at *; generalize playP p ST (inputsF l (inputP p).length) = PL at *; generalize inputsF l (inputP p).length = INS at *; simp only [dMc, dMade, dMa, cMa, dPg, cPg, dNms, dRgs, dPas, dNum, dBls, dBl, dIl, dSt, cSts, dBs, dS, cSt] at hmd hkd hin hpl hst hsame hs0 hround ⊢; generalize nxD (nextP p) = NX at *; generalize prodP (partsP p) = PP at *; generalize inN p = NI at *
  have hKl : ((inputP p).map fun x => [D.v (.int .i64 x)]).length = (inputP p).length := by simp
  generalize (inputP p).length = m at *; generalize ((inputP p).map fun x => [D.v (.int .i64 x)]) = KI at *; generalize (partsP p).map cPa = PT at *; generalize p.names.map cNm = NN at *; generalize p.rungs.map cRg = RR at *
  have hPl : (PL.map fun s : StP => [D.sl none (s.is.map fun b => [.v (.bool b)]), D.sl none (s.ct.map fun n => [.v (.int .i64 n)])]).length = l.length := by simp; omega
  have hPg : ∀ i (h : i < PL.length), (PL.map fun s : StP => [D.sl none (s.is.map fun b => [.v (.bool b)]), D.sl none (s.ct.map fun n => [.v (.int .i64 n)])])[i]? = some [D.sl none ((B (i + 1)).is.map fun b => [.v (.bool b)]), D.sl none ((B (i + 1)).ct.map fun n => [.v (.int .i64 n)])] := fun i h => by
   have := hPLg i h
   simp [h, this]
  have hcs : cSt = fun s : StP => [D.sl none (s.is.map fun b => [.v (.bool b)]), D.sl none (s.ct.map fun n => [.v (.int .i64 n)])] := rfl
  try rw [hcs] at hpl
  generalize (PL.map fun s : StP => [D.sl none (s.is.map fun b => [.v (.bool b)]), D.sl none (s.ct.map fun n => [.v (.int .i64 n)])]) = PD at *; generalize (INS.map fun x => [D.sl none (x.map fun b => [D.v (.bool b)])]) = ID at *
  have hLg : ∀ i (h : i < l.length), (l.map fun n => [D.v (.int .i64 n)])[i]? = some [.v (.int .i64 l[i])] := fun i h => by simp [h]
  generalize (l.map fun n => [D.v (.int .i64 n)]) = LL at *
  have h40' : ¬ (LL.length : Int) > 40 := by omega
  have hPD : PD.length = LL.length := by omega
  refine PureC.of_body (tyOf_good _) Tryz.func4 rfl rfl (rs := [.tmp 4]) Tryz.results4 (by simp [Tryz.ntmps4]) fun X => ?_; simp only [Tryz.ntmps4, List.map]
  have fw := @dNum.eq_1
  refine rgq fw [0,1] [] ?_; refine rgc fw hmd [1,5,6] [] ?_; refine AW_then fun K1 hK1 => ?_
  have qf := (Aq fw @h40')
  refine rgqv [1,5,26] [] ?_; refine AW_cond false (by simp <;> omega) (fun h => by cases h) (fun _ => ?_); refine AW_skip (hK1 _ ?_); refine rgq fw [1,5,7] [7] ?_; refine AW.imp (Imp.freezeB 7 trivial) ?_; refine AW.st (by simp [dNum]; rfl) ?_; refine AW_rd (tyOf_good _) (by kernel_rfl) [1, 5, 7, 8, 9] [] (fun _ _ => trivial) (by kernel_rfl) fun K' hK' => ?_; (repeat (refine sxd_next fun K2 hK2 => ?_; simp [dNum, hKl]; (repeat (refine ⟨by omega, ?_⟩)); refine hK2 _ ?_; clear hK2 K2)); refine sxd_next fun K2 hK2 => ?_; simp [dNum, hKl]; refine callQ.data (hkd) (by simp; rfl) (by simp; rfl) (by first | exact D.leGo_refl _ | simp [takeMap, List.map_map, Function.comp_def, D.le, D.le.go, D.le_refl, D.leGo_refl, dNum, hKl]) ?_; refine hK2 _ ?_; clear hK2 K2; simp only [putd, upd_lst]; (repeat (refine sxd_next fun K2 hK2 => ?_; simp [dNum, hKl]; (repeat (refine ⟨by omega, ?_⟩)); refine hK2 _ ?_; clear hK2 K2)); refine sxd_next fun K2 hK2 => ?_; simp [dNum, hKl]; refine callQ.data (hin) (by simp; rfl) (by simp; rfl) (by first | exact D.leGo_refl _ | simp [takeMap, List.map_map, Function.comp_def, D.le, D.le.go, D.le_refl, D.leGo_refl, dNum, hKl]) ?_; refine hK2 _ ?_; clear hK2 K2; simp only [putd, upd_lst]; (repeat (refine sxd_next fun K2 hK2 => ?_; simp [dNum, hKl]; (repeat (refine ⟨by omega, ?_⟩)); refine hK2 _ ?_; clear hK2 K2)); refine sxd_next fun K2 hK2 => ?_; simp [dNum, hKl]; refine callQ.data (hpl) (by simp; rfl) (by simp; rfl) (by first | exact D.leGo_refl _ | simp [takeMap, List.map_map, Function.comp_def, D.le, D.le.go, D.le_refl, D.leGo_refl, dNum, hKl]) ?_; refine hK2 _ ?_; clear hK2 K2; simp only [putd, upd_lst]; (repeat (refine sxd_next fun K2 hK2 => ?_; simp [dNum, hKl]; (repeat (refine ⟨by omega, ?_⟩)); refine hK2 _ ?_; clear hK2 K2)); refine sxd_nil (hK' _ ?_); refine AW.st (by simp [dNum, hKl]; rfl) ?_; clear hK' K'; refine AW_then fun K2 hK2 => ?_
  have qf := (Aq fw @hPD)
  refine rgcv hmc [1,5,7,8,54] [] ?_; refine AW_ff rfl ?_; refine AW_skip (hK2 _ ?_); refine rgq fw [1,5,7,8,10] [] ?_; refine AW_then fun K3 hK3 => ?_; refine rgq fw [1,5,7,8,10,11] [] ?_; refine AW_for (S := Nat) (fun i => i ≤ l.length) (fun i => ⟨lst [(1, .d (.sl none LL)), (5, .d (.ip [.sl none NN, .sl none RR, .v (.int .i64 PP), .v (.int .i64 NI), .sl none NX, .sl none PT, .sl none KI])), (7, .d (.ip [.sl none NN, .sl none RR])), (8, .d (.sl none PD)), (10, int (NU i)), (11, int i)], hlst []⟩) (fun i => l.length - i) 0 ?_ (by omega) ?_
  ·refine Imp.to' (fun _ _ => trivial) (by simp [dNum, hn0]) (by simp [dNum, hn0])
  ·intro i hi
   refine AW_then fun K4 hK4 => ?_
   by_cases hlt : i < l.length
   ·have hlt2 : i < LL.length := by omega
    have hlt3 : (i : Int) < (LL.length : Int) := by omega
    have qf := (Aq fw @hlt3)
    refine rgqv [1,5,7,8,10,11,58] [] ?_; refine AW_cond true (by simp <;> omega) (fun _ => ?_) (fun h => by cases h); refine AW_skip (hK4 _ ?_); refine AW_then fun K5 hK5 => ?_; refine AW_block ?_
    obtain ⟨w, R, st, hwl, hpk, hse, hX1, hR1, hn1, hs1, hn2⟩ := hround i hlt
    have hsm := hsame _ (hBl (i + 1) (by omega))
    have hLi : LL[i] = [.v (.int .i64 l[i])] := by
     have := hLg i hlt
     rw [List.getElem?_eq_getElem hlt2] at this; exact Option.some.inj this
    have hlp : i < PD.length := by omega
    have hPi : PD[i] = [D.sl none ((B (i + 1)).is.map fun b => [.v (.bool b)]), D.sl none ((B (i + 1)).ct.map fun n => [.v (.int .i64 n)])] := by
     have := hPg i (by omega)
     rw [List.getElem?_eq_getElem hlp] at this; exact Option.some.inj this
    obtain ⟨hX0, hX1⟩ := List.getElem?_eq_some_iff.1 hX1
    obtain ⟨hR0, hR1⟩ := List.getElem?_eq_some_iff.1 hR1
    generalize l[i] = x at hpk hLi; generalize NU i = s at *; generalize hs2 : NU (i + 1) = s2 at *; generalize B (i + 1) = b at *
    obtain ⟨BI, BC⟩ := b
    obtain ⟨TI, TC⟩ := st
    dsimp only at hse hsm hPi hn1 hs1 hn2
    simp only [beq_self_eq_true] at hsm
    have qf := (Aq fw (Aq @hlt2 @hLi))
    refine rdcv hpk [1,5,7,8,10,11,12] [] ?_; refine rgc fw hse [1,5,7,8,10,11,12,13,14] [] ?_; refine AW_then fun K6 hK6 => ?_
    have qf := (Aq fw (Aq @hlp @hPi))
    refine rgcv hsm [1,5,7,8,10,11,12,88] [] ?_; refine AW_ff rfl ?_; refine AW_skip (hK6 _ ?_)
    have qf := (Aq fw (Aq @hX0 (Aq @hX1 (Aq @hR0 @hR1))))
    refine rgqv [1,5,7,8,10,11] [] ?_; refine rg [1, 5, 7, 8, 10, 11, 115] [] (fun _ _ => trivial) fun K' hK' => ?_; (repeat (refine sxn fun K2 hK2 => ?_; simp [dNum, hlp, hPi]; (repeat (refine ⟨by omega, ?_⟩)); refine hK2 _ ?_; clear hK2 K2)); refine sxn fun K2 hK2 => ?_; simp [dNum, hlp, hPi]; refine callK.data (hn1) (by simp; rfl) (by first | exact D.leGo_refl _ | simp [takeMap, List.map_map, Function.comp_def, D.le, D.le.go, D.le_refl, D.leGo_refl, dNum, hlp, hPi]) ?_; refine hK2 _ ?_; clear hK2 K2; simp only [putd, upd_lst]; (repeat (refine sxn fun K2 hK2 => ?_; simp [dNum, hlp, hPi]; (repeat (refine ⟨by omega, ?_⟩)); refine hK2 _ ?_; clear hK2 K2)); refine sxn fun K2 hK2 => ?_; simp [dNum, hlp, hPi]; refine callK.data (hs1) (by simp; rfl) (by first | exact D.leGo_refl _ | simp [takeMap, List.map_map, Function.comp_def, D.le, D.le.go, D.le_refl, D.leGo_refl, dNum, hlp, hPi]) ?_; refine hK2 _ ?_; clear hK2 K2; simp only [putd, upd_lst]; (repeat (refine sxn fun K2 hK2 => ?_; simp [dNum, hlp, hPi]; (repeat (refine ⟨by omega, ?_⟩)); refine hK2 _ ?_; clear hK2 K2)); refine sxn fun K2 hK2 => ?_; simp [dNum, hlp, hPi]; refine callK.data (hn2) (by simp; rfl) (by first | exact D.leGo_refl _ | simp [takeMap, List.map_map, Function.comp_def, D.le, D.le.go, D.le_refl, D.leGo_refl, dNum, hlp, hPi]) ?_; refine hK2 _ ?_; clear hK2 K2; simp only [putd, upd_lst]; (repeat (refine sxn fun K2 hK2 => ?_; simp [dNum, hlp, hPi]; (repeat (refine ⟨by omega, ?_⟩)); refine hK2 _ ?_; clear hK2 K2)); refine sxz (hK' _ (AW.st (by simp [dNum, hlp, hPi]; rfl) ?_)); clear hK' K'; refine AW_ff rfl ?_; refine AW_skip (hK5 _ ?_); refine AW_re (tyOf_good _) fun K' hK' => ?_; (repeat (refine sxn fun K2 hK2 => ?_; simp [dNum]; (repeat (refine ⟨by omega, ?_⟩)); refine hK2 _ ?_; clear hK2 K2)); refine sxz (hK' _ ?_); clear hK' K'; (try simp only [thn, inb]); refine Again.mk (i + 1) (by omega) (by omega) ?_; rw [hs2]; refine Imp.to' (fun _ _ => trivial) (by simp [dNum]) (by simp [dNum])
   ·have hlt3 : ¬ (i : Int) < (LL.length : Int) := by omega
    have qf := (Aq fw @hlt3)
    refine rgqv [1,5,7,8,10,11,58] [] ?_; refine AW_cond false (by simp <;> omega) (fun h => by cases h) (fun _ => ?_); refine AW_exit (hK3 _ ?_); refine rg [4] [] (fun _ _ => trivial) fun K' hK' => ?_; (repeat (refine sxn fun K2 hK2 => ?_; simp [dNum]; (repeat (refine ⟨by omega, ?_⟩)); refine hK2 _ ?_; clear hK2 K2)); refine sxn fun K2 hK2 => ?_; simp [dNum]; refine callK.data (hst) (by simp; rfl) (by first | exact D.leGo_refl _ | simp [takeMap, List.map_map, Function.comp_def, D.le, D.le.go, D.le_refl, D.leGo_refl, dNum]) ?_; refine hK2 _ ?_; clear hK2 K2; simp only [putd, upd_lst]; (repeat (refine sxn fun K2 hK2 => ?_; simp [dNum]; (repeat (refine ⟨by omega, ?_⟩)); refine hK2 _ ?_; clear hK2 K2)); refine sxn fun K2 hK2 => ?_; simp [dNum]; refine callK.data (hs0) (by simp; rfl) (by first | exact D.leGo_refl _ | simp [takeMap, List.map_map, Function.comp_def, D.le, D.le.go, D.le_refl, D.leGo_refl, dNum]) ?_; refine hK2 _ ?_; clear hK2 K2; simp only [putd, upd_lst]; (repeat (refine sxn fun K2 hK2 => ?_; simp [dNum]; (repeat (refine ⟨by omega, ?_⟩)); refine hK2 _ ?_; clear hK2 K2)); refine sxz (hK' _ (AW.st (by simp [dNum]; rfl) ?_)); clear hK' K'; refine AW_ret ?_; simp [D.le, D.le.go, takeMap, dNum]
end Go.Proofs.YtpboiimemmfkiaaGreatDoor
namespace Go.Proofs.YtpboiimemmfkiaaGreatDoor
def sg (t : Tab) (k : Nat) : List (List Int) := (List.range t.n).map (sig t (iter t k))
def bn (t : Tab) (k s : Nat) : Nat := dn (sg t k) s
end Go.Proofs.YtpboiimemmfkiaaGreatDoor
namespace Go.Proofs.YtpboiimemmfkiaaGreatDoor
open Go.Av Go.ChangeShapes Go.WideShapes Go.ChangeAt Go.RowKit
theorem law_own : ownKnob Tryz.prog.godebug = none := by kernel_rfl
theorem law_laidOut : laidOutB Tryz.prog = true := by kernel_rfl
theorem cells_int : Tryz.prog.cellsOf 3 = 1 := by kernel_rfl
section
variable {H : Type} {enc : TypeId × Value → H} {w : World} {base : Nat} {spare : Nat → Bool} {held : Bool} {X : Nat → Prop}
theorem reads_ints (hX : ∀ b, ¬ X b) : ReadsAs enc Tryz.prog w base spare held X 51 (fun _ : List Int => True) (fun l => [dRow l]) := by
 intro fuel cs x h
 obtain ⟨l, _, hr⟩ := reads_slice Tryz.underlying51 cells_int (by omega) hX (reads_int Tryz.underlying3) fuel cs x h
 exact ⟨l, trivial, hr⟩
end
end Go.Proofs.YtpboiimemmfkiaaGreatDoor
