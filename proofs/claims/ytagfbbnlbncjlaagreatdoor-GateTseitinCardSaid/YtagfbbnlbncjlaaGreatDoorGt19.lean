/-
  Texts that belong together, in one file: S3, S4, S5, GA1, GA2, C2, GA3, RN, GA4, GA5, GA6, GA7.
-/
import Derived.Test.YtagfbbnlbncjlaaGreatDoorGt18
/-
  What follows is set, until nothing does.
-/
namespace Go.Proofs.YtagfbbnlbncjlaaGreatDoor
set_option linter.unusedSimpArgs false
set_option linter.unusedVariables false
open Go.Av

theorem pass_less {V : Nat} {cs : Cl} {cur c2 : List Int} (ok : OkC V cs) (g : GoodT V cur) (h : passF cs cur false = (true, c2, true)) : leftT V c2 < leftT V cur := by
  obtain ⟨⟨ext, a1, a1'⟩, a2, _⟩ := pass_facts cs cur false ok g
  rw [h] at a1 a1' a2
  have hag := a1' rfl
  dsimp only at a1 a2 hag
  obtain ⟨x, ext', rfl⟩ : ∃ x e, ext = x :: e := by cases ext with | nil => simp at hag | cons x e => exact ⟨x, e, rfl⟩
  have hx : isT cur x = 0 := by
    rw [isT_zero]
    rw [a1] at a2
    refine ⟨fun hx => ?_, fun hx => a2.one _ (List.mem_append_left _ hx) (by rw [Int.neg_neg]; simp)⟩
    exact (List.nodup_append.1 a2.nodup).2.2 x hx x (by simp) rfl
  have hp := a2.pos x (by rw [a1]; simp)
  have hlt := leftT_lt hp.1 hp.2.1 hp.2.2 hx ext'
  rwa [← a1] at hlt
def scanT (tr : List Int) (c : List Int) (j : Nat) : Int × Nat × Bool := (c.take j).foldl (stepC tr) (0, 0, false)
theorem scanT_succ (tr : List Int) {c : List Int} {j : Nat} (h : j < c.length) : scanT tr c (j + 1) = stepC tr (scanT tr c j) c[j] := by
  unfold scanT
  rw [List.take_succ_eq_append_getElem h, List.foldl_append]
  rfl
theorem scanT_all (tr : List Int) (c : List Int) : scanT tr c c.length = scanC tr c := by unfold scanT scanC; rw [List.take_length]
theorem scanT_many (tr : List Int) (c : List Int) : ∀ j, j ≤ c.length → (scanT tr c j).2.1 ≤ j
  | 0, _ => by simp [scanT]
  | j + 1, h => by
    have ih := scanT_many tr c j (by omega)
    rw [scanT_succ tr (show j < c.length by omega)]
    unfold stepC
    repeat' split
    all_goals first | omega | (dsimp only; omega)
theorem good_len {V : Nat} : ∀ {tr : List Int}, GoodT V tr → tr.length + leftT V tr ≤ V := by
  have key : ∀ (ext tr : List Int), GoodT V (tr ++ ext) → leftT V (tr ++ ext) + ext.length ≤ leftT V tr := by
    intro ext
    induction ext with
    | nil => intro tr _; simp
    | cons x ext ih =>
      intro tr g
      have g' : GoodT V (tr ++ [x] ++ ext) := by simpa using g
      have h1 := ih (tr ++ [x]) g'
      have hx : isT tr x = 0 := by
        rw [isT_zero]
        refine ⟨fun hx => ?_, fun hx => g.one _ (List.mem_append_left _ hx) (by rw [Int.neg_neg]; simp)⟩
        exact (List.nodup_append.1 g.nodup).2.2 x hx x (by simp) rfl
      have hp := g.pos x (by simp)
      have h2 := leftT_lt hp.1 hp.2.1 hp.2.2 hx []
      have e : tr ++ [x] ++ ext = tr ++ x :: ext := by simp
      rw [e] at h1
      simp only [List.length_cons]
      omega
  intro tr g
  have := key tr [] (by simpa using g)
  have h0 := leftT_le V []
  simp only [List.nil_append] at this
  omega

set_option maxHeartbeats 8000000 in
theorem spread_spec (G : Glob) (V : Nat) (hV : V < 2^19) (cs : Cl) (hcs : cs.length < 2^60) (hcl : ∀ c ∈ cs, c.length < 2^60) (ok : OkC V cs) (tr : List Int) (g : GoodT V tr) (k n : Nat) (hn : leftT V tr < n) :
    MC Tryz.prog G [22, 20] 85 [.ref 22 0 0] (hlst (solR V cs tr k)) (.d (.v (.bool (spreadF cs n tr).1))) (hlst (solR V cs (spreadF cs n tr).2 k)) := by
  refine MC.of_body (tyOf_good _) Tryz.func85 rfl rfl (rs := [.tmp 2]) Tryz.results85 (by simp [Tryz.ntmps85]) rfl fun X => ?_
  simp only [Tryz.ntmps85]
  simp only [solR]
  refine AW_rg (tyOf_good _) [0] [22, 20, 502] (notIn_ok rfl) fun K' hK' => ?_
  repeat (refine sxf_next fun K2 hK2 => ?_; simp [dNum]; (repeat (refine ⟨by omega, ?_⟩)); refine hK2 _ ?_; clear hK2 K2)
  refine sxf_nil (hK' _ ?_)
  refine AW.st (by simp [dNum]; rfl) ?_
  clear hK' K'
  refine AW_then fun K1 hK1 => ?_
  refine AW_rg (tyOf_good _) [0, 3] [22, 20, 502] (notIn_ok rfl) fun K' hK' => ?_
  repeat (refine sxf_next fun K2 hK2 => ?_; simp [dNum]; (repeat (refine ⟨by omega, ?_⟩)); refine hK2 _ ?_; clear hK2 K2)
  refine sxf_nil (hK' _ ?_)
  refine AW.st (by simp [dNum]; rfl) ?_
  clear hK' K'
  refine AW_for (S := Nat × List Int × Bool) (fun s => GoodT V s.2.1 ∧ (s.2.2 = true → leftT V s.2.1 < s.1 ∧ spreadF cs s.1 s.2.1 = spreadF cs n tr) ∧ (s.2.2 = false → spreadF cs n tr = (true, s.2.1))) (fun s => ⟨lst [(0, .ref 22 0 0), (3, .d (.v (.bool s.2.2)))], hlst (solR V cs s.2.1 k)⟩) (fun s => s.1) (n, tr, true) ?_ ⟨g, fun _ => ⟨hn, rfl⟩, fun h => by cases h⟩ ?_
  · simp only [solR]
    refine Imp.to' (notIn_ok rfl) (by simp [dNum]) (by simp [dNum])
  · rintro ⟨m, cur, again⟩ ⟨gc, hag, hno⟩
    dsimp only at gc hag hno ⊢
    simp only [solR]
    refine AW_then fun K2 hK2 => ?_
    refine AW_rg (tyOf_good _) [0, 11] [22, 20, 502] (notIn_ok rfl) fun K' hK' => ?_
    repeat (refine sxf_next fun K2 hK2 => ?_; simp [dNum]; (repeat (refine ⟨by omega, ?_⟩)); refine hK2 _ ?_; clear hK2 K2)
    refine sxf_nil (hK' _ ?_)
    refine AW.st (by simp [dNum]; rfl) ?_
    clear hK' K'
    cases again with
    | false =>
      refine AW_cond false rfl (fun h => by cases h) (fun _ => ?_)
      refine AW_exit (hK1 _ ?_)
      rw [hno rfl]
      refine AW_rg (tyOf_good _) [2] [22, 20, 502] (notIn_ok rfl) fun K' hK' => ?_
      repeat (refine sxf_next fun K2 hK2 => ?_; simp [dNum]; (repeat (refine ⟨by omega, ?_⟩)); refine hK2 _ ?_; clear hK2 K2)
      refine sxf_nil (hK' _ ?_)
      refine AW.st (by simp [dNum]; rfl) ?_
      clear hK' K'
      refine AW_ret ?_
      simp [solR, dNum, D.le]
    | true =>
      obtain ⟨hlt, hsp⟩ := hag rfl
      obtain ⟨m, rfl⟩ : ∃ m', m = m' + 1 := ⟨m - 1, by omega⟩
      rw [spreadF] at hsp
      refine AW_cond true rfl (fun _ => ?_) (fun h => by cases h)
      refine AW_skip (hK2 _ ?_)
      refine AW_block ?_
      refine AW_rg (tyOf_good _) [0, 3] [22, 20, 502] (notIn_ok rfl) fun K' hK' => ?_
      repeat (refine sxf_next fun K2 hK2 => ?_; simp [dNum]; (repeat (refine ⟨by omega, ?_⟩)); refine hK2 _ ?_; clear hK2 K2)
      refine sxf_nil (hK' _ ?_)
      refine AW.st (by simp [dNum]; rfl) ?_
      clear hK' K'
      refine AW_rg (tyOf_good _) [0, 3, 16, 17, 18] [22, 20, 502] (notIn_ok rfl) fun K' hK' => ?_
      repeat (refine sxf_next fun K2 hK2 => ?_; simp [dNum, dRows]; (repeat (refine ⟨by omega, ?_⟩)); refine hK2 _ ?_; clear hK2 K2)
      refine sxf_nil (hK' _ ?_)
      refine AW.st (by simp [dNum, dRows]; rfl) ?_
      clear hK' K'
      refine AW_for (S := Nat × List Int × Bool) (fun s => s.1 ≤ cs.length ∧ GoodT V s.2.1 ∧ passF (cs.drop s.1) s.2.1 s.2.2 = passF cs cur false) (fun s => ⟨lst [(0, .ref 22 0 0), (3, .d (.v (.bool s.2.2))), (16, .d (dRows cs)), (17, int cs.length), (18, int s.1)], hlst (solR V cs s.2.1 k)⟩) (fun s => cs.length - s.1) (0, cur, false) ?_ ⟨by simp, gc, by simp⟩ ?_
      · simp only [solR]
        refine Imp.to' (notIn_ok rfl) (by simp [dNum, dRows]) (by simp [dNum, dRows])
      · rintro ⟨i, c2, ag⟩ ⟨hi, g2, hps⟩
        dsimp only at hi g2 hps ⊢
        simp only [solR]
        refine AW_rg (tyOf_good _) [0, 3, 16, 17, 18, 19] [22, 20, 502] (notIn_ok rfl) fun K' hK' => ?_
        repeat (refine sxf_next fun K2 hK2 => ?_; simp [dNum]; (repeat (refine ⟨by omega, ?_⟩)); refine hK2 _ ?_; clear hK2 K2)
        refine sxf_nil (hK' _ ?_)
        refine AW.st (by simp [dNum]; rfl) ?_
        clear hK' K'
        refine AW_then fun K3 hK3 => ?_
        refine AW_cond' (b := i < cs.length) (by simp [D.le, D.le.go, takeMap, dNum]) (fun hc => ?_) (fun hc => ?_)
        · have hil : i < cs.length := hc
          have hgl := good_len g2
          have hol1 := ofL_len V c2
          have hol2 : List.take (V + 1) (ofL V c2) = ofL V c2 := List.take_of_length_le (by omega)
          have htl1 : (trL c2).length = c2.length := by simp [trL]
          have htl2 : List.take c2.length (trL c2) = trL c2 := List.take_of_length_le (by omega)
          obtain ⟨c, hce⟩ : ∃ c, cs[i] = c := ⟨_, rfl⟩
          have hcm : c ∈ cs := hce ▸ List.getElem_mem hil
          have hc60 := hcl c hcm
          have okc := ok c hcm
          rw [List.drop_eq_getElem_cons hil, passF, hce] at hps
          refine AW_skip (hK3 _ ?_)
          refine AW_then fun K4 hK4 => ?_
          refine AW_block ?_
          refine AW_rg (tyOf_good _) [0, 3, 5, 16, 17, 18] [22, 20, 502] (notIn_ok rfl) fun K' hK' => ?_
          repeat (refine sxf_next fun K2 hK2 => ?_; simp [dNum, dRows, hil, hce, dRow, dInts]; (repeat (refine ⟨by omega, ?_⟩)); refine hK2 _ ?_; clear hK2 K2)
          refine sxf_nil (hK' _ ?_)
          refine AW.st (by simp [dNum, dRows, hil, hce, dRow, dInts]; rfl) ?_
          clear hK' K'
          refine AW_rg (tyOf_good _) [0, 3, 5, 6, 7, 8, 16, 17, 18] [22, 20, 502] (notIn_ok rfl) fun K' hK' => ?_
          repeat (refine sxf_next fun K2 hK2 => ?_; simp [dNum]; (repeat (refine ⟨by omega, ?_⟩)); refine hK2 _ ?_; clear hK2 K2)
          refine sxf_nil (hK' _ ?_)
          refine AW.st (by simp [dNum]; rfl) ?_
          clear hK' K'
          refine AW_then fun K5 hK5 => ?_
          refine AW_rg (tyOf_good _) [0, 3, 6, 7, 8, 16, 17, 18, 22, 23, 24] [22, 20, 502] (notIn_ok rfl) fun K' hK' => ?_
          repeat (refine sxf_next fun K2 hK2 => ?_; simp [dNum]; (repeat (refine ⟨by omega, ?_⟩)); refine hK2 _ ?_; clear hK2 K2)
          refine sxf_nil (hK' _ ?_)
          refine AW.st (by simp [dNum]; rfl) ?_
          clear hK' K'
          refine AW_for (S := Nat) (fun j => j ≤ c.length) (fun j => ⟨lst [(0, .ref 22 0 0), (3, .d (.v (.bool ag))), (6, int (scanT c2 c j).1), (7, int (scanT c2 c j).2.1), (8, .d (.v (.bool (scanT c2 c j).2.2))), (16, .d (dRows cs)), (17, int cs.length), (18, int i), (22, .d (dRow c)), (23, int c.length), (24, int j)], hlst (solR V cs c2 k)⟩) (fun j => c.length - j) 0 ?_ (by simp) ?_
          · simp only [solR]
            refine Imp.to' (notIn_ok rfl) (by simp [dNum, dRows, dRow, dInts, scanT]) (by simp [dNum, dRows, dRow, dInts, scanT])
          · intro j hj
            have hmany := scanT_many c2 c j hj
            simp only [solR]
            refine AW_rg (tyOf_good _) [0, 3, 6, 7, 8, 16, 17, 18, 22, 23, 24, 25] [22, 20, 502] (notIn_ok rfl) fun K' hK' => ?_
            repeat (refine sxf_next fun K2 hK2 => ?_; simp [dNum]; (repeat (refine ⟨by omega, ?_⟩)); refine hK2 _ ?_; clear hK2 K2)
            refine sxf_nil (hK' _ ?_)
            refine AW.st (by simp [dNum]; rfl) ?_
            clear hK' K'
            refine AW_then fun K6 hK6 => ?_
            refine AW_cond' (b := j < c.length) (by simp [D.le, D.le.go, takeMap, dNum]) (fun hc => ?_) (fun hc => ?_)
            · have hjl : j < c.length := hc
              have hss := scanT_succ c2 hjl
              obtain ⟨x, hxe⟩ : ∃ x, c[j] = x := ⟨_, rfl⟩
              rw [hxe] at hss
              obtain ⟨x0, x1, x2⟩ := okc x (hxe ▸ List.getElem_mem hjl)
              have his := is_spec G V (by omega) c2 g2 (dRows cs) (.sl none (trL c2)) (dNum k) x x0 x1 x2
              have hbd := isT_bd c2 x
              obtain ⟨s1, hs1⟩ : ∃ s1, scanT c2 c (j + 1) = s1 := ⟨_, rfl⟩
              rw [hs1] at hss
              generalize scanT c2 c j = s at hmany hss
              obtain ⟨sl, sm, sh⟩ := s
              dsimp only at hmany
              unfold stepC at hss
              refine AW_skip (hK6 _ ?_)
              refine AW_then fun K7 hK7 => ?_
              refine AW_block ?_
              refine AW_rg (tyOf_good _) [0, 3, 6, 7, 8, 10, 16, 17, 18, 22, 23, 24] [22, 20, 502] (notIn_ok rfl) fun K' hK' => ?_
              repeat (refine sxf_next fun K2 hK2 => ?_; simp [dNum, dRow, dInts, hjl, hxe]; (repeat (refine ⟨by omega, ?_⟩)); refine hK2 _ ?_; clear hK2 K2)
              refine sxf_nil (hK' _ ?_)
              refine AW.st (by simp [dNum, dRow, dInts, hjl, hxe]; rfl) ?_
              clear hK' K'
              refine AW_rg (tyOf_good _) [0, 3, 6, 7, 8, 10, 16, 17, 18, 22, 23, 24, 30] [22, 20, 502] (notIn_ok rfl) fun K' hK' => ?_
              repeat (refine sxf_next fun K2 hK2 => ?_; simp [dNum, hol1, hol2, htl1, htl2]; (repeat (refine ⟨by omega, ?_⟩)); refine hK2 _ ?_; clear hK2 K2)
              refine sxf_next fun K2 hK2 => ?_
              simp [dNum, hol1, hol2, htl1, htl2]
              refine callK.lend (his) (by simp [dNum, hol1, hol2, htl1, htl2]; rfl) (by first | exact D.leGo_refl _ | simp [takeMap, List.map_map, Function.comp_def, D.le, D.le.go, D.le_refl, D.leGo_refl, dNum, hol1, hol2, htl1, htl2]) (by simp [D.scalar, dNum, hol1, hol2, htl1, htl2]) ?_
              refine hK2 _ ?_
              clear hK2 K2
              simp only [putd, upd_lst]
              repeat (refine sxf_next fun K2 hK2 => ?_; simp [dNum, hol1, hol2, htl1, htl2]; (repeat (refine ⟨by omega, ?_⟩)); refine hK2 _ ?_; clear hK2 K2)
              refine sxf_nil (hK' _ ?_)
              refine AW.st (by simp [dNum, hol1, hol2, htl1, htl2]; rfl) ?_
              clear hK' K'
              refine AW_block ?_
              by_cases e1 : isT c2 x = 1
              · rw [if_pos e1] at hss
                refine AW_rg (tyOf_good _) [0, 3, 6, 7, 8, 10, 16, 17, 18, 22, 23, 24, 30, 31] [22, 20, 502] (notIn_ok rfl) fun K' hK' => ?_
                repeat (refine sxf_next fun K2 hK2 => ?_; simp [dNum, e1]; (repeat (refine ⟨by omega, ?_⟩)); refine hK2 _ ?_; clear hK2 K2)
                refine sxf_nil (hK' _ ?_)
                refine AW.st (by simp [dNum, e1]; rfl) ?_
                clear hK' K'
                refine AW_cond true rfl (fun _ => ?_) (fun h => by cases h)
                refine AW_re (tyOf_good _) fun K' hK' => ?_
                repeat (refine sxf_next fun K2 hK2 => ?_; simp [dNum]; (repeat (refine ⟨by omega, ?_⟩)); refine hK2 _ ?_; clear hK2 K2)
                refine sxf_nil (hK' _ ?_)
                clear hK' K'
                refine hK7 _ (AW.norm [0, 3, 6, 7, 8, 16, 17, 18, 22, 23, 24] [22, 20, 502] (notIn_ok rfl) (AW.st (by simp [dNum]; rfl) ?_))
                refine AW_re (tyOf_good _) fun K' hK' => ?_
                repeat (refine sxf_next fun K2 hK2 => ?_; simp [dNum]; (repeat (refine ⟨by omega, ?_⟩)); refine hK2 _ ?_; clear hK2 K2)
                refine sxf_nil (hK' _ ?_)
                clear hK' K'
                try simp only [thn, inb]
                refine Again.mk (j + 1) (by omega) (by omega) ?_
                try simp only [solR]
                refine Imp.to' (notIn_ok rfl) (by simp [dNum, dRows, dRow, dInts, hs1, hss]) (by simp [dNum, dRows, dRow, dInts, hs1, hss])
              · rw [if_neg e1] at hss
                refine AW_rg (tyOf_good _) [0, 3, 6, 7, 8, 10, 16, 17, 18, 22, 23, 24, 30, 31] [22, 20, 502] (notIn_ok rfl) fun K' hK' => ?_
                repeat (refine sxf_next fun K2 hK2 => ?_; simp [dNum, e1]; (repeat (refine ⟨by omega, ?_⟩)); refine hK2 _ ?_; clear hK2 K2)
                refine sxf_nil (hK' _ ?_)
                refine AW.st (by simp [dNum, e1]; rfl) ?_
                clear hK' K'
                refine AW_cond false rfl (fun h => by cases h) (fun _ => ?_)
                by_cases e0 : isT c2 x = 0
                · rw [if_pos e0] at hss
                  refine AW_rg (tyOf_good _) [0, 3, 6, 7, 8, 10, 16, 17, 18, 22, 23, 24, 33] [22, 20, 502] (notIn_ok rfl) fun K' hK' => ?_
                  repeat (refine sxf_next fun K2 hK2 => ?_; simp [dNum, e0]; (repeat (refine ⟨by omega, ?_⟩)); refine hK2 _ ?_; clear hK2 K2)
                  refine sxf_nil (hK' _ ?_)
                  refine AW.st (by simp [dNum, e0]; rfl) ?_
                  clear hK' K'
                  refine AW_cond true rfl (fun _ => ?_) (fun h => by cases h)
                  refine AW_then fun K8 hK8 => ?_
                  by_cases el : x = sl
                  · have hss : s1 = (x, sm, sh) := by rw [hss]; simp [el]
                    refine AW_rg (tyOf_good _) [0, 3, 7, 8, 10, 16, 17, 18, 22, 23, 24, 37] [22, 20, 502] (notIn_ok rfl) fun K' hK' => ?_
                    repeat (refine sxf_next fun K2 hK2 => ?_; simp [dNum, eq_true el]; (repeat (refine ⟨by omega, ?_⟩)); refine hK2 _ ?_; clear hK2 K2)
                    refine sxf_nil (hK' _ ?_)
                    refine AW.st (by simp [dNum, eq_true el]; rfl) ?_
                    clear hK' K'
                    refine AW_cond false rfl (fun h => by cases h) (fun _ => ?_)
                    refine AW_skip (hK8 _ ?_)
                    refine AW_re (tyOf_good _) fun K' hK' => ?_
                    repeat (refine sxf_next fun K2 hK2 => ?_; simp [dNum]; (repeat (refine ⟨by omega, ?_⟩)); refine hK2 _ ?_; clear hK2 K2)
                    refine sxf_nil (hK' _ ?_)
                    clear hK' K'
                    refine hK7 _ (AW.norm [0, 3, 6, 7, 8, 16, 17, 18, 22, 23, 24] [22, 20, 502] (notIn_ok rfl) (AW.st (by simp [dNum]; rfl) ?_))
                    refine AW_re (tyOf_good _) fun K' hK' => ?_
                    repeat (refine sxf_next fun K2 hK2 => ?_; simp [dNum]; (repeat (refine ⟨by omega, ?_⟩)); refine hK2 _ ?_; clear hK2 K2)
                    refine sxf_nil (hK' _ ?_)
                    clear hK' K'
                    try simp only [thn, inb]
                    refine Again.mk (j + 1) (by omega) (by omega) ?_
                    try simp only [solR]
                    refine Imp.to' (notIn_ok rfl) (by simp [dNum, dRows, dRow, dInts, hs1, hss]) (by simp [dNum, dRows, dRow, dInts, hs1, hss])
                  · have hss : s1 = (x, sm + 1, sh) := by rw [hss]; simp [el]
                    refine AW_rg (tyOf_good _) [0, 3, 7, 8, 10, 16, 17, 18, 22, 23, 24, 37] [22, 20, 502] (notIn_ok rfl) fun K' hK' => ?_
                    repeat (refine sxf_next fun K2 hK2 => ?_; simp [dNum, el]; (repeat (refine ⟨by omega, ?_⟩)); refine hK2 _ ?_; clear hK2 K2)
                    refine sxf_nil (hK' _ ?_)
                    refine AW.st (by simp [dNum, el]; rfl) ?_
                    clear hK' K'
                    refine AW_cond true rfl (fun _ => ?_) (fun h => by cases h)
                    refine AW_re (tyOf_good _) fun K' hK' => ?_
                    repeat (refine sxf_next fun K2 hK2 => ?_; simp [dNum]; (repeat (refine ⟨by omega, ?_⟩)); refine hK2 _ ?_; clear hK2 K2)
                    refine sxf_nil (hK' _ ?_)
                    clear hK' K'
                    refine hK8 _ (AW.norm [0, 3, 7, 8, 10, 16, 17, 18, 22, 23, 24] [22, 20, 502] (notIn_ok rfl) (AW.st (by simp [dNum]; rfl) ?_))
                    refine AW_re (tyOf_good _) fun K' hK' => ?_
                    repeat (refine sxf_next fun K2 hK2 => ?_; simp [dNum]; (repeat (refine ⟨by omega, ?_⟩)); refine hK2 _ ?_; clear hK2 K2)
                    refine sxf_nil (hK' _ ?_)
                    clear hK' K'
                    refine hK7 _ (AW.norm [0, 3, 6, 7, 8, 16, 17, 18, 22, 23, 24] [22, 20, 502] (notIn_ok rfl) (AW.st (by simp [dNum]; rfl) ?_))
                    refine AW_re (tyOf_good _) fun K' hK' => ?_
                    repeat (refine sxf_next fun K2 hK2 => ?_; simp [dNum]; (repeat (refine ⟨by omega, ?_⟩)); refine hK2 _ ?_; clear hK2 K2)
                    refine sxf_nil (hK' _ ?_)
                    clear hK' K'
                    try simp only [thn, inb]
                    refine Again.mk (j + 1) (by omega) (by omega) ?_
                    try simp only [solR]
                    refine Imp.to' (notIn_ok rfl) (by simp [dNum, dRows, dRow, dInts, hs1, hss]) (by simp [dNum, dRows, dRow, dInts, hs1, hss])
                · rw [if_neg e0] at hss
                  refine AW_rg (tyOf_good _) [0, 3, 6, 7, 8, 10, 16, 17, 18, 22, 23, 24, 33] [22, 20, 502] (notIn_ok rfl) fun K' hK' => ?_
                  repeat (refine sxf_next fun K2 hK2 => ?_; simp [dNum, e0]; (repeat (refine ⟨by omega, ?_⟩)); refine hK2 _ ?_; clear hK2 K2)
                  refine sxf_nil (hK' _ ?_)
                  refine AW.st (by simp [dNum, e0]; rfl) ?_
                  clear hK' K'
                  refine AW_cond false rfl (fun h => by cases h) (fun _ => ?_)
                  refine AW_skip (hK7 _ ?_)
                  refine AW_re (tyOf_good _) fun K' hK' => ?_
                  repeat (refine sxf_next fun K2 hK2 => ?_; simp [dNum]; (repeat (refine ⟨by omega, ?_⟩)); refine hK2 _ ?_; clear hK2 K2)
                  refine sxf_nil (hK' _ ?_)
                  clear hK' K'
                  try simp only [thn, inb]
                  refine Again.mk (j + 1) (by omega) (by omega) ?_
                  try simp only [solR]
                  refine Imp.to' (notIn_ok rfl) (by simp [dNum, dRows, dRow, dInts, hs1, hss]) (by simp [dNum, dRows, dRow, dInts, hs1, hss])
            · obtain rfl : j = c.length := by omega
              refine AW_exit (hK5 _ ?_)
              rw [scanT_all] at hmany ⊢
              obtain ⟨f1, _, f3, _⟩ := scan_facts c2 (c := c) fun x hx => (okc x hx).1
              generalize scanC c2 c = s at hmany hps f3
              obtain ⟨sl, sm, sh⟩ := s
              dsimp only at hmany hps f3 ⊢
              refine AW_block ?_
              by_cases hh : sh = true ∨ 1 < sm
              · rw [if_pos hh] at hps
                refine (fun hcont => ?_) (fun (σ : St) himp => hK4 σ (AW.imp (τ := ⟨lst [(0, .ref 22 0 0), (3, .d (.v (.bool ag))), (16, .d (dRows cs)), (17, int cs.length), (18, int i)], hlst (solR V cs c2 k)⟩) himp ?_))
                · cases sh with
                  | true =>
                    refine AW_rg (tyOf_good _) [0, 3, 6, 7, 16, 17, 18, 45] [22, 20, 502] (notIn_ok rfl) fun K' hK' => ?_
                    repeat (refine sxf_next fun K2 hK2 => ?_; simp [dNum]; (repeat (refine ⟨by omega, ?_⟩)); refine hK2 _ ?_; clear hK2 K2)
                    refine sxf_nil (hK' _ ?_)
                    refine AW.st (by simp [dNum]; rfl) ?_
                    clear hK' K'
                    refine AW_cond true rfl (fun _ => ?_) (fun h => by cases h)
                    refine AW_skip (hcont _ ?_)
                    simp only [solR]
                    refine Imp.to' (notIn_ok rfl) (by simp [dNum, dRows, dRow, dInts]) (by simp [dNum, dRows, dRow, dInts])
                  | false =>
                    have h1 : (1 : Int) < sm := by have : 1 < sm := by simpa using hh
                                                   omega
                    refine AW_rg (tyOf_good _) [0, 3, 6, 7, 16, 17, 18, 45] [22, 20, 502] (notIn_ok rfl) fun K' hK' => ?_
                    repeat (refine sxf_next fun K2 hK2 => ?_; simp [dNum, h1]; (repeat (refine ⟨by omega, ?_⟩)); refine hK2 _ ?_; clear hK2 K2)
                    refine sxf_nil (hK' _ ?_)
                    refine AW.st (by simp [dNum, h1]; rfl) ?_
                    clear hK' K'
                    refine AW_cond true rfl (fun _ => ?_) (fun h => by cases h)
                    refine AW_skip (hcont _ ?_)
                    simp only [solR]
                    refine Imp.to' (notIn_ok rfl) (by simp [dNum, dRows, dRow, dInts]) (by simp [dNum, dRows, dRow, dInts])
                · simp only [solR]
                  refine AW_re (tyOf_good _) fun K' hK' => ?_
                  repeat (refine sxf_next fun K2 hK2 => ?_; simp [dNum]; (repeat (refine ⟨by omega, ?_⟩)); refine hK2 _ ?_; clear hK2 K2)
                  refine sxf_nil (hK' _ ?_)
                  clear hK' K'
                  try simp only [thn, inb]
                  refine Again.mk (i + 1, c2, ag) ⟨by dsimp only; omega, g2, hps⟩ (by dsimp only; omega) ?_
                  try simp only [solR]
                  refine Imp.to' (notIn_ok rfl) (by simp [dNum, dRows, dRow, dInts]) (by simp [dNum, dRows, dRow, dInts])
              · rw [if_neg hh] at hps
                obtain ⟨rfl, h1⟩ : sh = false ∧ ¬ 1 < sm := ⟨by cases sh with | false => rfl | true => exact absurd (.inl rfl) hh, fun h => hh (.inr h)⟩
                have h1' : ¬ (1 : Int) < sm := by omega
                refine AW_rg (tyOf_good _) [0, 3, 6, 7, 16, 17, 18, 45] [22, 20, 502] (notIn_ok rfl) fun K' hK' => ?_
                repeat (refine sxf_next fun K2 hK2 => ?_; simp [dNum, h1']; (repeat (refine ⟨by omega, ?_⟩)); refine hK2 _ ?_; clear hK2 K2)
                refine sxf_nil (hK' _ ?_)
                refine AW.st (by simp [dNum, h1']; rfl) ?_
                clear hK' K'
                refine AW_cond false rfl (fun h => by cases h) (fun _ => ?_)
                by_cases h0 : sm = 0
                · rw [if_pos h0] at hps
                  rw [← hps, if_pos rfl] at hsp
                  refine AW_rg (tyOf_good _) [0, 6, 16, 17, 18, 51] [22, 20, 502] (notIn_ok rfl) fun K' hK' => ?_
                  repeat (refine sxf_next fun K2 hK2 => ?_; simp [dNum, h0]; (repeat (refine ⟨by omega, ?_⟩)); refine hK2 _ ?_; clear hK2 K2)
                  refine sxf_nil (hK' _ ?_)
                  refine AW.st (by simp [dNum, h0]; rfl) ?_
                  clear hK' K'
                  refine AW_cond true rfl (fun _ => ?_) (fun h => by cases h)
                  refine AW_rg (tyOf_good _) [2] [22, 20, 502] (notIn_ok rfl) fun K' hK' => ?_
                  repeat (refine sxf_next fun K2 hK2 => ?_; simp [dNum]; (repeat (refine ⟨by omega, ?_⟩)); refine hK2 _ ?_; clear hK2 K2)
                  refine sxf_nil (hK' _ ?_)
                  refine AW.st (by simp [dNum]; rfl) ?_
                  clear hK' K'
                  rw [← hsp]
                  refine AW_ret ?_
                  simp [solR, dNum, D.le]
                · rw [if_neg h0] at hps
                  obtain ⟨l1, l2, _⟩ := f3 (by omega)
                  obtain ⟨y0, y1, y2⟩ := okc _ l1
                  have hset := set_spec G V (by omega) cs c2 k (by omega) sl y0 y1 y2 l2
                  simp only [solR] at hset
                  refine AW_rg (tyOf_good _) [0, 6, 16, 17, 18, 51] [22, 20, 502] (notIn_ok rfl) fun K' hK' => ?_
                  repeat (refine sxf_next fun K2 hK2 => ?_; simp [dNum, h0]; (repeat (refine ⟨by omega, ?_⟩)); refine hK2 _ ?_; clear hK2 K2)
                  refine sxf_nil (hK' _ ?_)
                  refine AW.st (by simp [dNum, h0]; rfl) ?_
                  clear hK' K'
                  refine AW_cond false rfl (fun h => by cases h) (fun _ => ?_)
                  refine AW_rg (tyOf_good _) [0, 16, 17, 18] [22, 20, 502] (notIn_ok rfl) fun K' hK' => ?_
                  repeat (refine sxf_next fun K2 hK2 => ?_; simp [dNum]; (repeat (refine ⟨by omega, ?_⟩)); refine hK2 _ ?_; clear hK2 K2)
                  refine sxf_next fun K2 hK2 => ?_
                  simp [dNum]
                  refine callK.mc (hset) (by simp [dNum]) (by simp [dNum]) (by simp [dNum]) (by simp [dNum]) ?_
                  simp [dNum]
                  refine hK2 _ ?_
                  clear hK2 K2
                  repeat (refine sxf_next fun K2 hK2 => ?_; simp [dNum]; (repeat (refine ⟨by omega, ?_⟩)); refine hK2 _ ?_; clear hK2 K2)
                  refine sxf_nil (hK' _ ?_)
                  refine AW.st (by simp [dNum]; rfl) ?_
                  clear hK' K'
                  refine AW_re (tyOf_good _) fun K' hK' => ?_
                  repeat (refine sxf_next fun K2 hK2 => ?_; simp [dNum]; (repeat (refine ⟨by omega, ?_⟩)); refine hK2 _ ?_; clear hK2 K2)
                  refine sxf_nil (hK' _ ?_)
                  clear hK' K'
                  refine hK4 _ (AW.norm [0, 3, 16, 17, 18] [22, 20, 502] (notIn_ok rfl) (AW.st (by simp [dNum]; rfl) ?_))
                  refine AW_re (tyOf_good _) fun K' hK' => ?_
                  repeat (refine sxf_next fun K2 hK2 => ?_; simp [dNum]; (repeat (refine ⟨by omega, ?_⟩)); refine hK2 _ ?_; clear hK2 K2)
                  refine sxf_nil (hK' _ ?_)
                  clear hK' K'
                  try simp only [thn, inb]
                  refine Again.mk (i + 1, c2 ++ [sl], true) ⟨by dsimp only; omega, g2.snoc y0 y1 y2 l2, hps⟩ (by dsimp only; omega) ?_
                  try simp only [solR]
                  refine Imp.to' (notIn_ok rfl) (by simp [dNum, dRows, dRow, dInts]) (by simp [dNum, dRows, dRow, dInts])
        · obtain rfl : i = cs.length := by omega
          rw [List.drop_length, passF] at hps
          rw [← hps] at hsp
          refine AW_exit ?_
          have hless := fun h : ag = true => pass_less ok gc (by rw [← hps, h])
          refine Again.mk (m, c2, ag) ⟨g2, fun h => ⟨by have := hless h; dsimp only; omega, ?_⟩, fun h => ?_⟩ (by dsimp only; omega) ?_
          · dsimp only at h ⊢
            rw [← hsp]
            subst h
            rfl
          · dsimp only at h ⊢
            rw [← hsp]
            subst h
            rfl
          · simp only [solR]
            refine Imp.to' (notIn_ok rfl) (by simp [dNum]) (by simp [dNum])
end Go.Proofs.YtagfbbnlbncjlaaGreatDoor

/-
  Values are tried: search, Solve.
-/
namespace Go.Proofs.YtagfbbnlbncjlaaGreatDoor
set_option linter.unusedSimpArgs false
set_option linter.unusedVariables false
open Go.Av

set_option maxHeartbeats 1000000 in
theorem iindex_spec (G : Glob) (l : List Int) (y : Int) (hl : l.length < 2^60) : PureC Tryz.prog G 87 [.sl none (l.map fun x => [dNum x]), dNum y] (dNum (idx (fun x => y == x) l)) := by
  refine PureC.of_body (tyOf_good _) Tryz.func87 rfl rfl (rs := [.tmp 4]) Tryz.results87 (by simp [Tryz.ntmps87]) fun X => ?_
  simp only [Tryz.ntmps87, List.map]
  refine AW_rg (tyOf_good _) [0, 1] [] (fun _ _ => trivial) fun K' hK' => ?_
  repeat (refine sxf_next fun K2 hK2 => ?_; simp [dNum]; (repeat (refine ⟨by omega, ?_⟩)); refine hK2 _ ?_; clear hK2 K2)
  refine sxf_nil (hK' _ ?_)
  refine AW.st (by simp [dNum]; rfl) ?_
  clear hK' K'
  refine AW_then fun K1 hK1 => ?_
  refine AW_rg (tyOf_good _) [0, 1, 7, 8] [] (fun _ _ => trivial) fun K' hK' => ?_
  repeat (refine sxf_next fun K2 hK2 => ?_; simp [dNum]; (repeat (refine ⟨by omega, ?_⟩)); refine hK2 _ ?_; clear hK2 K2)
  refine sxf_nil (hK' _ ?_)
  refine AW.st (by simp [dNum]; rfl) ?_
  clear hK' K'
  refine AW_for (S := Nat) (fun n => n ≤ l.length ∧ ∀ i (hi : i < l.length), i < n → (y == l[i]) = false) (fun n => ⟨lst [(0, .d (.sl none (l.map fun x => [dNum x]))), (1, .d (dNum y)), (7, int l.length), (8, int n)], hlst []⟩) (fun n => l.length - n) 0 ?_ (by simp) ?_
  · refine Imp.to' (fun _ _ => trivial) (by simp [dNum]) (by simp [dNum])
  · rintro n ⟨hn, hp⟩
    refine AW_rg (tyOf_good _) [0, 1, 7, 8, 9] [] (fun _ _ => trivial) fun K' hK' => ?_
    repeat (refine sxf_next fun K2 hK2 => ?_; simp [dNum]; (repeat (refine ⟨by omega, ?_⟩)); refine hK2 _ ?_; clear hK2 K2)
    refine sxf_nil (hK' _ ?_)
    refine AW.st (by simp [dNum]; rfl) ?_
    clear hK' K'
    refine AW_then fun K2 hK2 => ?_
    refine AW_cond' (b := n < l.length) (by simp [D.le, D.le.go, takeMap, dNum]) (fun hc => ?_) (fun hc => ?_)
    · have hnl : n < l.length := hc
      refine AW_skip (hK2 _ ?_)
      refine AW_then fun K3 hK3 => ?_
      refine AW_block ?_
      refine AW_rg (tyOf_good _) [0, 1, 5, 7, 8] [] (fun _ _ => trivial) fun K' hK' => ?_
      repeat (refine sxf_next fun K2 hK2 => ?_; simp [dNum]; (repeat (refine ⟨by omega, ?_⟩)); refine hK2 _ ?_; clear hK2 K2)
      refine sxf_nil (hK' _ ?_)
      refine AW.st (by simp [dNum]; rfl) ?_
      clear hK' K'
      by_cases he : y = l[n]
      · refine AW_rg (tyOf_good _) [0, 1, 5, 7, 8, 16] [] (fun _ _ => trivial) fun K' hK' => ?_
        repeat (refine sxf_next fun K2 hK2 => ?_; simp [dNum, hnl, eq_true he]; (repeat (refine ⟨by omega, ?_⟩)); refine hK2 _ ?_; clear hK2 K2)
        refine sxf_nil (hK' _ ?_)
        refine AW.st (by simp [dNum, hnl, eq_true he]; rfl) ?_
        clear hK' K'
        refine AW_cond true rfl (fun _ => ?_) (fun h => by cases h)
        refine AW_rg (tyOf_good _) [4] [] (fun _ _ => trivial) fun K' hK' => ?_
        repeat (refine sxf_next fun K2 hK2 => ?_; simp [dNum]; (repeat (refine ⟨by omega, ?_⟩)); refine hK2 _ ?_; clear hK2 K2)
        refine sxf_nil (hK' _ ?_)
        refine AW.st (by simp [dNum]; rfl) ?_
        clear hK' K'
        refine AW_ret ?_
        simp [D.le, D.le.go, takeMap, dNum]
        exact (idx_hit (p := fun x => y == x) hnl (by simp [he]) fun i hi => hp i (by omega) hi).symm
      · have he' : (y == l[n]) = false := by simpa using he
        refine AW_rg (tyOf_good _) [0, 1, 5, 7, 8, 16] [] (fun _ _ => trivial) fun K' hK' => ?_
        repeat (refine sxf_next fun K2 hK2 => ?_; simp [dNum, hnl, he]; (repeat (refine ⟨by omega, ?_⟩)); refine hK2 _ ?_; clear hK2 K2)
        refine sxf_nil (hK' _ ?_)
        refine AW.st (by simp [dNum, hnl, he]; rfl) ?_
        clear hK' K'
        refine AW_cond false rfl (fun h => by cases h) (fun _ => ?_)
        refine AW_skip (hK3 _ ?_)
        refine AW_re (tyOf_good _) fun K' hK' => ?_
        repeat (refine sxf_next fun K2 hK2 => ?_; simp [dNum]; (repeat (refine ⟨by omega, ?_⟩)); refine hK2 _ ?_; clear hK2 K2)
        refine sxf_nil (hK' _ ?_)
        clear hK' K'
        try simp only [thn, inb]
        refine Again.mk (n + 1) ⟨by omega, fun i hi hin => ?_⟩ (by omega) ?_
        · by_cases h : i = n
          · subst h; exact he'
          · exact hp i hi (by omega)
        refine Imp.to' (fun _ _ => trivial) (by simp [dNum]) (by simp [dNum])
    · refine AW_exit (hK1 _ ?_)
      refine AW_rg (tyOf_good _) [4] [] (fun _ _ => trivial) fun K' hK' => ?_
      repeat (refine sxf_next fun K2 hK2 => ?_; simp [dNum]; (repeat (refine ⟨by omega, ?_⟩)); refine hK2 _ ?_; clear hK2 K2)
      refine sxf_nil (hK' _ ?_)
      refine AW.st (by simp [dNum]; rfl) ?_
      clear hK' K'
      refine AW_ret ?_
      simp [D.le, D.le.go, takeMap, dNum]
      exact (idx_miss (p := fun x => y == x) fun i hi => hp i hi (by omega)).symm

theorem ofL_drop (V : Nat) (tr : List Int) : (ofL V tr).drop 1 = ((List.range' 1 V).map fun i => isT tr (i : Nat)).map fun x => [dNum x] := by
  unfold ofL
  rw [List.range_eq_range', List.range'_succ]
  simp
theorem free_idx (tr : List Int) : ∀ (n v : Nat), 0 < v → idx (fun x => (0 : Int) == x) ((List.range' v n).map fun i => isT tr (i : Nat)) = if freeF tr v n = 0 then -1 else (freeF tr v n : Int) - v
  | 0, v, _ => by simp [freeF, idx]
  | n + 1, v, h => by
    have ih := free_idx tr n (v + 1) (by omega)
    have hf := (free_facts tr n (v + 1) (by omega)).2
    rw [List.range'_succ, List.map_cons, freeF]
    by_cases h0 : isT tr v = 0
    · rw [if_pos h0, if_neg (by omega)]
      unfold idx
      rw [List.findIdx?_cons, h0]
      simp
    · rw [if_neg h0]
      have e : ((0 : Int) == isT tr (v : Nat)) = false := by simpa using Ne.symm h0
      unfold idx at ih ⊢
      rw [List.findIdx?_cons, e]
      cases hfi : List.findIdx? (fun x => (0 : Int) == x) ((List.range' (v + 1) n).map fun i => isT tr (i : Nat)) with
      | none =>
        rw [hfi] at ih
        dsimp only at ih
        by_cases hz : freeF tr (v + 1) n = 0
        · simp [hz]
        · rw [if_neg hz] at ih
          have := (hf hz).1
          omega
      | some i =>
        rw [hfi] at ih
        dsimp only at ih
        by_cases hz : freeF tr (v + 1) n = 0
        · rw [if_pos hz] at ih; omega
        · rw [if_neg hz] at ih
          simp [hz]
          omega

/-- What is shown behind its first use. -/
structure LaterS (T : Prop) : Prop where
  out : T
theorem lateS {T U : Prop} (h : LaterS T → U) (t : T) : U := h ⟨t⟩

set_option maxHeartbeats 16000000 in
theorem search_specM (G : Glob) (V : Nat) (hV : V < 2^10) (cs : Cl) (hcs : cs.length < 2^60) (hcl : ∀ c ∈ cs, c.length < 2^60) (ok : OkC V cs) (M : List Int → Nat)
    (hM : ∀ tr, GoodT V tr → (spreadF cs (V + 1) tr).1 = true → freeF (spreadF cs (V + 1) tr).2 1 V ≠ 0 →
      M ((spreadF cs (V + 1) tr).2 ++ [(freeF (spreadF cs (V + 1) tr).2 1 V : Int)]) < M tr ∧ M ((spreadF cs (V + 1) tr).2 ++ [-(freeF (spreadF cs (V + 1) tr).2 1 V : Int)]) < M tr) :
    ∀ (n : Nat) (tr : List Int) (k : Nat), GoodT V tr → M tr < n → k + 2^n ≤ 20001 →
    MC Tryz.prog G [22, 20] 54 [.ref 22 0 0] (hlst (solR V cs tr k)) (.d (.tup [.v (.bool (searchF cs V n tr k).1), .v .nilIface])) (hlst (solR V cs (searchF cs V n tr k).2.1 (searchF cs V n tr k).2.2)) := by
  intro n
  induction n with
  | zero => intro tr k _ h; omega
  | succ n ih =>
    intro tr k g hlt hk
    have hps : 2^(n + 1) = 2^n + 2^n := by rw [Nat.pow_succ]; omega
    have hp1 : 1 ≤ 2^n := Nat.one_le_two_pow
    have hspec := spread_spec G V (by omega) cs hcs hcl ok tr g (k + 1) (V + 1) (by have := leftT_le V tr; omega)
    obtain ⟨⟨ext, a1⟩, a2, _, _⟩ := spread_facts ok (V + 1) tr g (by have := leftT_le V tr; omega)
    have hgl := good_len g
    have hMM := hM tr g
    have hR : searchF cs V (n + 1) tr k = _ := rfl
    generalize hRe : searchF cs V (n + 1) tr k = R at hR ⊢
    rw [searchF] at hRe
    clear hR
    generalize spreadF cs (V + 1) tr = sp at hspec a1 a2 hRe hMM
    obtain ⟨okb, tr1⟩ := sp
    dsimp only at hspec a1 a2 hRe hMM
    have hgl1 := good_len a2
    have hbk := back_spec G V (by omega) cs tr1 a2 (k + 1) (by omega) tr.length (by rw [a1]; simp)
    have htk : tr1.take tr.length = tr := by rw [a1]; simp
    rw [htk] at hbk
    have hk1 : ¬ (20000 : Int) < (k : Int) + 1 := by omega
    simp only [solR] at hspec hbk
    refine MC.of_body (tyOf_good _) Tryz.func54 rfl rfl (rs := [.tmp 2, .tmp 3]) Tryz.results54 (by simp [Tryz.ntmps54]) rfl fun X => ?_
    simp only [Tryz.ntmps54]
    simp only [solR]
    refine AW_rg (tyOf_good _) [0] [22, 20, 502] (notIn_ok rfl) fun K' hK' => ?_
    repeat (refine sxf_next fun K2 hK2 => ?_; simp [dNum]; (repeat (refine ⟨by omega, ?_⟩)); refine hK2 _ ?_; clear hK2 K2)
    refine sxf_nil (hK' _ ?_)
    refine AW.st (by simp [dNum]; rfl) ?_
    clear hK' K'
    refine AW_then fun K1 hK1 => ?_
    refine AW_rg (tyOf_good _) [0] [22, 20, 502] (notIn_ok rfl) fun K' hK' => ?_
    repeat (refine sxf_next fun K2 hK2 => ?_; simp [dNum]; (repeat (refine ⟨by omega, ?_⟩)); refine hK2 _ ?_; clear hK2 K2)
    refine sxf_nil (hK' _ ?_)
    refine AW.st (by simp [dNum]; rfl) ?_
    clear hK' K'
    refine AW_rg (tyOf_good _) [0, 22] [22, 20, 502] (notIn_ok rfl) fun K' hK' => ?_
    repeat (refine sxf_next fun K2 hK2 => ?_; simp [dNum, hk1]; (repeat (refine ⟨by omega, ?_⟩)); refine hK2 _ ?_; clear hK2 K2)
    refine sxf_nil (hK' _ ?_)
    refine AW.st (by simp [dNum, hk1]; rfl) ?_
    clear hK' K'
    refine AW_cond false rfl (fun h => by cases h) (fun _ => ?_)
    refine AW_skip (hK1 _ ?_)
    refine AW_rg (tyOf_good _) [0, 4] [22, 20, 502] (notIn_ok rfl) fun K' hK' => ?_
    repeat (refine sxf_next fun K2 hK2 => ?_; simp [dNum]; (repeat (refine ⟨by omega, ?_⟩)); refine hK2 _ ?_; clear hK2 K2)
    refine sxf_nil (hK' _ ?_)
    refine AW.st (by simp [dNum]; rfl) ?_
    clear hK' K'
    refine AW_then fun K2 hK2 => ?_
    cases okb with
    | false =>
      rw [if_pos rfl] at hRe
      refine AW_rg (tyOf_good _) [0, 4, 31] [22, 20, 502] (notIn_ok rfl) fun K' hK' => ?_
      repeat (refine sxf_next fun K2 hK2 => ?_; simp [dNum]; (repeat (refine ⟨by omega, ?_⟩)); refine hK2 _ ?_; clear hK2 K2)
      refine sxf_next fun K2 hK2 => ?_
      simp [dNum]
      refine callK.mc (hspec) (by simp [dNum]) (by simp [dNum]) (by simp [dNum]) (by simp [dNum]) ?_
      simp [dNum]
      refine hK2 _ ?_
      clear hK2 K2
      repeat (refine sxf_next fun K2 hK2 => ?_; simp [dNum]; (repeat (refine ⟨by omega, ?_⟩)); refine hK2 _ ?_; clear hK2 K2)
      refine sxf_nil (hK' _ ?_)
      refine AW.st (by simp [dNum]; rfl) ?_
      clear hK' K'
      refine AW_cond true rfl (fun _ => ?_) (fun h => by cases h)
      refine AW_rg (tyOf_good _) [] [22, 20, 502] (notIn_ok rfl) fun K' hK' => ?_
      repeat (refine sxf_next fun K2 hK2 => ?_; simp [dNum]; (repeat (refine ⟨by omega, ?_⟩)); refine hK2 _ ?_; clear hK2 K2)
      refine sxf_next fun K2 hK2 => ?_
      simp [dNum]
      refine callK.mc (hbk) (by simp [dNum]) (by simp [dNum]) (by simp [dNum]) (by simp [dNum]) ?_
      simp [dNum]
      refine hK2 _ ?_
      clear hK2 K2
      repeat (refine sxf_next fun K2 hK2 => ?_; simp [dNum]; (repeat (refine ⟨by omega, ?_⟩)); refine hK2 _ ?_; clear hK2 K2)
      refine sxf_nil (hK' _ ?_)
      refine AW.st (by simp [dNum]; rfl) ?_
      clear hK' K'
      refine AW_rg (tyOf_good _) [2, 3] [22, 20, 502] (notIn_ok rfl) fun K' hK' => ?_
      repeat (refine sxf_next fun K2 hK2 => ?_; simp [dNum]; (repeat (refine ⟨by omega, ?_⟩)); refine hK2 _ ?_; clear hK2 K2)
      refine sxf_nil (hK' _ ?_)
      refine AW.st (by simp [dNum]; rfl) ?_
      clear hK' K'
      refine AW_ret ?_
      simp [solR, ← hRe, dNum, D.le, D.le.go]
    | true =>
      rw [if_neg (by decide)] at hRe
      refine AW_rg (tyOf_good _) [0, 4, 31] [22, 20, 502] (notIn_ok rfl) fun K' hK' => ?_
      repeat (refine sxf_next fun K2 hK2 => ?_; simp [dNum]; (repeat (refine ⟨by omega, ?_⟩)); refine hK2 _ ?_; clear hK2 K2)
      refine sxf_next fun K2 hK2 => ?_
      simp [dNum]
      refine callK.mc (hspec) (by simp [dNum]) (by simp [dNum]) (by simp [dNum]) (by simp [dNum]) ?_
      simp [dNum]
      refine hK2 _ ?_
      clear hK2 K2
      repeat (refine sxf_next fun K2 hK2 => ?_; simp [dNum]; (repeat (refine ⟨by omega, ?_⟩)); refine hK2 _ ?_; clear hK2 K2)
      refine sxf_nil (hK' _ ?_)
      refine AW.st (by simp [dNum]; rfl) ?_
      clear hK' K'
      refine AW_cond false rfl (fun h => by cases h) (fun _ => ?_)
      refine AW_skip (hK2 _ ?_)
      have hfi := free_idx tr1 V 1 (by decide)
      have hix := iindex_spec G ((List.range' 1 V).map fun i => isT tr1 (i : Nat)) 0 (by simp; omega)
      rw [hfi, ← ofL_drop] at hix
      have hdl : (List.drop 1 (ofL V tr1)).length = V := by simp [ofL_len]
      have htd : List.take V (List.drop 1 (ofL V tr1)) = List.drop 1 (ofL V tr1) := List.take_of_length_le (by omega)
      obtain ⟨c1, c2⟩ := free_facts tr1 V 1 (by decide)
      generalize freeF tr1 1 V = v at c1 c2 hRe hix hMM
      have hlen := ofL_len V tr1
      refine' lateS (fun hrest => ?_) ?_
      rotate_left
      · by_cases hV0 : V = 0
        · have hv0 : v = 0 := by
            apply Classical.byContradiction
            intro hv
            have := c2 hv
            omega
          rw [if_pos hv0, List.eq_nil_of_length_eq_zero (hdl.trans hV0)] at hix
          refine AW_rg (tyOf_good _) [0, 4, 5] [22, 20, 502] (notIn_ok rfl) fun K' hK' => ?_
          repeat (refine sxf_next fun K2 hK2 => ?_; simp [dNum, hV0]; (repeat (refine ⟨by omega, ?_⟩)); refine hK2 _ ?_; clear hK2 K2)
          refine sxf_next fun K2 hK2 => ?_
          simp [dNum, hV0]
          refine callK.data (hix) (by simp; rfl) (by first | exact D.leGo_refl _ | simp [takeMap, List.map_map, Function.comp_def, D.le, D.le.go, D.le_refl, D.leGo_refl, dNum, hV0]) ?_
          refine hK2 _ ?_
          clear hK2 K2
          simp only [putd, upd_lst]
          repeat (refine sxf_next fun K2 hK2 => ?_; simp [dNum, hV0]; (repeat (refine ⟨by omega, ?_⟩)); refine hK2 _ ?_; clear hK2 K2)
          refine sxf_nil (hK' _ ?_)
          refine AW.st (by simp [dNum, hV0]; rfl) ?_
          clear hK' K'
          refine AW.imp (τ := ⟨lst [(0, .ref 22 0 0), (4, int tr.length), (5, int v)], hlst (solR V cs tr1 (k + 1))⟩) ?_ hrest.out
          simp only [solR]
          refine Imp.to' (notIn_ok rfl) (by simp [dNum, hV0, hv0]) (by simp [dNum, hV0, hv0])
        · have hne1 : ¬ (1 : Int) = (V : Int) + 1 := by omega
          have hle1 : 1 + V ≤ V + 1 := by omega
          generalize hO : ofL V tr1 = O at hix htd hlen
          have htt : List.take V O.tail = O.tail := by rw [← List.drop_one]; exact htd
          by_cases hv : v = 0
          · rw [if_pos hv] at hix
            refine AW_rg (tyOf_good _) [0, 4, 5] [22, 20, 502] (notIn_ok rfl) fun K' hK' => ?_
            repeat (refine sxf_next fun K2 hK2 => ?_; simp [dNum, hO, hne1, hle1, hlen, htd, htt]; (repeat (refine ⟨by omega, ?_⟩)); refine hK2 _ ?_; clear hK2 K2)
            refine sxf_next fun K2 hK2 => ?_
            simp [dNum, hO, hne1, hle1, hlen, htd, htt]
            refine callK.lend (hix) (by simp [dNum, hO, hne1, hle1, hlen, htd, htt]; rfl) (by first | exact D.leGo_refl _ | simp [takeMap, List.map_map, Function.comp_def, D.le, D.le.go, D.le_refl, D.leGo_refl, dNum, hO, hne1, hle1, hlen, htd, htt]) (by simp [D.scalar, dNum, hO, hne1, hle1, hlen, htd, htt]) ?_
            refine hK2 _ ?_
            clear hK2 K2
            simp only [putd, upd_lst]
            repeat (refine sxf_next fun K2 hK2 => ?_; simp [dNum, hO, hne1, hle1, hlen, htd, htt]; (repeat (refine ⟨by omega, ?_⟩)); refine hK2 _ ?_; clear hK2 K2)
            refine sxf_nil (hK' _ ?_)
            refine AW.st (by simp [dNum, hO, hne1, hle1, hlen, htd, htt]; rfl) ?_
            clear hK' K'
            refine AW.imp (τ := ⟨lst [(0, .ref 22 0 0), (4, int tr.length), (5, int v)], hlst (solR V cs tr1 (k + 1))⟩) ?_ hrest.out
            simp only [solR]
            refine Imp.to' (notIn_ok rfl) (by simp [dNum, hO, hv]) (by simp [dNum, hO, hv])
          · rw [if_neg hv] at hix
            have := c2 hv
            refine AW_rg (tyOf_good _) [0, 4, 5] [22, 20, 502] (notIn_ok rfl) fun K' hK' => ?_
            repeat (refine sxf_next fun K2 hK2 => ?_; simp [dNum, hO, hne1, hle1, hlen, htd, htt]; (repeat (refine ⟨by omega, ?_⟩)); refine hK2 _ ?_; clear hK2 K2)
            refine sxf_next fun K2 hK2 => ?_
            simp [dNum, hO, hne1, hle1, hlen, htd, htt]
            refine callK.lend (hix) (by simp [dNum, hO, hne1, hle1, hlen, htd, htt]; rfl) (by first | exact D.leGo_refl _ | simp [takeMap, List.map_map, Function.comp_def, D.le, D.le.go, D.le_refl, D.leGo_refl, dNum, hO, hne1, hle1, hlen, htd, htt]) (by simp [D.scalar, dNum, hO, hne1, hle1, hlen, htd, htt]) ?_
            refine hK2 _ ?_
            clear hK2 K2
            simp only [putd, upd_lst]
            repeat (refine sxf_next fun K2 hK2 => ?_; simp [dNum, hO, hne1, hle1, hlen, htd, htt]; (repeat (refine ⟨by omega, ?_⟩)); refine hK2 _ ?_; clear hK2 K2)
            refine sxf_nil (hK' _ ?_)
            refine AW.st (by simp [dNum, hO, hne1, hle1, hlen, htd, htt]; rfl) ?_
            clear hK' K'
            refine AW.imp (τ := ⟨lst [(0, .ref 22 0 0), (4, int tr.length), (5, int v)], hlst (solR V cs tr1 (k + 1))⟩) ?_ hrest.out
            simp only [solR]
            refine Imp.to' (notIn_ok rfl) (by simp [dNum, hO]) (by simp [dNum, hO])
      simp only [solR]
      refine AW_then fun K3 hK3 => ?_
      by_cases hv : v = 0
      · rw [if_pos hv] at hRe
        refine AW_rg (tyOf_good _) [0, 4, 5, 43] [22, 20, 502] (notIn_ok rfl) fun K' hK' => ?_
        repeat (refine sxf_next fun K2 hK2 => ?_; simp [dNum, hv]; (repeat (refine ⟨by omega, ?_⟩)); refine hK2 _ ?_; clear hK2 K2)
        refine sxf_nil (hK' _ ?_)
        refine AW.st (by simp [dNum, hv]; rfl) ?_
        clear hK' K'
        refine AW_cond true rfl (fun _ => ?_) (fun h => by cases h)
        refine AW_rg (tyOf_good _) [2, 3] [22, 20, 502] (notIn_ok rfl) fun K' hK' => ?_
        repeat (refine sxf_next fun K2 hK2 => ?_; simp [dNum]; (repeat (refine ⟨by omega, ?_⟩)); refine hK2 _ ?_; clear hK2 K2)
        refine sxf_nil (hK' _ ?_)
        refine AW.st (by simp [dNum]; rfl) ?_
        clear hK' K'
        refine AW_ret ?_
        simp [solR, ← hRe, dNum, D.le, D.le.go]
      rw [if_neg hv] at hRe
      try dsimp only at hRe
      obtain ⟨d1, d2, d3, _⟩ := c2 hv
      have d3' : isT tr1 (-(v : Int)) = 0 := by rw [isT_neg a2, d3]; rfl
      have g1 := a2.snoc (x := (v : Int)) (by omega) (by omega) (by omega) d3
      have g2 := a2.snoc (x := -(v : Int)) (by omega) (by omega) (by omega) d3'
      obtain ⟨l1, l2⟩ := hMM rfl hv
      have hA := ih (tr1 ++ [(v : Int)]) (k + 1) g1 (by omega) (by omega)
      obtain ⟨e1, e2, e3⟩ := search_factsM ok M hM n (tr1 ++ [(v : Int)]) (k + 1) g1 (by omega)
      generalize searchF cs V n (tr1 ++ [(v : Int)]) (k + 1) = A at hA e1 e2 e3 hRe
      obtain ⟨Ab, Atr, Ak⟩ := A
      dsimp only at hA e1 e2 e3 hRe
      have hB := ih (tr1 ++ [-(v : Int)]) Ak g2 (by omega) (by omega)
      obtain ⟨q1, q2, q3⟩ := search_factsM ok M hM n (tr1 ++ [-(v : Int)]) Ak g2 (by omega)
      generalize searchF cs V n (tr1 ++ [-(v : Int)]) Ak = B at hB q1 q2 q3 hRe
      obtain ⟨Bb, Btr, Bk⟩ := B
      dsimp only at hB q1 q2 q3 hRe
      have hs1 := set_spec G V (by omega) cs tr1 (k + 1) (by omega) (v : Int) (by omega) (by omega) (by omega) d3
      have hs2 := set_spec G V (by omega) cs tr1 Ak (by omega) (-(v : Int)) (by omega) (by omega) (by omega) d3'
      have hb1 := back_spec G V (by omega) cs (tr1 ++ [(v : Int)]) g1 Ak (by simp; omega) tr1.length (by simp)
      have hb2 := back_spec G V (by omega) cs (tr1 ++ [-(v : Int)]) g2 Bk (by simp; omega) tr1.length (by simp)
      have hb3 := back_spec G V (by omega) cs tr1 a2 Bk (by omega) tr.length (by rw [a1]; simp)
      rw [show ∀ y : Int, (tr1 ++ [y]).take tr1.length = tr1 from fun y => by simp] at hb1 hb2
      rw [htk] at hb3
      simp only [solR] at hA hB hs1 hs2 hb1 hb2 hb3
      refine AW_rg (tyOf_good _) [0, 4, 5, 43] [22, 20, 502] (notIn_ok rfl) fun K' hK' => ?_
      repeat (refine sxf_next fun K2 hK2 => ?_; simp [dNum, hv]; (repeat (refine ⟨by omega, ?_⟩)); refine hK2 _ ?_; clear hK2 K2)
      refine sxf_nil (hK' _ ?_)
      refine AW.st (by simp [dNum, hv]; rfl) ?_
      clear hK' K'
      refine AW_cond false rfl (fun h => by cases h) (fun _ => ?_)
      refine AW_skip (hK3 _ ?_)
      refine AW_then fun K4 hK4 => ?_
      refine AW_rg (tyOf_good _) [0, 4, 47, 48, 49] [22, 20, 502, 47] (notIn_ok rfl) fun K' hK' => ?_
      repeat (refine sxf_next fun K2 hK2 => ?_; simp [dNum]; (repeat (refine ⟨by omega, ?_⟩)); refine hK2 _ ?_; clear hK2 K2)
      refine sxf_nil (hK' _ ?_)
      refine AW.st (by simp [dNum]; rfl) ?_
      clear hK' K'
      refine AW.imp (Imp.freeze 47 (by decide)) ?_
      refine AW.st (by simp [dNum]; rfl) ?_
      refine AW_for (S := Nat × Nat) (fun s => (s.1 = 0 ∧ s.2 = k + 1) ∨ (s.1 = 1 ∧ Ab = false ∧ s.2 = Ak) ∨ (s.1 = 2 ∧ Ab = false ∧ Bb = false ∧ s.2 = Bk)) (fun s => ⟨lst [(0, .ref 22 0 0), (4, int tr.length), (47, .d (.sl none [[dNum v], [dNum (-(v : Int))]])), (48, int 2), (49, int s.1)], hlst (solR V cs tr1 s.2)⟩) (fun s => 3 - s.1) (0, k + 1) ?_ (.inl ⟨rfl, rfl⟩) ?_
      · simp only [solR]
        refine Imp.to' (notIn_ok rfl) (by simp [dNum]) (by simp [dNum])
      · rintro ⟨i, kk⟩ hinv
        dsimp only at hinv ⊢
        simp only [solR]
        rcases hinv with ⟨rfl, rfl⟩ | ⟨rfl, hA0, rfl⟩ | ⟨rfl, hA0, hB0, rfl⟩
        · refine AW_rg (tyOf_good _) [0, 4, 47, 48, 49, 50] [22, 20, 502] (notIn_ok rfl) fun K' hK' => ?_
          repeat (refine sxf_next fun K2 hK2 => ?_; simp [dNum]; (repeat (refine ⟨by omega, ?_⟩)); refine hK2 _ ?_; clear hK2 K2)
          refine sxf_nil (hK' _ ?_)
          refine AW.st (by simp [dNum]; rfl) ?_
          clear hK' K'
          refine AW_then fun K5 hK5 => ?_
          refine AW_cond true rfl (fun _ => ?_) (fun h => by cases h)
          refine AW_skip (hK5 _ ?_)
          refine AW_then fun K6 hK6 => ?_
          refine AW_block ?_
          refine AW_rg (tyOf_good _) [0, 4, 7, 47, 48, 49] [22, 20, 502] (notIn_ok rfl) fun K' hK' => ?_
          repeat (refine sxf_next fun K2 hK2 => ?_; simp [dNum]; (repeat (refine ⟨by omega, ?_⟩)); refine hK2 _ ?_; clear hK2 K2)
          refine sxf_nil (hK' _ ?_)
          refine AW.st (by simp [dNum]; rfl) ?_
          clear hK' K'
          refine AW_rg (tyOf_good _) [0, 4, 7, 8, 47, 48, 49] [22, 20, 502] (notIn_ok rfl) fun K' hK' => ?_
          repeat (refine sxf_next fun K2 hK2 => ?_; simp [dNum]; (repeat (refine ⟨by omega, ?_⟩)); refine hK2 _ ?_; clear hK2 K2)
          refine sxf_nil (hK' _ ?_)
          refine AW.st (by simp [dNum]; rfl) ?_
          clear hK' K'
          refine AW_rg (tyOf_good _) [0, 4, 8, 47, 48, 49] [22, 20, 502] (notIn_ok rfl) fun K' hK' => ?_
          repeat (refine sxf_next fun K2 hK2 => ?_; simp [dNum]; (repeat (refine ⟨by omega, ?_⟩)); refine hK2 _ ?_; clear hK2 K2)
          refine sxf_next fun K2 hK2 => ?_
          simp [dNum]
          refine callK.mc (hs1) (by simp [dNum]) (by simp [dNum]) (by simp [dNum]) (by simp [dNum]) ?_
          simp [dNum]
          refine hK2 _ ?_
          clear hK2 K2
          repeat (refine sxf_next fun K2 hK2 => ?_; simp [dNum]; (repeat (refine ⟨by omega, ?_⟩)); refine hK2 _ ?_; clear hK2 K2)
          refine sxf_nil (hK' _ ?_)
          refine AW.st (by simp [dNum]; rfl) ?_
          clear hK' K'
          refine AW_then fun K7 hK7 => ?_
          refine AW_rg (tyOf_good _) [0, 4, 8, 9, 10, 47, 48, 49] [22, 20, 502] (notIn_ok rfl) fun K' hK' => ?_
          repeat (refine sxf_next fun K2 hK2 => ?_; simp [dNum]; (repeat (refine ⟨by omega, ?_⟩)); refine hK2 _ ?_; clear hK2 K2)
          refine sxf_next fun K2 hK2 => ?_
          simp [dNum]
          refine callK.mc (hA) (by simp [dNum]) (by simp [dNum]) (by simp [dNum]) (by simp [dNum]) ?_
          simp [dNum]
          refine hK2 _ ?_
          clear hK2 K2
          repeat (refine sxf_next fun K2 hK2 => ?_; simp [dNum]; (repeat (refine ⟨by omega, ?_⟩)); refine hK2 _ ?_; clear hK2 K2)
          refine sxf_nil (hK' _ ?_)
          refine AW.st (by simp [dNum]; rfl) ?_
          clear hK' K'
          cases Ab with
          | true =>
            rw [if_pos rfl] at hRe
            refine AW_rg (tyOf_good _) [0, 4, 8, 9, 10, 47, 48, 49, 70] [22, 20, 502] (notIn_ok rfl) fun K' hK' => ?_
            repeat (refine sxf_next fun K2 hK2 => ?_; simp [dNum]; (repeat (refine ⟨by omega, ?_⟩)); refine hK2 _ ?_; clear hK2 K2)
            refine sxf_nil (hK' _ ?_)
            refine AW.st (by simp [dNum]; rfl) ?_
            clear hK' K'
            refine AW_cond true rfl (fun _ => ?_) (fun h => by cases h)
            refine AW_rg (tyOf_good _) [2, 3] [22, 20, 502] (notIn_ok rfl) fun K' hK' => ?_
            repeat (refine sxf_next fun K2 hK2 => ?_; simp [dNum]; (repeat (refine ⟨by omega, ?_⟩)); refine hK2 _ ?_; clear hK2 K2)
            refine sxf_nil (hK' _ ?_)
            refine AW.st (by simp [dNum]; rfl) ?_
            clear hK' K'
            refine AW_ret ?_
            simp [solR, ← hRe, dNum, D.le, D.le.go]
          | false =>
            obtain ⟨rfl, _⟩ := e3 rfl
            refine AW_rg (tyOf_good _) [0, 4, 8, 9, 10, 47, 48, 49, 70] [22, 20, 502] (notIn_ok rfl) fun K' hK' => ?_
            repeat (refine sxf_next fun K2 hK2 => ?_; simp [dNum]; (repeat (refine ⟨by omega, ?_⟩)); refine hK2 _ ?_; clear hK2 K2)
            refine sxf_nil (hK' _ ?_)
            refine AW.st (by simp [dNum]; rfl) ?_
            clear hK' K'
            refine AW_cond false rfl (fun h => by cases h) (fun _ => ?_)
            refine AW_skip (hK7 _ ?_)
            refine AW_re (tyOf_good _) fun K' hK' => ?_
            repeat (refine sxf_next fun K2 hK2 => ?_; simp [dNum]; (repeat (refine ⟨by omega, ?_⟩)); refine hK2 _ ?_; clear hK2 K2)
            refine sxf_next fun K2 hK2 => ?_
            simp [dNum]
            refine callK.mc (hb1) (by simp [dNum]) (by simp [dNum]) (by simp [dNum]) (by simp [dNum]) ?_
            simp [dNum]
            refine hK2 _ ?_
            clear hK2 K2
            repeat (refine sxf_next fun K2 hK2 => ?_; simp [dNum]; (repeat (refine ⟨by omega, ?_⟩)); refine hK2 _ ?_; clear hK2 K2)
            refine sxf_nil (hK' _ ?_)
            clear hK' K'
            refine hK6 _ (AW.norm [0, 4, 47, 48, 49] [22, 20, 502] (notIn_ok rfl) (AW.st (by simp [dNum]; rfl) ?_))
            refine AW_re (tyOf_good _) fun K' hK' => ?_
            repeat (refine sxf_next fun K2 hK2 => ?_; simp [dNum]; (repeat (refine ⟨by omega, ?_⟩)); refine hK2 _ ?_; clear hK2 K2)
            refine sxf_nil (hK' _ ?_)
            clear hK' K'
            try simp only [thn, inb]
            refine Again.mk (1, Ak) (by simp) (by dsimp only; omega) ?_
            simp only [solR]
            refine Imp.to' (notIn_ok rfl) (by simp [dNum]) (by simp [dNum])
        · subst hA0
          rw [if_neg (by decide)] at hRe
          refine AW_rg (tyOf_good _) [0, 4, 47, 48, 49, 50] [22, 20, 502] (notIn_ok rfl) fun K' hK' => ?_
          repeat (refine sxf_next fun K2 hK2 => ?_; simp [dNum]; (repeat (refine ⟨by omega, ?_⟩)); refine hK2 _ ?_; clear hK2 K2)
          refine sxf_nil (hK' _ ?_)
          refine AW.st (by simp [dNum]; rfl) ?_
          clear hK' K'
          refine AW_then fun K5 hK5 => ?_
          refine AW_cond true rfl (fun _ => ?_) (fun h => by cases h)
          refine AW_skip (hK5 _ ?_)
          refine AW_then fun K6 hK6 => ?_
          refine AW_block ?_
          refine AW_rg (tyOf_good _) [0, 4, 7, 47, 48, 49] [22, 20, 502] (notIn_ok rfl) fun K' hK' => ?_
          repeat (refine sxf_next fun K2 hK2 => ?_; simp [dNum]; (repeat (refine ⟨by omega, ?_⟩)); refine hK2 _ ?_; clear hK2 K2)
          refine sxf_nil (hK' _ ?_)
          refine AW.st (by simp [dNum]; rfl) ?_
          clear hK' K'
          refine AW_rg (tyOf_good _) [0, 4, 7, 8, 47, 48, 49] [22, 20, 502] (notIn_ok rfl) fun K' hK' => ?_
          repeat (refine sxf_next fun K2 hK2 => ?_; simp [dNum]; (repeat (refine ⟨by omega, ?_⟩)); refine hK2 _ ?_; clear hK2 K2)
          refine sxf_nil (hK' _ ?_)
          refine AW.st (by simp [dNum]; rfl) ?_
          clear hK' K'
          refine AW_rg (tyOf_good _) [0, 4, 8, 47, 48, 49] [22, 20, 502] (notIn_ok rfl) fun K' hK' => ?_
          repeat (refine sxf_next fun K2 hK2 => ?_; simp [dNum]; (repeat (refine ⟨by omega, ?_⟩)); refine hK2 _ ?_; clear hK2 K2)
          refine sxf_next fun K2 hK2 => ?_
          simp [dNum]
          refine callK.mc (hs2) (by simp [dNum]) (by simp [dNum]) (by simp [dNum]) (by simp [dNum]) ?_
          simp [dNum]
          refine hK2 _ ?_
          clear hK2 K2
          repeat (refine sxf_next fun K2 hK2 => ?_; simp [dNum]; (repeat (refine ⟨by omega, ?_⟩)); refine hK2 _ ?_; clear hK2 K2)
          refine sxf_nil (hK' _ ?_)
          refine AW.st (by simp [dNum]; rfl) ?_
          clear hK' K'
          refine AW_then fun K7 hK7 => ?_
          refine AW_rg (tyOf_good _) [0, 4, 8, 9, 10, 47, 48, 49] [22, 20, 502] (notIn_ok rfl) fun K' hK' => ?_
          repeat (refine sxf_next fun K2 hK2 => ?_; simp [dNum]; (repeat (refine ⟨by omega, ?_⟩)); refine hK2 _ ?_; clear hK2 K2)
          refine sxf_next fun K2 hK2 => ?_
          simp [dNum]
          refine callK.mc (hB) (by simp [dNum]) (by simp [dNum]) (by simp [dNum]) (by simp [dNum]) ?_
          simp [dNum]
          refine hK2 _ ?_
          clear hK2 K2
          repeat (refine sxf_next fun K2 hK2 => ?_; simp [dNum]; (repeat (refine ⟨by omega, ?_⟩)); refine hK2 _ ?_; clear hK2 K2)
          refine sxf_nil (hK' _ ?_)
          refine AW.st (by simp [dNum]; rfl) ?_
          clear hK' K'
          cases Bb with
          | true =>
            rw [if_pos rfl] at hRe
            refine AW_rg (tyOf_good _) [0, 4, 8, 9, 10, 47, 48, 49, 70] [22, 20, 502] (notIn_ok rfl) fun K' hK' => ?_
            repeat (refine sxf_next fun K2 hK2 => ?_; simp [dNum]; (repeat (refine ⟨by omega, ?_⟩)); refine hK2 _ ?_; clear hK2 K2)
            refine sxf_nil (hK' _ ?_)
            refine AW.st (by simp [dNum]; rfl) ?_
            clear hK' K'
            refine AW_cond true rfl (fun _ => ?_) (fun h => by cases h)
            refine AW_rg (tyOf_good _) [2, 3] [22, 20, 502] (notIn_ok rfl) fun K' hK' => ?_
            repeat (refine sxf_next fun K2 hK2 => ?_; simp [dNum]; (repeat (refine ⟨by omega, ?_⟩)); refine hK2 _ ?_; clear hK2 K2)
            refine sxf_nil (hK' _ ?_)
            refine AW.st (by simp [dNum]; rfl) ?_
            clear hK' K'
            refine AW_ret ?_
            simp [solR, ← hRe, dNum, D.le, D.le.go]
          | false =>
            obtain ⟨rfl, _⟩ := q3 rfl
            refine AW_rg (tyOf_good _) [0, 4, 8, 9, 10, 47, 48, 49, 70] [22, 20, 502] (notIn_ok rfl) fun K' hK' => ?_
            repeat (refine sxf_next fun K2 hK2 => ?_; simp [dNum]; (repeat (refine ⟨by omega, ?_⟩)); refine hK2 _ ?_; clear hK2 K2)
            refine sxf_nil (hK' _ ?_)
            refine AW.st (by simp [dNum]; rfl) ?_
            clear hK' K'
            refine AW_cond false rfl (fun h => by cases h) (fun _ => ?_)
            refine AW_skip (hK7 _ ?_)
            refine AW_re (tyOf_good _) fun K' hK' => ?_
            repeat (refine sxf_next fun K2 hK2 => ?_; simp [dNum]; (repeat (refine ⟨by omega, ?_⟩)); refine hK2 _ ?_; clear hK2 K2)
            refine sxf_next fun K2 hK2 => ?_
            simp [dNum]
            refine callK.mc (hb2) (by simp [dNum]) (by simp [dNum]) (by simp [dNum]) (by simp [dNum]) ?_
            simp [dNum]
            refine hK2 _ ?_
            clear hK2 K2
            repeat (refine sxf_next fun K2 hK2 => ?_; simp [dNum]; (repeat (refine ⟨by omega, ?_⟩)); refine hK2 _ ?_; clear hK2 K2)
            refine sxf_nil (hK' _ ?_)
            clear hK' K'
            refine hK6 _ (AW.norm [0, 4, 47, 48, 49] [22, 20, 502] (notIn_ok rfl) (AW.st (by simp [dNum]; rfl) ?_))
            refine AW_re (tyOf_good _) fun K' hK' => ?_
            repeat (refine sxf_next fun K2 hK2 => ?_; simp [dNum]; (repeat (refine ⟨by omega, ?_⟩)); refine hK2 _ ?_; clear hK2 K2)
            refine sxf_nil (hK' _ ?_)
            clear hK' K'
            try simp only [thn, inb]
            refine Again.mk (2, Bk) (by simp) (by dsimp only; omega) ?_
            simp only [solR]
            refine Imp.to' (notIn_ok rfl) (by simp [dNum]) (by simp [dNum])
        · subst hA0 hB0
          rw [if_neg (by decide), if_neg (by decide)] at hRe
          refine AW_rg (tyOf_good _) [0, 4, 47, 48, 49, 50] [22, 20, 502] (notIn_ok rfl) fun K' hK' => ?_
          repeat (refine sxf_next fun K2 hK2 => ?_; simp [dNum]; (repeat (refine ⟨by omega, ?_⟩)); refine hK2 _ ?_; clear hK2 K2)
          refine sxf_nil (hK' _ ?_)
          refine AW.st (by simp [dNum]; rfl) ?_
          clear hK' K'
          refine AW_then fun K5 hK5 => ?_
          refine AW_cond false rfl (fun h => by cases h) (fun _ => ?_)
          refine AW_exit (hK4 _ ?_)
          refine AW_rg (tyOf_good _) [] [22, 20, 502] (notIn_ok rfl) fun K' hK' => ?_
          repeat (refine sxf_next fun K2 hK2 => ?_; simp [dNum]; (repeat (refine ⟨by omega, ?_⟩)); refine hK2 _ ?_; clear hK2 K2)
          refine sxf_next fun K2 hK2 => ?_
          simp [dNum]
          refine callK.mc (hb3) (by simp [dNum]) (by simp [dNum]) (by simp [dNum]) (by simp [dNum]) ?_
          simp [dNum]
          refine hK2 _ ?_
          clear hK2 K2
          repeat (refine sxf_next fun K2 hK2 => ?_; simp [dNum]; (repeat (refine ⟨by omega, ?_⟩)); refine hK2 _ ?_; clear hK2 K2)
          refine sxf_nil (hK' _ ?_)
          refine AW.st (by simp [dNum]; rfl) ?_
          clear hK' K'
          refine AW_rg (tyOf_good _) [2, 3] [22, 20, 502] (notIn_ok rfl) fun K' hK' => ?_
          repeat (refine sxf_next fun K2 hK2 => ?_; simp [dNum]; (repeat (refine ⟨by omega, ?_⟩)); refine hK2 _ ?_; clear hK2 K2)
          refine sxf_nil (hK' _ ?_)
          refine AW.st (by simp [dNum]; rfl) ?_
          clear hK' K'
          refine AW_ret ?_
          simp [solR, ← hRe, dNum, D.le, D.le.go]
end Go.Proofs.YtagfbbnlbncjlaaGreatDoor

/-
  Solve, and what the document finds by trying all.
-/
namespace Go.Proofs.YtagfbbnlbncjlaaGreatDoor
set_option linter.unusedSimpArgs false
set_option linter.unusedVariables false
open Go.Av

/-- Values of the variables from 1 on. -/
def dVals (V : Nat) (f : Nat → Bool) : D := .sl none ((List.range V).map fun v => [.v (.bool (f (v + 1)))])

theorem ofL_nil (V : Nat) : ofL V [] = List.replicate (V + 1) [dNum 0] := by
  apply List.ext_getElem
  · simp [ofL]
  · intro i h1 h2
    simp [ofL, isT]
theorem val_isT {V : Nat} {tr : List Int} (v : Nat) : (isT tr (v : Int) == 1) = valT tr v := by
  unfold valT
  by_cases h : (v : Int) ∈ tr
  · rw [isT_one.2 h]; simp [h]
  · have : isT tr (v : Int) ≠ 1 := fun e => h (isT_one.1 e)
    simp [h, this]

set_option maxHeartbeats 8000000 in
theorem Solve_goodM (G : Glob) (V : Nat) (hV : V ≤ 1000) (cs : Cl) (hl : cs.length < 2^60) (hr : ∀ c ∈ cs, c.length < 2^60) (ok : OkC V cs) (he : gateE V cs = none) (M : List Int → Nat)
    (hM : ∀ tr, GoodT V tr → (spreadF cs (V + 1) tr).1 = true → freeF (spreadF cs (V + 1) tr).2 1 V ≠ 0 →
      M ((spreadF cs (V + 1) tr).2 ++ [(freeF (spreadF cs (V + 1) tr).2 1 V : Int)]) < M tr ∧ M ((spreadF cs (V + 1) tr).2 ++ [-(freeF (spreadF cs (V + 1) tr).2 1 V : Int)]) < M tr)
    (n : Nat) (h0 : M [] < n) (hn : 2^n ≤ 20001) :
    PureC Tryz.prog G 23 [dCl V cs] (if (searchF cs V n [] 0).1 = true then .tup [dVals V (valT (searchF cs V n [] 0).2.1), .v .nilIface] else .tup [.sl (some false) [], dErr (some (8, none))]) := by
  have hc := gcheck_spec G V cs hl hr
  rw [he] at hc
  have hs := search_specM G V (by omega) cs hl hr ok M hM n [] 0 (GoodT.nil V) h0 (by omega)
  have hof := ofL_nil V
  have hV9 : (V : Int) ≤ 1000 := by omega
  generalize hRe : searchF cs V n [] 0 = R at hs ⊢
  obtain ⟨Rb, Rtr, Rk⟩ := R
  dsimp only at hs ⊢
  simp only [solR] at hs
  refine PureC.of_body (tyOf_good _) Tryz.func23 rfl rfl (rs := [.tmp 2, .tmp 3]) Tryz.results23 (by simp [Tryz.ntmps23]) fun X => ?_
  simp only [Tryz.ntmps23, List.map]
  refine AW_rg (tyOf_good _) [1] [1] (fun _ _ => trivial) fun K' hK' => ?_
  repeat (refine sxf_next fun K2 hK2 => ?_; simp [dNum, dCl]; (repeat (refine ⟨by omega, ?_⟩)); refine hK2 _ ?_; clear hK2 K2)
  refine sxf_nil (hK' _ ?_)
  refine AW.st (by simp [dNum, dCl]; rfl) ?_
  clear hK' K'
  refine AW_then fun K1 hK1 => ?_
  refine AW_rg (tyOf_good _) [1, 4] [1] (fun _ _ => trivial) fun K' hK' => ?_
  repeat (refine sxf_next fun K2 hK2 => ?_; simp [dNum, dCl]; (repeat (refine ⟨by omega, ?_⟩)); refine hK2 _ ?_; clear hK2 K2)
  refine sxf_next fun K2 hK2 => ?_
  simp [dNum, dCl]
  refine callK.data (hc) (by simp; rfl) (by first | exact D.leGo_refl _ | simp [takeMap, List.map_map, Function.comp_def, D.le, D.le.go, D.le_refl, D.leGo_refl, dNum, dCl]) ?_
  refine hK2 _ ?_
  clear hK2 K2
  simp only [putd, upd_lst]
  repeat (refine sxf_next fun K2 hK2 => ?_; simp [dNum, dCl]; (repeat (refine ⟨by omega, ?_⟩)); refine hK2 _ ?_; clear hK2 K2)
  refine sxf_nil (hK' _ ?_)
  refine AW.st (by simp [dNum, dCl]; rfl) ?_
  clear hK' K'
  refine AW_rg (tyOf_good _) [1, 4, 14] [1] (fun _ _ => trivial) fun K' hK' => ?_
  repeat (refine sxf_next fun K2 hK2 => ?_; simp [dNum, dErr]; (repeat (refine ⟨by omega, ?_⟩)); refine hK2 _ ?_; clear hK2 K2)
  refine sxf_nil (hK' _ ?_)
  refine AW.st (by simp [dNum, dErr]; rfl) ?_
  clear hK' K'
  refine AW_cond false rfl (fun h => by cases h) (fun _ => ?_)
  refine AW_skip (hK1 _ ?_)
  refine AW.imp (Imp.freezeB 1 trivial) ?_
  refine AW.st (by simp [dNum]; rfl) ?_
  refine AW_rl (tyOf_good _) (by kernel_rfl) ([]) ([]) ([0, 1, 2, 3, 4, 5, 6, 7]) [5] [20, 22] (fun _ _ => trivial) (by kernel_rfl) fun K' hK' => ?_
  repeat (refine sxl_nextO rfl fun K2 hK2 => ?_; simp [dNum, hV9]; (repeat (refine ⟨by omega, ?_⟩)); refine hK2 _ ?_; clear hK2 K2)
  refine sxl_nilO (hK' _ ?_)
  refine AW.st (by simp [dNum, hV9]; rfl) ?_
  clear hK' K'
  refine AW.imp (τ := ⟨lst [(5, .ref 22 0 0)], hlst (solR V cs [] 0)⟩) ((Imp.adoptCell 22 3 502 3 1 rfl rfl rfl).trans ?_) ?_
  · simp only [solR, hof]
    refine Imp.to' (fun _ _ => trivial) (by simp [dNum, trL, List.replicate_succ]) (by simp [dNum, trL, List.replicate_succ])
  simp only [solR]
  refine AW_rg (tyOf_good _) [5, 6, 7] [22, 20, 502] (fun _ _ => trivial) fun K' hK' => ?_
  repeat (refine sxf_next fun K2 hK2 => ?_; simp [dNum]; (repeat (refine ⟨by omega, ?_⟩)); refine hK2 _ ?_; clear hK2 K2)
  refine sxf_next fun K2 hK2 => ?_
  simp [dNum]
  refine callK.mc (hs) (by simp [dNum]) (by simp [dNum]) (by simp [dNum]) (by simp [dNum]) ?_
  simp [dNum]
  refine hK2 _ ?_
  clear hK2 K2
  repeat (refine sxf_next fun K2 hK2 => ?_; simp [dNum]; (repeat (refine ⟨by omega, ?_⟩)); refine hK2 _ ?_; clear hK2 K2)
  refine sxf_nil (hK' _ ?_)
  refine AW.st (by simp [dNum]; rfl) ?_
  clear hK' K'
  refine AW_then fun K2 hK2 => ?_
  refine AW_block ?_
  refine AW_rg (tyOf_good _) [5, 6, 7, 28] [22, 20, 502] (fun _ _ => trivial) fun K' hK' => ?_
  repeat (refine sxf_next fun K2 hK2 => ?_; simp [dNum]; (repeat (refine ⟨by omega, ?_⟩)); refine hK2 _ ?_; clear hK2 K2)
  refine sxf_nil (hK' _ ?_)
  refine AW.st (by simp [dNum]; rfl) ?_
  clear hK' K'
  refine AW_cond false rfl (fun h => by cases h) (fun _ => ?_)
  cases Rb with
  | false =>
    refine AW_rg (tyOf_good _) [5, 32] [22, 20, 502] (fun _ _ => trivial) fun K' hK' => ?_
    repeat (refine sxf_next fun K2 hK2 => ?_; simp [dNum]; (repeat (refine ⟨by omega, ?_⟩)); refine hK2 _ ?_; clear hK2 K2)
    refine sxf_nil (hK' _ ?_)
    refine AW.st (by simp [dNum]; rfl) ?_
    clear hK' K'
    refine AW_cond true rfl (fun _ => ?_) (fun h => by cases h)
    refine AW_rg (tyOf_good _) [2, 3] [] (fun _ _ => trivial) fun K' hK' => ?_
    repeat (refine sxf_next fun K2 hK2 => ?_; simp [dNum]; (repeat (refine ⟨by omega, ?_⟩)); refine hK2 _ ?_; clear hK2 K2)
    refine sxf_nil (hK' _ ?_)
    refine AW.st (by simp [dNum]; rfl) ?_
    clear hK' K'
    refine AW_ret ?_
    simp [D.le, D.le.go, takeMap, dNum, dErr]
  | true =>
    refine AW_rg (tyOf_good _) [5, 32] [22, 20, 502] (fun _ _ => trivial) fun K' hK' => ?_
    repeat (refine sxf_next fun K2 hK2 => ?_; simp [dNum]; (repeat (refine ⟨by omega, ?_⟩)); refine hK2 _ ?_; clear hK2 K2)
    refine sxf_nil (hK' _ ?_)
    refine AW.st (by simp [dNum]; rfl) ?_
    clear hK' K'
    refine AW_cond false rfl (fun h => by cases h) (fun _ => ?_)
    refine AW_skip (hK2 _ ?_)
    have hol := ofL_len V Rtr
    have hol2 : List.take (V + 1) (ofL V Rtr) = ofL V Rtr := List.take_of_length_le (by omega)
    have hod := ofL_drop V Rtr
    have hot : List.take V (ofL V Rtr).tail = (ofL V Rtr).tail := List.take_of_length_le (by simp [hol])
    have hoe : ∀ el ∈ ofL V Rtr, el.length = 1 := fun el hel => by
      obtain ⟨v, _, rfl⟩ := List.mem_map.1 hel
      rfl
    have htl : List.take Rtr.length (trL Rtr) = trL Rtr := List.take_of_length_le (by simp [trL])
    have htl2 : (trL Rtr).length = Rtr.length := by simp [trL]
    refine AW.imp (Imp.freeze 20 trivial) ?_
    refine AW.st (by simp [dNum, hol]; rfl) ?_
    refine AW.imp (Imp.freeze 502 trivial) ?_
    refine AW.st (by simp [dNum, htl2]; rfl) ?_
    refine AW.imp (Imp.freezeB 22 trivial) ?_
    refine AW.st (by simp [dNum]; rfl) ?_
    refine AW_rg (tyOf_good _) [5, 8] [] (fun _ _ => trivial) fun K' hK' => ?_
    repeat (refine sxf_next fun K2 hK2 => ?_; simp [dNum]; (repeat (refine ⟨by omega, ?_⟩)); refine hK2 _ ?_; clear hK2 K2)
    refine sxf_nil (hK' _ ?_)
    refine AW.st (by simp [dNum]; rfl) ?_
    clear hK' K'
    refine AW_then fun K3 hK3 => ?_
    rw [List.drop_one] at hod
    generalize ofL V Rtr = O at hol hol2 hot hoe hod
    obtain ⟨T, hT⟩ : ∃ T, O.tail = T := ⟨_, rfl⟩
    rw [hT] at hod hot
    have hTl : T.length = V := by rw [← hT]; simp [hol]
    refine AW_rg (tyOf_good _) [8, 40, 41, 42] [] (fun _ _ => trivial) fun K' hK' => ?_
    repeat (refine sxf_next fun K2 hK2 => ?_; simp [dNum, hol, hot, hT, eq_true hoe]; (repeat (refine ⟨by omega, ?_⟩)); refine hK2 _ ?_; clear hK2 K2)
    refine sxf_nil (hK' _ ?_)
    refine AW.st (by simp [dNum, hol, hot, hT, eq_true hoe]; rfl) ?_
    clear hK' K'
    refine AW_for (S := Nat) (fun i => i ≤ V) (fun i => ⟨lst [(8, .own 300 0 i), (40, .d (.sl none T)), (41, int V), (42, int i)], hlst [(300, .sl 4 1 ((List.range i).map fun v => [.v (.bool (valT Rtr (v + 1)))]))]⟩) (fun i => V - i) 0 ?_ (by omega) ?_
    · refine (Imp.adopt 8 300 4 1 rfl rfl).trans ?_
      refine Imp.to' (fun _ _ => trivial) (by simp [dNum, hTl]) (by simp [dNum, hTl])
    · intro i hi
      refine AW_rg (tyOf_good _) [8, 40, 41, 42, 43] [300] (fun _ _ => trivial) fun K' hK' => ?_
      repeat (refine sxf_next fun K2 hK2 => ?_; simp [dNum]; (repeat (refine ⟨by omega, ?_⟩)); refine hK2 _ ?_; clear hK2 K2)
      refine sxf_nil (hK' _ ?_)
      refine AW.st (by simp [dNum]; rfl) ?_
      clear hK' K'
      refine AW_then fun K4 hK4 => ?_
      refine AW_cond' (b := i < V) (by simp [D.le, D.le.go, takeMap, dNum]) (fun hc => ?_) (fun hc => ?_)
      · have hiV : i < V := hc
        have hiT : i < T.length := by omega
        have hTi : T[i] = [dNum (isT Rtr ((i + 1 : Nat) : Int))] := by
          have h' : T[i]? = some [dNum (isT Rtr ((i + 1 : Nat) : Int))] := by
            rw [hod]
            simp [hiV, Nat.add_comm]
          rw [List.getElem?_eq_getElem hiT] at h'
          exact Option.some.inj h'
        have hvi := val_isT (V := V) (tr := Rtr) (i + 1)
        generalize isT Rtr ((i + 1 : Nat) : Int) = s at hTi hvi
        have hrs : ∀ g : Nat → List D, (List.range (i + 1)).map g = (List.range i).map g ++ [g i] := fun g => by rw [List.range_succ, List.map_append]; rfl
        have htr : ∀ g : Nat → List D, List.take i ((List.range i).map g) = (List.range i).map g := fun g => List.take_of_length_le (by simp)
        refine AW_skip (hK4 _ ?_)
        refine AW_then fun K5 hK5 => ?_
        refine AW_block ?_
        refine AW_rg (tyOf_good _) [8, 10, 40, 41, 42] [300] (fun _ _ => trivial) fun K' hK' => ?_
        repeat (refine sxf_next fun K2 hK2 => ?_; simp [dNum, hiT, hiV, hTi, hTl]; (repeat (refine ⟨by omega, ?_⟩)); refine hK2 _ ?_; clear hK2 K2)
        refine sxf_nil (hK' _ ?_)
        refine AW.st (by simp [dNum, hiT, hiV, hTi, hTl]; rfl) ?_
        clear hK' K'
        refine AW_re (tyOf_good _) fun K' hK' => ?_
        repeat (refine sxf_next fun K2 hK2 => ?_; simp [dNum]; (repeat (refine ⟨by omega, ?_⟩)); refine hK2 _ ?_; clear hK2 K2)
        refine sxf_nil (hK' _ ?_)
        clear hK' K'
        refine hK5 _ (AW.norm [8, 40, 41, 42] [300] (fun _ _ => trivial) (AW.st (by simp [dNum]; rfl) ?_))
        refine AW_re (tyOf_good _) fun K' hK' => ?_
        repeat (refine sxf_next fun K2 hK2 => ?_; simp [dNum]; (repeat (refine ⟨by omega, ?_⟩)); refine hK2 _ ?_; clear hK2 K2)
        refine sxf_nil (hK' _ ?_)
        clear hK' K'
        try simp only [thn, inb]
        refine Again.mk (i + 1) (by omega) (by omega) ?_
        refine Imp.to' (fun _ _ => trivial) (by simp [dNum, hrs, htr, ← hvi]) (by simp [dNum, hrs, htr, ← hvi])
      · obtain rfl : i = V := by omega
        refine AW_exit (hK3 _ ?_)
        refine AW.imp (Imp.freeze 300 trivial) ?_
        refine AW.st (by simp [dNum]; rfl) ?_
        refine AW_rg (tyOf_good _) [2, 3] [] (fun _ _ => trivial) fun K' hK' => ?_
        repeat (refine sxf_next fun K2 hK2 => ?_; simp [dNum]; (repeat (refine ⟨by omega, ?_⟩)); refine hK2 _ ?_; clear hK2 K2)
        refine sxf_nil (hK' _ ?_)
        refine AW.st (by simp [dNum]; rfl) ?_
        clear hK' K'
        refine AW_ret ?_
        simp [D.le, D.le.go, takeMap, dNum, dVals]
end Go.Proofs.YtagfbbnlbncjlaaGreatDoor

/-
  gate.builder: fresh, add.
-/
namespace Go.Proofs.YtagfbbnlbncjlaaGreatDoor
set_option linter.unusedSimpArgs false
set_option linter.unusedVariables false
open Go.Av

def bRow (V : Nat) (cs : Cl) (ents : List (Value × D)) : List (Nat × Row) := [(501, .box 85 [.d (dNum V), .own 502 0 cs.length, .mp 503]), (502, .sl 58 1 (cs.map fun l => [dRow l])), (503, .mp 83 ents)]
set_option maxHeartbeats 4000000 in
theorem fresh_spec (G : Glob) (V : Nat) (hV : V < 2^40) (cs : Cl) (ents : List (Value × D)) : MC Tryz.prog G [501, 503] 41 [.ref 501 0 0] (hlst (bRow V cs ents)) (.d (dNum ((V : Int) + 1))) (hlst (bRow (V + 1) cs ents)) := by
  refine MC.of_body (tyOf_good _) Tryz.func41 rfl rfl (rs := [.tmp 2]) Tryz.results41 (by simp [Tryz.ntmps41]) rfl fun X => ?_
  simp only [Tryz.ntmps41]
  refine AW_rg (tyOf_good _) [0] [501, 502, 503] (notIn_ok rfl) fun K' hK' => ?_
  repeat (refine sxf_next fun K2 hK2 => ?_; simp [dNum, bRow]; (repeat (refine ⟨by omega, ?_⟩)); refine hK2 _ ?_; clear hK2 K2)
  refine sxf_nil (hK' _ ?_)
  refine AW.st (by simp [dNum, bRow]; rfl) ?_
  clear hK' K'
  refine AW_rg (tyOf_good _) [0] [501, 502, 503] (notIn_ok rfl) fun K' hK' => ?_
  repeat (refine sxf_next fun K2 hK2 => ?_; simp [dNum, bRow]; (repeat (refine ⟨by omega, ?_⟩)); refine hK2 _ ?_; clear hK2 K2)
  refine sxf_nil (hK' _ ?_)
  refine AW.st (by simp [dNum, bRow]; rfl) ?_
  clear hK' K'
  refine AW_rg (tyOf_good _) [2] [501, 502, 503] (notIn_ok rfl) fun K' hK' => ?_
  repeat (refine sxf_next fun K2 hK2 => ?_; simp [dNum, bRow]; (repeat (refine ⟨by omega, ?_⟩)); refine hK2 _ ?_; clear hK2 K2)
  refine sxf_nil (hK' _ ?_)
  refine AW.st (by simp [dNum, bRow]; rfl) ?_
  clear hK' K'
  refine AW_ret ?_
  simp [D.le, D.le.go, takeMap, dNum, bRow, bRow, dNum, D.le_refl]
set_option maxHeartbeats 4000000 in
theorem add_spec2 (G : Glob) (V : Nat) (cs : Cl) (hcs : cs.length < 2^40) (ents : List (Value × D)) (l : List Int) : MC Tryz.prog G [501, 503] 73 [.ref 501 0 0, .d (dRow l)] (hlst (bRow V cs ents)) (.d (.tup [])) (hlst (bRow V (cs ++ [l]) ents)) := by
  refine MC.of_body (tyOf_good _) Tryz.func73 rfl rfl (rs := []) Tryz.results73 (by simp [Tryz.ntmps73]) rfl fun X => ?_
  simp only [Tryz.ntmps73]
  refine AW_re (tyOf_good _) fun K' hK' => ?_
  repeat (refine sxf_next fun K2 hK2 => ?_; simp [dNum, bRow, dRow, dInts, List.take_of_length_le]; (repeat (refine ⟨by omega, ?_⟩)); refine hK2 _ ?_; clear hK2 K2)
  refine sxf_nil (hK' _ ?_)
  clear hK' K'
  try simp only [thn, inb]
  simp [D.le_refl, bRow, dRow, dInts, dNum]
end Go.Proofs.YtagfbbnlbncjlaaGreatDoor

/-
  gate.builder: and.
-/
namespace Go.Proofs.YtagfbbnlbncjlaaGreatDoor
set_option linter.unusedSimpArgs false
set_option linter.unusedVariables false
open Go.Av

def inW (x : Int) : Prop := -2^40 < x ∧ x < 2^40
def andC (v : Int) (l : List Int) (cs : Cl) : Cl := cs ++ l.map fun x => [-v, x]
theorem andC_succ (v : Int) {l : List Int} (cs : Cl) {n : Nat} (h : n < l.length) : andC v (l.take (n + 1)) cs = andC v (l.take n) cs ++ [[-v, l[n]]] := by
  unfold andC
  rw [List.take_succ_eq_append_getElem h, List.map_append, ← List.append_assoc]
  rfl
theorem take_neg {l : List Int} {n : Nat} (h : n < l.length) : List.take (n + 1) (l.map fun x => [(.v (.int .i64 (-x)) : D)]) = List.take n (l.map fun x => [(.v (.int .i64 (-x)) : D)]) ++ [[.v (.int .i64 (-l[n]))]] := by
  rw [List.take_succ_eq_append_getElem (by simpa using h)]
  simp
set_option maxHeartbeats 8000000 in
theorem gand_spec (G : Glob) (V : Nat) (hV : V < 2^39) (cs : Cl) (hcs : cs.length < 2^38) (ents : List (Value × D)) (l : List Int) (hl : l.length < 2^38) (hx : ∀ x ∈ l, inW x) : MC Tryz.prog G [501, 503] 72 [.ref 501 0 0, .d (dRow l)] (hlst (bRow V cs ents)) (.d (dNum (mkAnd l (V, cs)).1)) (hlst (bRow (mkAnd l (V, cs)).2.1 (mkAnd l (V, cs)).2.2 ents)) := by
  refine MC.of_body (tyOf_good _) Tryz.func72 rfl rfl (rs := [.tmp 4]) Tryz.results72 (by simp [Tryz.ntmps72]) rfl fun X => ?_
  simp only [Tryz.ntmps72]
  have hf := fresh_spec G V (by omega) cs ents
  refine AW_rg (tyOf_good _) [0, 1] [501, 502, 503] (notIn_ok rfl) fun K' hK' => ?_
  repeat (refine sxf_next fun K2 hK2 => ?_; simp [dNum, bRow, takeMap, Function.comp_def]; (repeat (refine ⟨by omega, ?_⟩)); refine hK2 _ ?_; clear hK2 K2)
  refine sxf_nil (hK' _ ?_)
  refine AW.st (by simp [dNum, bRow, takeMap, Function.comp_def]; rfl) ?_
  clear hK' K'
  refine AW_rg (tyOf_good _) [0, 1, 5] [501, 502, 503] (notIn_ok rfl) fun K' hK' => ?_
  repeat (refine sxf_next fun K2 hK2 => ?_; simp [dNum, bRow, takeMap, Function.comp_def]; (repeat (refine ⟨by omega, ?_⟩)); refine hK2 _ ?_; clear hK2 K2)
  refine sxf_next fun K2 hK2 => ?_
  simp [dNum, bRow, takeMap, Function.comp_def]
  refine callK.mc (hf) (by simp [dNum, bRow, takeMap, Function.comp_def]) (by simp [dNum, bRow, takeMap, Function.comp_def]) (by simp [dNum, bRow, takeMap, Function.comp_def]) (by simp [dNum, bRow, takeMap, Function.comp_def]) ?_
  simp [dNum, bRow, takeMap, Function.comp_def]
  refine hK2 _ ?_
  clear hK2 K2
  repeat (refine sxf_next fun K2 hK2 => ?_; simp [dNum, bRow, takeMap, Function.comp_def]; (repeat (refine ⟨by omega, ?_⟩)); refine hK2 _ ?_; clear hK2 K2)
  refine sxf_nil (hK' _ ?_)
  refine AW.st (by simp [dNum, bRow, takeMap, Function.comp_def]; rfl) ?_
  clear hK' K'
  refine AW_rg (tyOf_good _) [0, 1, 5, 6] [501, 502, 503, 12] (notIn_ok rfl) fun K' hK' => ?_
  repeat (refine sxf_next fun K2 hK2 => ?_; simp [dNum, bRow, takeMap, Function.comp_def]; (repeat (refine ⟨by omega, ?_⟩)); refine hK2 _ ?_; clear hK2 K2)
  refine sxf_nil (hK' _ ?_)
  refine AW.st (by simp [dNum, bRow, takeMap, Function.comp_def]; rfl) ?_
  clear hK' K'
  refine AW_then fun K1 hK1 => ?_
  refine AW_rg (tyOf_good _) [0, 5, 6, 13, 14, 15] [501, 502, 503, 12] (notIn_ok rfl) fun K' hK' => ?_
  repeat (refine sxf_next fun K2 hK2 => ?_; simp [dNum, bRow, takeMap, Function.comp_def, dRow, dInts]; (repeat (refine ⟨by omega, ?_⟩)); refine hK2 _ ?_; clear hK2 K2)
  refine sxf_nil (hK' _ ?_)
  refine AW.st (by simp [dNum, bRow, takeMap, Function.comp_def, dRow, dInts]; rfl) ?_
  clear hK' K'
  refine AW_for (S := Nat) (fun n => n ≤ l.length) (fun n => ⟨lst [(0, .ref 501 0 0), (5, int ((V : Int) + 1)), (6, .own 12 0 (n + 1)), (13, .d (dRow l)), (14, int l.length), (15, int n)], hlst (bRow (V + 1) (andC ((V : Int) + 1) (l.take n) cs) ents ++ [(12, .sl 3 1 ([dNum ((V : Int) + 1)] :: (l.take n).map fun x => [dNum (-x)]))])⟩) (fun n => l.length - n) 0 ?_ (by omega) ?_
  · refine Imp.to' (notIn_ok rfl) (by simp [dNum, bRow, takeMap, Function.comp_def, andC, dRow, dInts]) (by simp [dNum, bRow, takeMap, Function.comp_def, andC, dRow, dInts])
  · intro n hn
    refine AW_rg (tyOf_good _) [0, 5, 6, 13, 14, 15, 16] [501, 502, 503, 12] (notIn_ok rfl) fun K' hK' => ?_
    repeat (refine sxf_next fun K2 hK2 => ?_; simp [dNum, bRow, takeMap, Function.comp_def]; (repeat (refine ⟨by omega, ?_⟩)); refine hK2 _ ?_; clear hK2 K2)
    refine sxf_nil (hK' _ ?_)
    refine AW.st (by simp [dNum, bRow, takeMap, Function.comp_def]; rfl) ?_
    clear hK' K'
    refine AW_then fun K2 hK2 => ?_
    refine AW_cond' (b := n < l.length) (by simp [D.le, D.le.go, takeMap, dNum, bRow, takeMap, Function.comp_def]) (fun hc => ?_) (fun hc => ?_)
    · have hnl : n < l.length := hc
      have hxn := hx _ (List.getElem_mem hnl)
      have hlen : (andC ((V : Int) + 1) (l.take n) cs).length < 2^40 := by simp only [andC, List.length_append, List.length_map, List.length_take]; omega
      have ha := add_spec2 G (V + 1) (andC ((V : Int) + 1) (l.take n) cs) hlen ents [-((V : Int) + 1), l[n]]
      rw [← andC_succ _ _ hnl] at ha
      have htk := take_neg hnl
      have hmin : min n l.length = n := by omega
      unfold inW at hxn
      refine AW_skip (hK2 _ ?_)
      refine AW_then fun K3 hK3 => ?_
      refine AW_block ?_
      refine AW_rg (tyOf_good _) [0, 5, 6, 8, 13, 14, 15] [501, 502, 503, 12] (notIn_ok rfl) fun K' hK' => ?_
      repeat (refine sxf_next fun K2 hK2 => ?_; simp [dNum, bRow, takeMap, Function.comp_def, dRow, dInts, hnl]; (repeat (refine ⟨by omega, ?_⟩)); refine hK2 _ ?_; clear hK2 K2)
      refine sxf_nil (hK' _ ?_)
      refine AW.st (by simp [dNum, bRow, takeMap, Function.comp_def, dRow, dInts, hnl]; rfl) ?_
      clear hK' K'
      refine AW_rg (tyOf_good _) [0, 5, 6, 8, 13, 14, 15] [501, 502, 503, 12] (notIn_ok rfl) fun K' hK' => ?_
      repeat (refine sxf_next fun K2 hK2 => ?_; simp [dNum, bRow, takeMap, Function.comp_def, dRow, dInts]; (repeat (refine ⟨by omega, ?_⟩)); refine hK2 _ ?_; clear hK2 K2)
      refine sxf_next fun K2 hK2 => ?_
      simp [dNum, bRow, takeMap, Function.comp_def, dRow, dInts]
      refine callK.frz 23 (by first | rfl | (simp [dNum, bRow, takeMap, Function.comp_def, dRow, dInts]; rfl)) (by decide) ?_
      simp [dNum, bRow, takeMap, Function.comp_def, dRow, dInts]
      refine callK.mc (ha) (by simp [dNum, bRow, takeMap, Function.comp_def, dRow, dInts]) (by simp [dNum, bRow, takeMap, Function.comp_def, dRow, dInts]) (by simp [dNum, bRow, takeMap, Function.comp_def, dRow, dInts]) (by simp [dNum, bRow, takeMap, Function.comp_def, dRow, dInts]) ?_
      simp [dNum, bRow, takeMap, Function.comp_def, dRow, dInts]
      refine hK2 _ ?_
      clear hK2 K2
      repeat (refine sxf_next fun K2 hK2 => ?_; simp [dNum, bRow, takeMap, Function.comp_def, dRow, dInts]; (repeat (refine ⟨by omega, ?_⟩)); refine hK2 _ ?_; clear hK2 K2)
      refine sxf_nil (hK' _ ?_)
      refine AW.st (by simp [dNum, bRow, takeMap, Function.comp_def, dRow, dInts]; rfl) ?_
      clear hK' K'
      refine AW_re (tyOf_good _) fun K' hK' => ?_
      repeat (refine sxf_next fun K2 hK2 => ?_; simp [dNum, bRow, takeMap, Function.comp_def, hmin]; (repeat (refine ⟨by omega, ?_⟩)); refine hK2 _ ?_; clear hK2 K2)
      refine sxf_nil (hK' _ ?_)
      clear hK' K'
      refine hK3 _ (AW.norm [0, 5, 6, 13, 14, 15] [501, 502, 503, 12] (notIn_ok rfl) (AW.st (by simp [dNum, bRow, takeMap, Function.comp_def, hmin]; rfl) ?_))
      refine AW_re (tyOf_good _) fun K' hK' => ?_
      repeat (refine sxf_next fun K2 hK2 => ?_; simp [dNum, bRow, takeMap, Function.comp_def]; (repeat (refine ⟨by omega, ?_⟩)); refine hK2 _ ?_; clear hK2 K2)
      refine sxf_nil (hK' _ ?_)
      clear hK' K'
      try simp only [thn, inb]
      refine Again.mk (n + 1) (by omega) (by omega) ?_
      refine Imp.to' (notIn_ok rfl) (by simp [dNum, bRow, takeMap, Function.comp_def, htk, hmin, dRow, dInts, List.take_take]) (by simp [dNum, bRow, takeMap, Function.comp_def, htk, hmin, dRow, dInts, List.take_take])
    · obtain rfl : n = l.length := by omega
      rw [List.take_length]
      have hlen : (andC ((V : Int) + 1) l cs).length < 2^40 := by simp only [andC, List.length_append, List.length_map]; omega
      have ha := add_spec2 G (V + 1) (andC ((V : Int) + 1) l cs) hlen ents (((V : Int) + 1) :: l.map fun x => -x)
      refine AW_exit (hK1 _ ?_)
      refine AW_rg (tyOf_good _) [5] [501, 502, 503] (notIn_ok rfl) fun K' hK' => ?_
      repeat (refine sxf_next fun K2 hK2 => ?_; simp [dNum, bRow, takeMap, Function.comp_def, dRow, dInts]; (repeat (refine ⟨by omega, ?_⟩)); refine hK2 _ ?_; clear hK2 K2)
      refine sxf_next fun K2 hK2 => ?_
      simp [dNum, bRow, takeMap, Function.comp_def, dRow, dInts]
      refine callK.frz 12 (by first | rfl | (simp [dNum, bRow, takeMap, Function.comp_def, dRow, dInts]; rfl)) (by decide) ?_
      simp [dNum, bRow, takeMap, Function.comp_def, dRow, dInts]
      refine callK.mc (ha) (by simp [dNum, bRow, takeMap, Function.comp_def, dRow, dInts]) (by simp [dNum, bRow, takeMap, Function.comp_def, dRow, dInts]) (by simp [dNum, bRow, takeMap, Function.comp_def, dRow, dInts]) (by simp [dNum, bRow, takeMap, Function.comp_def, dRow, dInts]) ?_
      simp [dNum, bRow, takeMap, Function.comp_def, dRow, dInts]
      refine hK2 _ ?_
      clear hK2 K2
      repeat (refine sxf_next fun K2 hK2 => ?_; simp [dNum, bRow, takeMap, Function.comp_def, dRow, dInts]; (repeat (refine ⟨by omega, ?_⟩)); refine hK2 _ ?_; clear hK2 K2)
      refine sxf_nil (hK' _ ?_)
      refine AW.st (by simp [dNum, bRow, takeMap, Function.comp_def, dRow, dInts]; rfl) ?_
      clear hK' K'
      refine AW_rg (tyOf_good _) [4] [501, 502, 503] (notIn_ok rfl) fun K' hK' => ?_
      repeat (refine sxf_next fun K2 hK2 => ?_; simp [dNum, bRow, takeMap, Function.comp_def]; (repeat (refine ⟨by omega, ?_⟩)); refine hK2 _ ?_; clear hK2 K2)
      refine sxf_nil (hK' _ ?_)
      refine AW.st (by simp [dNum, bRow, takeMap, Function.comp_def]; rfl) ?_
      clear hK' K'
      refine AW_ret ?_
      simp [mkAnd, andC, bRow, dNum, D.le, dRow, dInts, Function.comp_def, Nat.add_assoc]
end Go.Proofs.YtagfbbnlbncjlaaGreatDoor

/-
  Plain: what is asked of names, where these are those that an expression names.
-/
namespace Go.Proofs.YtagfbbnlbncjlaaGreatDoor
set_option linter.unusedSimpArgs false
set_option linter.unusedVariables false
open Go.Av

theorem nameF_nn {s : Tx} (h : nameF s = true) : s ≠ [] := (name_facts h).1
end Go.Proofs.YtagfbbnlbncjlaaGreatDoor

/-
  gate.builder: the literal of an expression.
-/
namespace Go.Proofs.YtagfbbnlbncjlaaGreatDoor
set_option linter.unusedSimpArgs false
set_option linter.unusedVariables false
open Go.Av

theorem litsG_app (ns es : List Tx) : ∀ (a b : List Ex) (c : Cs), litsG ns es (a ++ b) c = ((litsG ns es a c).1 ++ (litsG ns es b (litsG ns es a c).2).1, (litsG ns es b (litsG ns es a c).2).2)
  | [], b, c => by simp [litsG]
  | e :: a, b, c => by simp only [List.cons_append, litsG, litsG_app ns es a b]
theorem litsG_take (ns es : List Tx) {l : List Ex} {i : Nat} (h : i < l.length) (c : Cs) : litsG ns es (l.take (i + 1)) c = ((litsG ns es (l.take i) c).1 ++ [(litG ns es l[i] (litsG ns es (l.take i) c).2).1], (litG ns es l[i] (litsG ns es (l.take i) c).2).2) := by
  rw [List.take_succ_eq_append_getElem h, litsG_app]
  simp [litsG]
theorem litsG_len (ns es : List Tx) : ∀ (l : List Ex) (c : Cs), (litsG ns es l c).1.length = l.length
  | [], c => rfl
  | e :: l, c => by simp [litsG, litsG_len ns es l]
theorem litsG_size (ns es : List Tx) : ∀ (l : List Ex) (c : Cs), (litsG ns es l c).2.1 ≤ c.1 + szNs l ∧ (litsG ns es l c).2.2.length + l.length ≤ c.2.length + 4 * szNs l
  | [], c => by simp [litsG]
  | e :: l, c => by
    have h1 := lit_size ns es _ e (Nat.le_refl _) c
    have h2 := litsG_size ns es l (litG ns es e c).2
    simp only [litsG, szNs, List.length_cons]
    omega
/-- The names' variables, as the map has them. -/
structure EntsOk (ns es : List Tx) (ents : List (Value × D)) : Prop where
  keys : ∀ p ∈ ents, keyOk TypeDesc.string p.1 = true
  is : ∀ s ∈ ns, entGet (.string (bs s)) ents = some (dNum ((ixT ns s : Int) + 1))
  was : ∀ s ∈ es, entGet (.string (bs (94 :: s))) ents = some (dNum ((ns.length : Int) + ixT es s + 1))

def LitAt (G : Glob) (ns es : List Tx) (ents : List (Value × D)) (e : Ex) : Prop := ∀ (V : Nat) (cs : Cl), ns.length + es.length ≤ V → V + szN e ≤ 2^36 → cs.length + 4 * szN e ≤ 2^36 →
  MC Tryz.prog G [501, 503] 42 [.ref 501 0 0, .d (dE e)] (hlst (bRow V cs ents)) (.d (dNum (litG ns es e (V, cs)).1)) (hlst (bRow (litG ns es e (V, cs)).2.1 (litG ns es e (V, cs)).2.2 ents))

theorem bs94 (s : Tx) : (⟨#[94]⟩ : ByteArray) ++ bs s = bs (94 :: s) := by
  have : (⟨#[94]⟩ : ByteArray) = bs [94] := rfl
  rw [this, bs_append]; rfl
theorem litG_vars (ns es : List Tx) : ∀ (n : Nat) (e : Ex), SizeOf.sizeOf e ≤ n → ∀ c : Cs, c.1 ≤ (litG ns es e c).2.1
  | 0, e, hn, _ => by cases e <;> simp at hn
  | n + 1, e, hn, c => by
    have many : ∀ l : List Ex, (∀ x ∈ l, SizeOf.sizeOf x ≤ n) → ∀ c : Cs, c.1 ≤ (litsG ns es l c).2.1 := by
      intro l
      induction l with
      | nil => intro _ c; simp [litsG]
      | cons x l ih =>
        intro hs c
        have h1 := litG_vars ns es n x (hs x (by simp)) c
        have h2 := ih (fun y hy => hs y (by simp [hy])) (litG ns es x c).2
        simp only [litsG]
        omega
    cases e with
    | cst b => simp [litG]
    | bit s => simp [litG]
    | rise s => simp [litG, mkAnd]
    | fall s => simp [litG, mkAnd]
    | not x => have := litG_vars ns es n x (by simp at hn; omega) c; simpa [litG] using this
    | and l =>
      have := many l (fun x hx => by have := List.sizeOf_lt_of_mem hx; simp only [Ex.and.sizeOf_spec] at hn; omega) c
      simp only [litG, mkAnd]; omega
    | or l =>
      have := many l (fun x hx => by have := List.sizeOf_lt_of_mem hx; simp only [Ex.or.sizeOf_spec] at hn; omega) c
      simp only [litG, mkAnd]; omega
/-- Each part's literals lie within bounds. -/
theorem lit_inW (ns es : List Tx) (e : Ex) (hN : ∀ s ∈ nmsE true e, s ∈ ns) (hE : ∀ s ∈ nmsE false e, s ∈ es) (hw : WfE e) (c : Cs) (h0 : ns.length + es.length ≤ c.1) (h1 : c.1 + szN e ≤ 2^36) : -2^37 < (litG ns es e c).1 ∧ (litG ns es e c).1 < 2^37 := by
  obtain ⟨_, ⟨_, h3, h4⟩, _⟩ := lit_tells ns es _ e (Nat.le_refl _) hN hE hw c h0
  have := (lit_size ns es _ e (Nat.le_refl _) c).1
  omega
theorem lits_inW (ns es : List Tx) : ∀ (l : List Ex), (∀ s ∈ nmsL true l, s ∈ ns) → (∀ s ∈ nmsL false l, s ∈ es) → (∀ x ∈ l, WfE x) → ∀ c : Cs, ns.length + es.length ≤ c.1 → c.1 + szNs l ≤ 2^36 → ∀ x ∈ (litsG ns es l c).1, -2^37 < x ∧ x < 2^37
  | [], _, _, _, _, _, _, x, hx => by simp [litsG] at hx
  | e :: l, h1, h2, h3, c, h0, h4, x, hx => by
    simp only [nmsL, List.mem_append] at h1 h2
    simp only [szNs] at h4
    simp only [litsG, List.mem_cons] at hx
    have hg := (lit_tells ns es _ e (Nat.le_refl _) (fun s h => h1 s (.inl h)) (fun s h => h2 s (.inl h)) (h3 e (by simp)) c h0).1.vars
    have hs := (lit_size ns es _ e (Nat.le_refl _) c).1
    rcases hx with rfl | hx
    · exact lit_inW ns es e (fun s h => h1 s (.inl h)) (fun s h => h2 s (.inl h)) (h3 e (by simp)) c h0 (by omega)
    · exact lits_inW ns es l (fun s h => h1 s (.inr h)) (fun s h => h2 s (.inr h)) (fun y hy => h3 y (by simp [hy])) _ (by omega) (by omega) x hx
theorem litsG_vars (ns es : List Tx) : ∀ (l : List Ex) (c : Cs), c.1 ≤ (litsG ns es l c).2.1
  | [], c => by simp [litsG]
  | e :: l, c => by
    have h1 := litG_vars ns es _ e (Nat.le_refl _) c
    have h2 := litsG_vars ns es l (litG ns es e c).2
    simp only [litsG]
    omega
theorem len_szNs : ∀ l : List Ex, l.length ≤ szNs l
  | [] => by simp [szNs]
  | e :: l => by
    have h1 := len_szNs l
    have h2 := szN_pos e
    simp only [szNs, List.length_cons]
    omega
theorem nms_at {all : Bool} {l : List Ex} {x : Ex} (hx : x ∈ l) {s : Tx} (h : s ∈ nmsE all x) : s ∈ nmsL all l := by
  induction l with
  | nil => cases hx
  | cons y l ih =>
    rw [nmsL, List.mem_append]
    rcases List.mem_cons.1 hx with rfl | hx
    · exact .inl h
    · exact .inr (ih hx)

set_option maxHeartbeats 16000000 in
theorem lit_spec (G : Glob) (ns es : List Tx) (ents : List (Value × D)) (hen : EntsOk ns es ents) (hns : ns.length ≤ 2^20) (hes : es.length ≤ 2^20) : ∀ (n : Nat) (e : Ex), SizeOf.sizeOf e ≤ n → (∀ s ∈ nmsE true e, s ∈ ns) → (∀ s ∈ nmsE false e, s ∈ es) → WfE e → LitAt G ns es ents e := by
  intro n
  induction n with
  | zero => intro e hsz; cases e <;> simp at hsz
  | succ n ih =>
    intro e hsz hN hE hw V cs hV hV2 hC
    have hk0 : ∀ p ∈ ents, keyOk TypeDesc.string p.1 = true := hen.keys
    simp at hk0
    have hk1 := eq_true hk0
    cases e with
    | bit s =>
      rw [WfE] at hw
      have hs : s ∈ ns := hN s (by simp [nmsE, nmE, one1, nameF_nn hw])
      have hg := hen.is s hs
      rw [litG, dE]
      refine MC.of_body (tyOf_good _) Tryz.func42 rfl rfl (rs := [.tmp 4]) Tryz.results42 (by simp [Tryz.ntmps42]) rfl fun X => ?_
      simp only [Tryz.ntmps42]
      refine AW_rg (tyOf_good _) [0, 1] [501, 502, 503] (notIn_ok rfl) fun K' hK' => ?_
      repeat (refine sxf_next fun K2 hK2 => ?_; simp [dNum, bRow, dS, pairA, assertA, ofOk, zeroM]; (repeat (refine ⟨by omega, ?_⟩)); refine hK2 _ ?_; clear hK2 K2)
      refine sxf_nil (hK' _ ?_)
      refine AW.st (by simp [dNum, bRow, dS, pairA, assertA, ofOk, zeroM]; rfl) ?_
      clear hK' K'
      refine AW_then fun K1 hK1 => ?_
      refine AW_rg (tyOf_good _) [0, 1, 20] [501, 502, 503] (notIn_ok rfl) fun K' hK' => ?_
      repeat (refine sxf_next fun K2 hK2 => ?_; simp [dNum, bRow, dS, pairA, assertA, ofOk, zeroM]; (repeat (refine ⟨by omega, ?_⟩)); refine hK2 _ ?_; clear hK2 K2)
      refine sxf_nil (hK' _ ?_)
      refine AW.st (by simp [dNum, bRow, dS, pairA, assertA, ofOk, zeroM]; rfl) ?_
      clear hK' K'
      refine AW_block ?_
      refine AW_rg (tyOf_good _) [0, 1, 20, 22, 23] [501, 502, 503] (notIn_ok rfl) fun K' hK' => ?_
      repeat (refine sxf_next fun K2 hK2 => ?_; simp [dNum, bRow, dS, pairA, assertA, ofOk, zeroM]; (repeat (refine ⟨by omega, ?_⟩)); refine hK2 _ ?_; clear hK2 K2)
      refine sxf_nil (hK' _ ?_)
      refine AW.st (by simp [dNum, bRow, dS, pairA, assertA, ofOk, zeroM]; rfl) ?_
      clear hK' K'
      refine AW_cond true rfl (fun _ => ?_) (fun h => by cases h)
      refine AW_rg (tyOf_good _) [0, 5] [501, 502, 503] (notIn_ok rfl) fun K' hK' => ?_
      repeat (refine sxf_next fun K2 hK2 => ?_; simp [dNum, bRow, dS, pairA, assertA, ofOk, zeroM]; (repeat (refine ⟨by omega, ?_⟩)); refine hK2 _ ?_; clear hK2 K2)
      refine sxf_nil (hK' _ ?_)
      refine AW.st (by simp [dNum, bRow, dS, pairA, assertA, ofOk, zeroM]; rfl) ?_
      clear hK' K'
      refine AW_rg (tyOf_good _) [4] [501, 502, 503] (notIn_ok rfl) fun K' hK' => ?_
      repeat (refine sxf_next fun K2 hK2 => ?_; simp [dNum, bRow, dS, pairA, assertA, ofOk, zeroM, hg, hk1]; (repeat (refine ⟨by omega, ?_⟩)); refine hK2 _ ?_; clear hK2 K2)
      refine sxf_nil (hK' _ ?_)
      refine AW.st (by simp [dNum, bRow, dS, pairA, assertA, ofOk, zeroM, hg, hk1]; rfl) ?_
      clear hK' K'
      refine AW_ret ?_
      simp [bRow, dNum, D.le]
    | rise s =>
      rw [WfE] at hw
      have hs : s ∈ ns := hN s (by simp [nmsE, nmE, one1, nameF_nn hw])
      have hs2 : s ∈ es := hE s (by simp [nmsE, nmE, one1, nameF_nn hw])
      have hg := hen.is s hs
      have hg2 := hen.was s hs2
      have l1 := ixT_lt hs
      have l2 := ixT_lt hs2
      simp only [szN] at hV2 hC
      have ha := gand_spec G V (by omega) cs (by omega) ents [(ixT ns s : Int) + 1, -((ns.length : Int) + ixT es s + 1)] (by simp) (by intro x hx; simp at hx; unfold inW; rcases hx with rfl | rfl <;> omega)
      have hb := bs94 s
      have hsl := (name_facts hw).2.1
      have h94 : (⟨#[94]⟩ : ByteArray).size = 1 := rfl
      rw [litG, dE]
      generalize mkAnd [(ixT ns s : Int) + 1, -((ns.length : Int) + ixT es s + 1)] (V, cs) = R at ha ⊢
      refine MC.of_body (tyOf_good _) Tryz.func42 rfl rfl (rs := [.tmp 4]) Tryz.results42 (by simp [Tryz.ntmps42]) rfl fun X => ?_
      simp only [Tryz.ntmps42]
      refine AW_rg (tyOf_good _) [0, 1] [501, 502, 503] (notIn_ok rfl) fun K' hK' => ?_
      repeat (refine sxf_next fun K2 hK2 => ?_; simp [dNum, bRow, dS, pairA, assertA, ofOk, zeroM]; (repeat (refine ⟨by omega, ?_⟩)); refine hK2 _ ?_; clear hK2 K2)
      refine sxf_nil (hK' _ ?_)
      refine AW.st (by simp [dNum, bRow, dS, pairA, assertA, ofOk, zeroM]; rfl) ?_
      clear hK' K'
      refine AW_then fun K1 hK1 => ?_
      refine AW_rg (tyOf_good _) [0, 1, 20] [501, 502, 503] (notIn_ok rfl) fun K' hK' => ?_
      repeat (refine sxf_next fun K2 hK2 => ?_; simp [dNum, bRow, dS, pairA, assertA, ofOk, zeroM]; (repeat (refine ⟨by omega, ?_⟩)); refine hK2 _ ?_; clear hK2 K2)
      refine sxf_nil (hK' _ ?_)
      refine AW.st (by simp [dNum, bRow, dS, pairA, assertA, ofOk, zeroM]; rfl) ?_
      clear hK' K'
      refine AW_block ?_
      refine AW_rg (tyOf_good _) [0, 1, 20, 22, 23] [501, 502, 503] (notIn_ok rfl) fun K' hK' => ?_
      repeat (refine sxf_next fun K2 hK2 => ?_; simp [dNum, bRow, dS, pairA, assertA, ofOk, zeroM]; (repeat (refine ⟨by omega, ?_⟩)); refine hK2 _ ?_; clear hK2 K2)
      refine sxf_nil (hK' _ ?_)
      refine AW.st (by simp [dNum, bRow, dS, pairA, assertA, ofOk, zeroM]; rfl) ?_
      clear hK' K'
      refine AW_cond false rfl (fun h => by cases h) (fun _ => ?_)
      refine AW_rg (tyOf_good _) [0, 1, 20, 31, 32] [501, 502, 503] (notIn_ok rfl) fun K' hK' => ?_
      repeat (refine sxf_next fun K2 hK2 => ?_; simp [dNum, bRow, dS, pairA, assertA, ofOk, zeroM]; (repeat (refine ⟨by omega, ?_⟩)); refine hK2 _ ?_; clear hK2 K2)
      refine sxf_nil (hK' _ ?_)
      refine AW.st (by simp [dNum, bRow, dS, pairA, assertA, ofOk, zeroM]; rfl) ?_
      clear hK' K'
      refine AW_cond true rfl (fun _ => ?_) (fun h => by cases h)
      refine AW_rg (tyOf_good _) [0, 6] [501, 502, 503] (notIn_ok rfl) fun K' hK' => ?_
      repeat (refine sxf_next fun K2 hK2 => ?_; simp [dNum, bRow, dS, pairA, assertA, ofOk, zeroM]; (repeat (refine ⟨by omega, ?_⟩)); refine hK2 _ ?_; clear hK2 K2)
      refine sxf_nil (hK' _ ?_)
      refine AW.st (by simp [dNum, bRow, dS, pairA, assertA, ofOk, zeroM]; rfl) ?_
      clear hK' K'
      refine AW_rm (tyOf_good _) (by kernel_rfl) ([502]) ([15]) ([16]) ([]) (List.range 18) [4] [501, 502, 503] (notIn_ok rfl) (by kernel_rfl) (by simp [OffE]) fun K' hK' => ?_
      repeat (refine sxm_nextO rfl fun K2 hK2 => ?_; simp [dNum, bRow, dS, pairA, assertA, ofOk, zeroM, hg, hg2, hk1, hb, h94, binS, bs_size, dRow, dInts]; (repeat (refine ⟨by omega, ?_⟩)); refine hK2 _ ?_; clear hK2 K2)
      refine sxm_nextO rfl fun K2 hK2 => ?_
      simp [dNum, bRow, dS, pairA, assertA, ofOk, zeroM, hg, hg2, hk1, hb, h94, binS, bs_size, dRow, dInts]
      refine hcK.mc (ha) (by simp [dNum, bRow, dS, pairA, assertA, ofOk, zeroM, hg, hg2, hk1, hb, h94, binS, bs_size, dRow, dInts]) (by simp [dNum, bRow, dS, pairA, assertA, ofOk, zeroM, hg, hg2, hk1, hb, h94, binS, bs_size, dRow, dInts]) (by simp [dNum, bRow, dS, pairA, assertA, ofOk, zeroM, hg, hg2, hk1, hb, h94, binS, bs_size, dRow, dInts]) (by simp [dNum, bRow, dS, pairA, assertA, ofOk, zeroM, hg, hg2, hk1, hb, h94, binS, bs_size, dRow, dInts]) (by simp [dNum, bRow, dS, pairA, assertA, ofOk, zeroM, hg, hg2, hk1, hb, h94, binS, bs_size, dRow, dInts]) (by simp [dNum, bRow, dS, pairA, assertA, ofOk, zeroM, hg, hg2, hk1, hb, h94, binS, bs_size, dRow, dInts]) (by simp [LdSame, dNum, bRow, dS, pairA, assertA, ofOk, zeroM, hg, hg2, hk1, hb, h94, binS, bs_size, dRow, dInts]) ?_
      simp [dNum, bRow, dS, pairA, assertA, ofOk, zeroM, hg, hg2, hk1, hb, h94, binS, bs_size, dRow, dInts]
      refine hK2 _ ?_
      clear hK2 K2
      repeat (refine sxm_nextO rfl fun K2 hK2 => ?_; simp [dNum, bRow, dS, pairA, assertA, ofOk, zeroM, hg, hg2, hk1, hb, h94, binS, bs_size, dRow, dInts]; (repeat (refine ⟨by omega, ?_⟩)); refine hK2 _ ?_; clear hK2 K2)
      refine sxm_nilO (hK' _ ?_)
      refine AW.st (by simp [dNum, bRow, dS, pairA, assertA, ofOk, zeroM, hg, hg2, hk1, hb, h94, binS, bs_size, dRow, dInts]; rfl) ?_
      clear hK' K'
      refine AW_ret ?_
      simp [bRow, dNum, D.le, dRow, dInts]
    | fall s =>
      rw [WfE] at hw
      have hs : s ∈ ns := hN s (by simp [nmsE, nmE, one1, nameF_nn hw])
      have hs2 : s ∈ es := hE s (by simp [nmsE, nmE, one1, nameF_nn hw])
      have hg := hen.is s hs
      have hg2 := hen.was s hs2
      have l1 := ixT_lt hs
      have l2 := ixT_lt hs2
      simp only [szN] at hV2 hC
      have ha := gand_spec G V (by omega) cs (by omega) ents [-((ixT ns s : Int) + 1), (ns.length : Int) + ixT es s + 1] (by simp) (by intro x hx; simp at hx; unfold inW; rcases hx with rfl | rfl <;> omega)
      have hb := bs94 s
      have hsl := (name_facts hw).2.1
      have h94 : (⟨#[94]⟩ : ByteArray).size = 1 := rfl
      rw [litG, dE]
      generalize mkAnd [-((ixT ns s : Int) + 1), (ns.length : Int) + ixT es s + 1] (V, cs) = R at ha ⊢
      refine MC.of_body (tyOf_good _) Tryz.func42 rfl rfl (rs := [.tmp 4]) Tryz.results42 (by simp [Tryz.ntmps42]) rfl fun X => ?_
      simp only [Tryz.ntmps42]
      refine AW_rg (tyOf_good _) [0, 1] [501, 502, 503] (notIn_ok rfl) fun K' hK' => ?_
      repeat (refine sxf_next fun K2 hK2 => ?_; simp [dNum, bRow, dS, pairA, assertA, ofOk, zeroM]; (repeat (refine ⟨by omega, ?_⟩)); refine hK2 _ ?_; clear hK2 K2)
      refine sxf_nil (hK' _ ?_)
      refine AW.st (by simp [dNum, bRow, dS, pairA, assertA, ofOk, zeroM]; rfl) ?_
      clear hK' K'
      refine AW_then fun K1 hK1 => ?_
      refine AW_rg (tyOf_good _) [0, 1, 20] [501, 502, 503] (notIn_ok rfl) fun K' hK' => ?_
      repeat (refine sxf_next fun K2 hK2 => ?_; simp [dNum, bRow, dS, pairA, assertA, ofOk, zeroM]; (repeat (refine ⟨by omega, ?_⟩)); refine hK2 _ ?_; clear hK2 K2)
      refine sxf_nil (hK' _ ?_)
      refine AW.st (by simp [dNum, bRow, dS, pairA, assertA, ofOk, zeroM]; rfl) ?_
      clear hK' K'
      refine AW_block ?_
      refine AW_rg (tyOf_good _) [0, 1, 20, 22, 23] [501, 502, 503] (notIn_ok rfl) fun K' hK' => ?_
      repeat (refine sxf_next fun K2 hK2 => ?_; simp [dNum, bRow, dS, pairA, assertA, ofOk, zeroM]; (repeat (refine ⟨by omega, ?_⟩)); refine hK2 _ ?_; clear hK2 K2)
      refine sxf_nil (hK' _ ?_)
      refine AW.st (by simp [dNum, bRow, dS, pairA, assertA, ofOk, zeroM]; rfl) ?_
      clear hK' K'
      refine AW_cond false rfl (fun h => by cases h) (fun _ => ?_)
      refine AW_rg (tyOf_good _) [0, 1, 20, 31, 32] [501, 502, 503] (notIn_ok rfl) fun K' hK' => ?_
      repeat (refine sxf_next fun K2 hK2 => ?_; simp [dNum, bRow, dS, pairA, assertA, ofOk, zeroM]; (repeat (refine ⟨by omega, ?_⟩)); refine hK2 _ ?_; clear hK2 K2)
      refine sxf_nil (hK' _ ?_)
      refine AW.st (by simp [dNum, bRow, dS, pairA, assertA, ofOk, zeroM]; rfl) ?_
      clear hK' K'
      refine AW_cond false rfl (fun h => by cases h) (fun _ => ?_)
      refine AW_rg (tyOf_good _) [0, 1, 20, 51, 52] [501, 502, 503] (notIn_ok rfl) fun K' hK' => ?_
      repeat (refine sxf_next fun K2 hK2 => ?_; simp [dNum, bRow, dS, pairA, assertA, ofOk, zeroM]; (repeat (refine ⟨by omega, ?_⟩)); refine hK2 _ ?_; clear hK2 K2)
      refine sxf_nil (hK' _ ?_)
      refine AW.st (by simp [dNum, bRow, dS, pairA, assertA, ofOk, zeroM]; rfl) ?_
      clear hK' K'
      refine AW_cond true rfl (fun _ => ?_) (fun h => by cases h)
      refine AW_rg (tyOf_good _) [0, 7] [501, 502, 503] (notIn_ok rfl) fun K' hK' => ?_
      repeat (refine sxf_next fun K2 hK2 => ?_; simp [dNum, bRow, dS, pairA, assertA, ofOk, zeroM]; (repeat (refine ⟨by omega, ?_⟩)); refine hK2 _ ?_; clear hK2 K2)
      refine sxf_nil (hK' _ ?_)
      refine AW.st (by simp [dNum, bRow, dS, pairA, assertA, ofOk, zeroM]; rfl) ?_
      clear hK' K'
      refine AW_rm (tyOf_good _) (by kernel_rfl) ([502]) ([15]) ([16]) ([]) (List.range 18) [4] [501, 502, 503] (notIn_ok rfl) (by kernel_rfl) (by simp [OffE]) fun K' hK' => ?_
      repeat (refine sxm_nextO rfl fun K2 hK2 => ?_; simp [dNum, bRow, dS, pairA, assertA, ofOk, zeroM, hg, hg2, hk1, hb, h94, binS, bs_size, dRow, dInts]; (repeat (refine ⟨by omega, ?_⟩)); refine hK2 _ ?_; clear hK2 K2)
      refine sxm_nextO rfl fun K2 hK2 => ?_
      simp [dNum, bRow, dS, pairA, assertA, ofOk, zeroM, hg, hg2, hk1, hb, h94, binS, bs_size, dRow, dInts]
      refine hcK.mc (ha) (by simp [dNum, bRow, dS, pairA, assertA, ofOk, zeroM, hg, hg2, hk1, hb, h94, binS, bs_size, dRow, dInts]) (by simp [dNum, bRow, dS, pairA, assertA, ofOk, zeroM, hg, hg2, hk1, hb, h94, binS, bs_size, dRow, dInts]) (by simp [dNum, bRow, dS, pairA, assertA, ofOk, zeroM, hg, hg2, hk1, hb, h94, binS, bs_size, dRow, dInts]) (by simp [dNum, bRow, dS, pairA, assertA, ofOk, zeroM, hg, hg2, hk1, hb, h94, binS, bs_size, dRow, dInts]) (by simp [dNum, bRow, dS, pairA, assertA, ofOk, zeroM, hg, hg2, hk1, hb, h94, binS, bs_size, dRow, dInts]) (by simp [dNum, bRow, dS, pairA, assertA, ofOk, zeroM, hg, hg2, hk1, hb, h94, binS, bs_size, dRow, dInts]) (by simp [LdSame, dNum, bRow, dS, pairA, assertA, ofOk, zeroM, hg, hg2, hk1, hb, h94, binS, bs_size, dRow, dInts]) ?_
      simp [dNum, bRow, dS, pairA, assertA, ofOk, zeroM, hg, hg2, hk1, hb, h94, binS, bs_size, dRow, dInts]
      refine hK2 _ ?_
      clear hK2 K2
      repeat (refine sxm_nextO rfl fun K2 hK2 => ?_; simp [dNum, bRow, dS, pairA, assertA, ofOk, zeroM, hg, hg2, hk1, hb, h94, binS, bs_size, dRow, dInts]; (repeat (refine ⟨by omega, ?_⟩)); refine hK2 _ ?_; clear hK2 K2)
      refine sxm_nilO (hK' _ ?_)
      refine AW.st (by simp [dNum, bRow, dS, pairA, assertA, ofOk, zeroM, hg, hg2, hk1, hb, h94, binS, bs_size, dRow, dInts]; rfl) ?_
      clear hK' K'
      refine AW_ret ?_
      simp [bRow, dNum, D.le, dRow, dInts]
    | not x =>
      rw [WfE] at hw
      have hN' : ∀ s ∈ nmsE true x, s ∈ ns := fun s h => hN s (by rw [nmsE]; exact h)
      have hE' : ∀ s ∈ nmsE false x, s ∈ es := fun s h => hE s (by rw [nmsE]; exact h)
      simp only [szN] at hV2 hC
      have hc := ih x (by simp at hsz; omega) hN' hE' hw V cs hV (by omega) (by omega)
      have hin := lit_inW ns es x hN' hE' hw (V, cs) hV (by dsimp only; omega)
      rw [litG, dE]
      obtain ⟨tx, cx, hx⟩ := dE_ifc x
      rw [hx] at hc ⊢
      generalize litG ns es x (V, cs) = R at hc hin ⊢
      refine MC.of_body (tyOf_good _) Tryz.func42 rfl rfl (rs := [.tmp 4]) Tryz.results42 (by simp [Tryz.ntmps42]) rfl fun X => ?_
      simp only [Tryz.ntmps42]
      refine AW_rg (tyOf_good _) [0, 1] [501, 502, 503] (notIn_ok rfl) fun K' hK' => ?_
      repeat (refine sxf_next fun K2 hK2 => ?_; simp [dNum, bRow, dS, pairA, assertA, ofOk, zeroM]; (repeat (refine ⟨by omega, ?_⟩)); refine hK2 _ ?_; clear hK2 K2)
      refine sxf_nil (hK' _ ?_)
      refine AW.st (by simp [dNum, bRow, dS, pairA, assertA, ofOk, zeroM]; rfl) ?_
      clear hK' K'
      refine AW_then fun K1 hK1 => ?_
      refine AW_rg (tyOf_good _) [0, 1, 20] [501, 502, 503] (notIn_ok rfl) fun K' hK' => ?_
      repeat (refine sxf_next fun K2 hK2 => ?_; simp [dNum, bRow, dS, pairA, assertA, ofOk, zeroM]; (repeat (refine ⟨by omega, ?_⟩)); refine hK2 _ ?_; clear hK2 K2)
      refine sxf_nil (hK' _ ?_)
      refine AW.st (by simp [dNum, bRow, dS, pairA, assertA, ofOk, zeroM]; rfl) ?_
      clear hK' K'
      refine AW_block ?_
      refine AW_rg (tyOf_good _) [0, 1, 20, 22, 23] [501, 502, 503] (notIn_ok rfl) fun K' hK' => ?_
      repeat (refine sxf_next fun K2 hK2 => ?_; simp [dNum, bRow, dS, pairA, assertA, ofOk, zeroM]; (repeat (refine ⟨by omega, ?_⟩)); refine hK2 _ ?_; clear hK2 K2)
      refine sxf_nil (hK' _ ?_)
      refine AW.st (by simp [dNum, bRow, dS, pairA, assertA, ofOk, zeroM]; rfl) ?_
      clear hK' K'
      refine AW_cond false rfl (fun h => by cases h) (fun _ => ?_)
      refine AW_rg (tyOf_good _) [0, 1, 20, 31, 32] [501, 502, 503] (notIn_ok rfl) fun K' hK' => ?_
      repeat (refine sxf_next fun K2 hK2 => ?_; simp [dNum, bRow, dS, pairA, assertA, ofOk, zeroM]; (repeat (refine ⟨by omega, ?_⟩)); refine hK2 _ ?_; clear hK2 K2)
      refine sxf_nil (hK' _ ?_)
      refine AW.st (by simp [dNum, bRow, dS, pairA, assertA, ofOk, zeroM]; rfl) ?_
      clear hK' K'
      refine AW_cond false rfl (fun h => by cases h) (fun _ => ?_)
      refine AW_rg (tyOf_good _) [0, 1, 20, 51, 52] [501, 502, 503] (notIn_ok rfl) fun K' hK' => ?_
      repeat (refine sxf_next fun K2 hK2 => ?_; simp [dNum, bRow, dS, pairA, assertA, ofOk, zeroM]; (repeat (refine ⟨by omega, ?_⟩)); refine hK2 _ ?_; clear hK2 K2)
      refine sxf_nil (hK' _ ?_)
      refine AW.st (by simp [dNum, bRow, dS, pairA, assertA, ofOk, zeroM]; rfl) ?_
      clear hK' K'
      refine AW_cond false rfl (fun h => by cases h) (fun _ => ?_)
      refine AW_rg (tyOf_good _) [0, 1, 20, 71, 72] [501, 502, 503] (notIn_ok rfl) fun K' hK' => ?_
      repeat (refine sxf_next fun K2 hK2 => ?_; simp [dNum, bRow, dS, pairA, assertA, ofOk, zeroM]; (repeat (refine ⟨by omega, ?_⟩)); refine hK2 _ ?_; clear hK2 K2)
      refine sxf_nil (hK' _ ?_)
      refine AW.st (by simp [dNum, bRow, dS, pairA, assertA, ofOk, zeroM]; rfl) ?_
      clear hK' K'
      refine AW_cond true rfl (fun _ => ?_) (fun h => by cases h)
      refine AW_rg (tyOf_good _) [0, 8] [501, 502, 503, 8] (notIn_ok rfl) fun K' hK' => ?_
      repeat (refine sxf_next fun K2 hK2 => ?_; simp [dNum, bRow, dS, pairA, assertA, ofOk, zeroM]; (repeat (refine ⟨by omega, ?_⟩)); refine hK2 _ ?_; clear hK2 K2)
      refine sxf_nil (hK' _ ?_)
      refine AW.st (by simp [dNum, bRow, dS, pairA, assertA, ofOk, zeroM]; rfl) ?_
      clear hK' K'
      refine AW_rg (tyOf_good _) [4] [501, 502, 503] (notIn_ok rfl) fun K' hK' => ?_
      repeat (refine sxf_next fun K2 hK2 => ?_; simp [dNum, bRow, dS, pairA, assertA, ofOk, zeroM]; (repeat (refine ⟨by omega, ?_⟩)); refine hK2 _ ?_; clear hK2 K2)
      refine sxf_next fun K2 hK2 => ?_
      simp [dNum, bRow, dS, pairA, assertA, ofOk, zeroM]
      refine callK.mc (hc) (by simp [dNum, bRow, dS, pairA, assertA, ofOk, zeroM]) (by simp [dNum, bRow, dS, pairA, assertA, ofOk, zeroM]) (by simp [dNum, bRow, dS, pairA, assertA, ofOk, zeroM]) (by simp [dNum, bRow, dS, pairA, assertA, ofOk, zeroM]) ?_
      simp [dNum, bRow, dS, pairA, assertA, ofOk, zeroM]
      refine hK2 _ ?_
      clear hK2 K2
      repeat (refine sxf_next fun K2 hK2 => ?_; simp [dNum, bRow, dS, pairA, assertA, ofOk, zeroM]; (repeat (refine ⟨by omega, ?_⟩)); refine hK2 _ ?_; clear hK2 K2)
      refine sxf_nil (hK' _ ?_)
      refine AW.st (by simp [dNum, bRow, dS, pairA, assertA, ofOk, zeroM]; rfl) ?_
      clear hK' K'
      refine AW_ret ?_
      simp [bRow, dNum, D.le, dRow, dInts]
    | and l =>
      rw [WfE] at hw
      have hwl := (WfEs_iff l).1 hw.2
      have hN' : ∀ s ∈ nmsL true l, s ∈ ns := fun s h => hN s (by rw [nmsE]; exact h)
      have hE' : ∀ s ∈ nmsL false l, s ∈ es := fun s h => hE s (by rw [nmsE]; exact h)
      simp only [szN] at hV2 hC
      have hch : ∀ x ∈ l, LitAt G ns es ents x := fun x hx => ih x (by have := List.sizeOf_lt_of_mem hx; simp only [Ex.and.sizeOf_spec] at hsz; omega) (fun s h => hN' s (nms_at hx h)) (fun s h => hE' s (nms_at hx h)) (hwl x hx)
      have hlb := len_szNs l
      have hpre : ∀ i, i ≤ l.length → ns.length + es.length ≤ (litsG ns es (l.take i) (V, cs)).2.1 ∧ (litsG ns es (l.take i) (V, cs)).2.1 ≤ V + szNs (l.take i) ∧ (litsG ns es (l.take i) (V, cs)).2.2.length + i ≤ cs.length + 4 * szNs (l.take i) := fun i hi => by
        have h1 := litsG_size ns es (l.take i) (V, cs)
        have h2 := litsG_vars ns es (l.take i) (V, cs)
        rw [List.length_take] at h1
        have : min i l.length = i := by omega
        rw [this] at h1
        dsimp only at h1 h2
        exact ⟨by omega, h1.1, h1.2⟩
      have hall := lits_inW ns es l hN' hE' hwl (V, cs) hV (by dsimp only; omega)
      rw [litG, dE, dEs_map]
      refine MC.of_body (tyOf_good _) Tryz.func42 rfl rfl (rs := [.tmp 4]) Tryz.results42 (by simp [Tryz.ntmps42]) rfl fun X => ?_
      simp only [Tryz.ntmps42]
      refine AW_rg (tyOf_good _) [0, 1] [501, 502, 503] (notIn_ok rfl) fun K' hK' => ?_
      repeat (refine sxf_next fun K2 hK2 => ?_; simp [dNum, bRow, dS, pairA, assertA, ofOk, zeroM]; (repeat (refine ⟨by omega, ?_⟩)); refine hK2 _ ?_; clear hK2 K2)
      refine sxf_nil (hK' _ ?_)
      refine AW.st (by simp [dNum, bRow, dS, pairA, assertA, ofOk, zeroM]; rfl) ?_
      clear hK' K'
      refine AW_then fun K1 hK1 => ?_
      refine AW_rg (tyOf_good _) [0, 1, 20] [501, 502, 503] (notIn_ok rfl) fun K' hK' => ?_
      repeat (refine sxf_next fun K2 hK2 => ?_; simp [dNum, bRow, dS, pairA, assertA, ofOk, zeroM]; (repeat (refine ⟨by omega, ?_⟩)); refine hK2 _ ?_; clear hK2 K2)
      refine sxf_nil (hK' _ ?_)
      refine AW.st (by simp [dNum, bRow, dS, pairA, assertA, ofOk, zeroM]; rfl) ?_
      clear hK' K'
      refine AW_block ?_
      refine AW_rg (tyOf_good _) [0, 1, 20, 22, 23] [501, 502, 503] (notIn_ok rfl) fun K' hK' => ?_
      repeat (refine sxf_next fun K2 hK2 => ?_; simp [dNum, bRow, dS, pairA, assertA, ofOk, zeroM]; (repeat (refine ⟨by omega, ?_⟩)); refine hK2 _ ?_; clear hK2 K2)
      refine sxf_nil (hK' _ ?_)
      refine AW.st (by simp [dNum, bRow, dS, pairA, assertA, ofOk, zeroM]; rfl) ?_
      clear hK' K'
      refine AW_cond false rfl (fun h => by cases h) (fun _ => ?_)
      refine AW_rg (tyOf_good _) [0, 1, 20, 31, 32] [501, 502, 503] (notIn_ok rfl) fun K' hK' => ?_
      repeat (refine sxf_next fun K2 hK2 => ?_; simp [dNum, bRow, dS, pairA, assertA, ofOk, zeroM]; (repeat (refine ⟨by omega, ?_⟩)); refine hK2 _ ?_; clear hK2 K2)
      refine sxf_nil (hK' _ ?_)
      refine AW.st (by simp [dNum, bRow, dS, pairA, assertA, ofOk, zeroM]; rfl) ?_
      clear hK' K'
      refine AW_cond false rfl (fun h => by cases h) (fun _ => ?_)
      refine AW_rg (tyOf_good _) [0, 1, 20, 51, 52] [501, 502, 503] (notIn_ok rfl) fun K' hK' => ?_
      repeat (refine sxf_next fun K2 hK2 => ?_; simp [dNum, bRow, dS, pairA, assertA, ofOk, zeroM]; (repeat (refine ⟨by omega, ?_⟩)); refine hK2 _ ?_; clear hK2 K2)
      refine sxf_nil (hK' _ ?_)
      refine AW.st (by simp [dNum, bRow, dS, pairA, assertA, ofOk, zeroM]; rfl) ?_
      clear hK' K'
      refine AW_cond false rfl (fun h => by cases h) (fun _ => ?_)
      refine AW_rg (tyOf_good _) [0, 1, 20, 71, 72] [501, 502, 503] (notIn_ok rfl) fun K' hK' => ?_
      repeat (refine sxf_next fun K2 hK2 => ?_; simp [dNum, bRow, dS, pairA, assertA, ofOk, zeroM]; (repeat (refine ⟨by omega, ?_⟩)); refine hK2 _ ?_; clear hK2 K2)
      refine sxf_nil (hK' _ ?_)
      refine AW.st (by simp [dNum, bRow, dS, pairA, assertA, ofOk, zeroM]; rfl) ?_
      clear hK' K'
      refine AW_cond false rfl (fun h => by cases h) (fun _ => ?_)
      refine AW_rg (tyOf_good _) [0, 1, 20, 79, 80] [501, 502, 503] (notIn_ok rfl) fun K' hK' => ?_
      repeat (refine sxf_next fun K2 hK2 => ?_; simp [dNum, bRow, dS, pairA, assertA, ofOk, zeroM]; (repeat (refine ⟨by omega, ?_⟩)); refine hK2 _ ?_; clear hK2 K2)
      refine sxf_nil (hK' _ ?_)
      refine AW.st (by simp [dNum, bRow, dS, pairA, assertA, ofOk, zeroM]; rfl) ?_
      clear hK' K'
      refine AW_cond true rfl (fun _ => ?_) (fun h => by cases h)
      refine AW_rg (tyOf_good _) [0, 9] [501, 502, 503] (notIn_ok rfl) fun K' hK' => ?_
      repeat (refine sxf_next fun K2 hK2 => ?_; simp [dNum, bRow, dS, pairA, assertA, ofOk, zeroM]; (repeat (refine ⟨by omega, ?_⟩)); refine hK2 _ ?_; clear hK2 K2)
      refine sxf_nil (hK' _ ?_)
      refine AW.st (by simp [dNum, bRow, dS, pairA, assertA, ofOk, zeroM]; rfl) ?_
      clear hK' K'
      refine AW_rg (tyOf_good _) [0, 9, 10] [501, 502, 503] (notIn_ok rfl) fun K' hK' => ?_
      repeat (refine sxf_next fun K2 hK2 => ?_; simp [dNum, bRow, dS, pairA, assertA, ofOk, zeroM]; (repeat (refine ⟨by omega, ?_⟩)); refine hK2 _ ?_; clear hK2 K2)
      refine sxf_nil (hK' _ ?_)
      refine AW.st (by simp [dNum, bRow, dS, pairA, assertA, ofOk, zeroM]; rfl) ?_
      clear hK' K'
      refine AW_then fun K2 hK2 => ?_
      refine AW_rg (tyOf_good _) [0, 10, 81, 82, 83] [501, 502, 503] (notIn_ok rfl) fun K' hK' => ?_
      repeat (refine sxf_next fun K2 hK2 => ?_; simp [dNum, bRow, dS, pairA, assertA, ofOk, zeroM]; (repeat (refine ⟨by omega, ?_⟩)); refine hK2 _ ?_; clear hK2 K2)
      refine sxf_nil (hK' _ ?_)
      refine AW.st (by simp [dNum, bRow, dS, pairA, assertA, ofOk, zeroM]; rfl) ?_
      clear hK' K'
      refine AW_for (S := Nat) (fun i => i ≤ l.length) (fun i => ⟨lst [(0, .ref 501 0 0), (10, .own 300 0 i), (81, .d (.sl none (l.map fun x => [dE x]))), (82, int l.length), (83, int i)], hlst (bRow (litsG ns es (l.take i) (V, cs)).2.1 (litsG ns es (l.take i) (V, cs)).2.2 ents ++ [(300, .sl 3 1 ((litsG ns es (l.take i) (V, cs)).1.map fun x => [dNum (x)]))])⟩) (fun i => l.length - i) 0 ?_ (by omega) ?_
      · refine (Imp.adopt 10 300 3 1 rfl rfl).trans ?_
        refine Imp.to' (notIn_ok rfl) (by simp [dNum, bRow, dS, pairA, assertA, ofOk, zeroM, litsG]) (by simp [dNum, bRow, dS, pairA, assertA, ofOk, zeroM, litsG])
      · intro i hi
        refine AW_rg (tyOf_good _) [0, 10, 81, 82, 83, 84] [501, 502, 503, 300] (notIn_ok rfl) fun K' hK' => ?_
        repeat (refine sxf_next fun K2 hK2 => ?_; simp [dNum, bRow, dS, pairA, assertA, ofOk, zeroM]; (repeat (refine ⟨by omega, ?_⟩)); refine hK2 _ ?_; clear hK2 K2)
        refine sxf_nil (hK' _ ?_)
        refine AW.st (by simp [dNum, bRow, dS, pairA, assertA, ofOk, zeroM]; rfl) ?_
        clear hK' K'
        refine AW_then fun K3 hK3 => ?_
        refine AW_cond' (b := i < l.length) (by simp [D.le, D.le.go, takeMap, dNum, bRow, dS, pairA, assertA, ofOk, zeroM]) (fun hc => ?_) (fun hc => ?_)
        · have hil : i < l.length := hc
          obtain ⟨p1, p2, p3⟩ := hpre i hi
          have htk := litsG_take ns es hil (V, cs)
          have hsz2 := szNs_take hil
          have hsz3 := szNs_le l (i + 1)
          have hll := litsG_len ns es (l.take i) (V, cs)
          rw [List.length_take] at hll
          have hmn : min i l.length = i := by omega
          rw [hmn] at hll
          have hcc := hch _ (List.getElem_mem hil) _ (litsG ns es (l.take i) (V, cs)).2.2 p1 (by omega) (by omega)
          have hin := lit_inW ns es l[i] (fun s h => hN' s (nms_at (List.getElem_mem hil) h)) (fun s h => hE' s (nms_at (List.getElem_mem hil) h)) (hwl _ (List.getElem_mem hil)) (litsG ns es (l.take i) (V, cs)).2 p1 (by omega)
          obtain ⟨tx, cx, hx⟩ := dE_ifc l[i]
          rw [hx] at hcc
          have hpe : ((litsG ns es (l.take i) (V, cs)).2.1, (litsG ns es (l.take i) (V, cs)).2.2) = (litsG ns es (l.take i) (V, cs)).2 := rfl
          rw [hpe] at hcc
          generalize litG ns es l[i] (litsG ns es (l.take i) (V, cs)).2 = R at hcc hin htk
          generalize litsG ns es (l.take i) (V, cs) = Q at *
          refine AW_skip (hK3 _ ?_)
          refine AW_then fun K4 hK4 => ?_
          refine AW_block ?_
          refine AW_rg (tyOf_good _) [0, 10, 12, 81, 82, 83] [501, 502, 503, 300] (notIn_ok rfl) fun K' hK' => ?_
          repeat (refine sxf_next fun K2 hK2 => ?_; simp [dNum, bRow, dS, pairA, assertA, ofOk, zeroM, hil, hx]; (repeat (refine ⟨by omega, ?_⟩)); refine hK2 _ ?_; clear hK2 K2)
          refine sxf_nil (hK' _ ?_)
          refine AW.st (by simp [dNum, bRow, dS, pairA, assertA, ofOk, zeroM, hil, hx]; rfl) ?_
          clear hK' K'
          refine AW_re (tyOf_good _) fun K' hK' => ?_
          repeat (refine sxf_next fun K2 hK2 => ?_; simp [dNum, bRow, dS, pairA, assertA, ofOk, zeroM]; (repeat (refine ⟨by omega, ?_⟩)); refine hK2 _ ?_; clear hK2 K2)
          refine sxf_next fun K2 hK2 => ?_
          simp [dNum, bRow, dS, pairA, assertA, ofOk, zeroM]
          refine callK.mc (hcc) (by simp [dNum, bRow, dS, pairA, assertA, ofOk, zeroM]) (by simp [dNum, bRow, dS, pairA, assertA, ofOk, zeroM]) (by simp [dNum, bRow, dS, pairA, assertA, ofOk, zeroM]) (by simp [dNum, bRow, dS, pairA, assertA, ofOk, zeroM]) ?_
          simp [dNum, bRow, dS, pairA, assertA, ofOk, zeroM]
          refine hK2 _ ?_
          clear hK2 K2
          repeat (refine sxf_next fun K2 hK2 => ?_; simp [dNum, bRow, dS, pairA, assertA, ofOk, zeroM]; (repeat (refine ⟨by omega, ?_⟩)); refine hK2 _ ?_; clear hK2 K2)
          refine sxf_nil (hK' _ ?_)
          clear hK' K'
          refine hK4 _ (AW.norm [0, 10, 81, 82, 83] [501, 502, 503, 300] (notIn_ok rfl) (AW.st (by simp [dNum, bRow, dS, pairA, assertA, ofOk, zeroM]; rfl) ?_))
          refine AW_re (tyOf_good _) fun K' hK' => ?_
          repeat (refine sxf_next fun K2 hK2 => ?_; simp [dNum, bRow, dS, pairA, assertA, ofOk, zeroM]; (repeat (refine ⟨by omega, ?_⟩)); refine hK2 _ ?_; clear hK2 K2)
          refine sxf_nil (hK' _ ?_)
          clear hK' K'
          try simp only [thn, inb]
          refine Again.mk (i + 1) (by omega) (by omega) ?_
          have hq2 : ∀ f : Int → List D, List.take i (Q.1.map f) = Q.1.map f := fun f => List.take_of_length_le (by rw [List.length_map]; omega)
          refine Imp.to' (notIn_ok rfl) (by simp [dNum, bRow, dS, pairA, assertA, ofOk, zeroM, htk, hll, hq2]) (by simp [dNum, bRow, dS, pairA, assertA, ofOk, zeroM, htk, hll, hq2])
        · obtain rfl : i = l.length := by omega
          obtain ⟨p1, p2, p3⟩ := hpre l.length (Nat.le_refl _)
          rw [List.take_length] at p1 p2 p3 ⊢
          have hll := litsG_len ns es l (V, cs)
          generalize litsG ns es l (V, cs) = Q at *
          have ha := gand_spec G Q.2.1 (by omega) Q.2.2 (by omega) ents Q.1 (by omega) (fun x hx => by have := hall x hx; unfold inW; omega)
          have hpe : (Q.2.1, Q.2.2) = Q.2 := rfl
          rw [hpe] at ha
          obtain ⟨R, hR⟩ : ∃ R, mkAnd Q.1 Q.2 = R := ⟨_, rfl⟩
          rw [hR] at ha
          refine AW_exit (hK2 _ ?_)
          refine AW_rg (tyOf_good _) [4] [501, 502, 503] (notIn_ok rfl) fun K' hK' => ?_
          repeat (refine sxf_next fun K2 hK2 => ?_; simp [dNum, bRow, dS, pairA, assertA, ofOk, zeroM, dRow, dInts, hll, takeMap, Function.comp_def]; (repeat (refine ⟨by omega, ?_⟩)); refine hK2 _ ?_; clear hK2 K2)
          refine sxf_next fun K2 hK2 => ?_
          simp [dNum, bRow, dS, pairA, assertA, ofOk, zeroM, dRow, dInts, hll, takeMap, Function.comp_def]
          refine callK.frz 300 (by first | rfl | (simp [dNum, bRow, dS, pairA, assertA, ofOk, zeroM, dRow, dInts, hll, takeMap, Function.comp_def]; rfl)) (by decide) ?_
          simp [dNum, bRow, dS, pairA, assertA, ofOk, zeroM, dRow, dInts, hll, takeMap, Function.comp_def]
          refine callK.mc (ha) (by simp [dNum, bRow, dS, pairA, assertA, ofOk, zeroM, dRow, dInts, hll, takeMap, Function.comp_def]) (by simp [dNum, bRow, dS, pairA, assertA, ofOk, zeroM, dRow, dInts, hll, takeMap, Function.comp_def]) (by simp [dNum, bRow, dS, pairA, assertA, ofOk, zeroM, dRow, dInts, hll, takeMap, Function.comp_def]) (by simp [dNum, bRow, dS, pairA, assertA, ofOk, zeroM, dRow, dInts, hll, takeMap, Function.comp_def]) ?_
          simp [dNum, bRow, dS, pairA, assertA, ofOk, zeroM, dRow, dInts, hll, takeMap, Function.comp_def]
          refine hK2 _ ?_
          clear hK2 K2
          repeat (refine sxf_next fun K2 hK2 => ?_; simp [dNum, bRow, dS, pairA, assertA, ofOk, zeroM, dRow, dInts, hll, takeMap, Function.comp_def]; (repeat (refine ⟨by omega, ?_⟩)); refine hK2 _ ?_; clear hK2 K2)
          refine sxf_nil (hK' _ ?_)
          refine AW.st (by simp [dNum, bRow, dS, pairA, assertA, ofOk, zeroM, dRow, dInts, hll, takeMap, Function.comp_def]; rfl) ?_
          clear hK' K'
          refine AW_ret ?_
          simp [hR, bRow, dNum, D.le, dRow, dInts]
    | or l =>
      rw [WfE] at hw
      have hwl := (WfEs_iff l).1 hw.2
      have hN' : ∀ s ∈ nmsL true l, s ∈ ns := fun s h => hN s (by rw [nmsE]; exact h)
      have hE' : ∀ s ∈ nmsL false l, s ∈ es := fun s h => hE s (by rw [nmsE]; exact h)
      simp only [szN] at hV2 hC
      have hch : ∀ x ∈ l, LitAt G ns es ents x := fun x hx => ih x (by have := List.sizeOf_lt_of_mem hx; simp only [Ex.or.sizeOf_spec] at hsz; omega) (fun s h => hN' s (nms_at hx h)) (fun s h => hE' s (nms_at hx h)) (hwl x hx)
      have hlb := len_szNs l
      have hpre : ∀ i, i ≤ l.length → ns.length + es.length ≤ (litsG ns es (l.take i) (V, cs)).2.1 ∧ (litsG ns es (l.take i) (V, cs)).2.1 ≤ V + szNs (l.take i) ∧ (litsG ns es (l.take i) (V, cs)).2.2.length + i ≤ cs.length + 4 * szNs (l.take i) := fun i hi => by
        have h1 := litsG_size ns es (l.take i) (V, cs)
        have h2 := litsG_vars ns es (l.take i) (V, cs)
        rw [List.length_take] at h1
        have : min i l.length = i := by omega
        rw [this] at h1
        dsimp only at h1 h2
        exact ⟨by omega, h1.1, h1.2⟩
      have hall := lits_inW ns es l hN' hE' hwl (V, cs) hV (by dsimp only; omega)
      rw [litG, dE, dEs_map]
      refine MC.of_body (tyOf_good _) Tryz.func42 rfl rfl (rs := [.tmp 4]) Tryz.results42 (by simp [Tryz.ntmps42]) rfl fun X => ?_
      simp only [Tryz.ntmps42]
      refine AW_rg (tyOf_good _) [0, 1] [501, 502, 503] (notIn_ok rfl) fun K' hK' => ?_
      repeat (refine sxf_next fun K2 hK2 => ?_; simp [dNum, bRow, dS, pairA, assertA, ofOk, zeroM]; (repeat (refine ⟨by omega, ?_⟩)); refine hK2 _ ?_; clear hK2 K2)
      refine sxf_nil (hK' _ ?_)
      refine AW.st (by simp [dNum, bRow, dS, pairA, assertA, ofOk, zeroM]; rfl) ?_
      clear hK' K'
      refine AW_then fun K1 hK1 => ?_
      refine AW_rg (tyOf_good _) [0, 1, 20] [501, 502, 503] (notIn_ok rfl) fun K' hK' => ?_
      repeat (refine sxf_next fun K2 hK2 => ?_; simp [dNum, bRow, dS, pairA, assertA, ofOk, zeroM]; (repeat (refine ⟨by omega, ?_⟩)); refine hK2 _ ?_; clear hK2 K2)
      refine sxf_nil (hK' _ ?_)
      refine AW.st (by simp [dNum, bRow, dS, pairA, assertA, ofOk, zeroM]; rfl) ?_
      clear hK' K'
      refine AW_block ?_
      refine AW_rg (tyOf_good _) [0, 1, 20, 22, 23] [501, 502, 503] (notIn_ok rfl) fun K' hK' => ?_
      repeat (refine sxf_next fun K2 hK2 => ?_; simp [dNum, bRow, dS, pairA, assertA, ofOk, zeroM]; (repeat (refine ⟨by omega, ?_⟩)); refine hK2 _ ?_; clear hK2 K2)
      refine sxf_nil (hK' _ ?_)
      refine AW.st (by simp [dNum, bRow, dS, pairA, assertA, ofOk, zeroM]; rfl) ?_
      clear hK' K'
      refine AW_cond false rfl (fun h => by cases h) (fun _ => ?_)
      refine AW_rg (tyOf_good _) [0, 1, 20, 31, 32] [501, 502, 503] (notIn_ok rfl) fun K' hK' => ?_
      repeat (refine sxf_next fun K2 hK2 => ?_; simp [dNum, bRow, dS, pairA, assertA, ofOk, zeroM]; (repeat (refine ⟨by omega, ?_⟩)); refine hK2 _ ?_; clear hK2 K2)
      refine sxf_nil (hK' _ ?_)
      refine AW.st (by simp [dNum, bRow, dS, pairA, assertA, ofOk, zeroM]; rfl) ?_
      clear hK' K'
      refine AW_cond false rfl (fun h => by cases h) (fun _ => ?_)
      refine AW_rg (tyOf_good _) [0, 1, 20, 51, 52] [501, 502, 503] (notIn_ok rfl) fun K' hK' => ?_
      repeat (refine sxf_next fun K2 hK2 => ?_; simp [dNum, bRow, dS, pairA, assertA, ofOk, zeroM]; (repeat (refine ⟨by omega, ?_⟩)); refine hK2 _ ?_; clear hK2 K2)
      refine sxf_nil (hK' _ ?_)
      refine AW.st (by simp [dNum, bRow, dS, pairA, assertA, ofOk, zeroM]; rfl) ?_
      clear hK' K'
      refine AW_cond false rfl (fun h => by cases h) (fun _ => ?_)
      refine AW_rg (tyOf_good _) [0, 1, 20, 71, 72] [501, 502, 503] (notIn_ok rfl) fun K' hK' => ?_
      repeat (refine sxf_next fun K2 hK2 => ?_; simp [dNum, bRow, dS, pairA, assertA, ofOk, zeroM]; (repeat (refine ⟨by omega, ?_⟩)); refine hK2 _ ?_; clear hK2 K2)
      refine sxf_nil (hK' _ ?_)
      refine AW.st (by simp [dNum, bRow, dS, pairA, assertA, ofOk, zeroM]; rfl) ?_
      clear hK' K'
      refine AW_cond false rfl (fun h => by cases h) (fun _ => ?_)
      refine AW_rg (tyOf_good _) [0, 1, 20, 79, 80] [501, 502, 503] (notIn_ok rfl) fun K' hK' => ?_
      repeat (refine sxf_next fun K2 hK2 => ?_; simp [dNum, bRow, dS, pairA, assertA, ofOk, zeroM]; (repeat (refine ⟨by omega, ?_⟩)); refine hK2 _ ?_; clear hK2 K2)
      refine sxf_nil (hK' _ ?_)
      refine AW.st (by simp [dNum, bRow, dS, pairA, assertA, ofOk, zeroM]; rfl) ?_
      clear hK' K'
      refine AW_cond false rfl (fun h => by cases h) (fun _ => ?_)
      refine AW_rg (tyOf_good _) [0, 1, 98, 99] [501, 502, 503] (notIn_ok rfl) fun K' hK' => ?_
      repeat (refine sxf_next fun K2 hK2 => ?_; simp [dNum, bRow, dS, pairA, assertA, ofOk, zeroM]; (repeat (refine ⟨by omega, ?_⟩)); refine hK2 _ ?_; clear hK2 K2)
      refine sxf_nil (hK' _ ?_)
      refine AW.st (by simp [dNum, bRow, dS, pairA, assertA, ofOk, zeroM]; rfl) ?_
      clear hK' K'
      refine AW_cond true rfl (fun _ => ?_) (fun h => by cases h)
      refine AW_rg (tyOf_good _) [0, 13] [501, 502, 503] (notIn_ok rfl) fun K' hK' => ?_
      repeat (refine sxf_next fun K2 hK2 => ?_; simp [dNum, bRow, dS, pairA, assertA, ofOk, zeroM]; (repeat (refine ⟨by omega, ?_⟩)); refine hK2 _ ?_; clear hK2 K2)
      refine sxf_nil (hK' _ ?_)
      refine AW.st (by simp [dNum, bRow, dS, pairA, assertA, ofOk, zeroM]; rfl) ?_
      clear hK' K'
      refine AW_rg (tyOf_good _) [0, 13, 14] [501, 502, 503] (notIn_ok rfl) fun K' hK' => ?_
      repeat (refine sxf_next fun K2 hK2 => ?_; simp [dNum, bRow, dS, pairA, assertA, ofOk, zeroM]; (repeat (refine ⟨by omega, ?_⟩)); refine hK2 _ ?_; clear hK2 K2)
      refine sxf_nil (hK' _ ?_)
      refine AW.st (by simp [dNum, bRow, dS, pairA, assertA, ofOk, zeroM]; rfl) ?_
      clear hK' K'
      refine AW_then fun K2 hK2 => ?_
      refine AW_rg (tyOf_good _) [0, 14, 100, 101, 102] [501, 502, 503] (notIn_ok rfl) fun K' hK' => ?_
      repeat (refine sxf_next fun K2 hK2 => ?_; simp [dNum, bRow, dS, pairA, assertA, ofOk, zeroM]; (repeat (refine ⟨by omega, ?_⟩)); refine hK2 _ ?_; clear hK2 K2)
      refine sxf_nil (hK' _ ?_)
      refine AW.st (by simp [dNum, bRow, dS, pairA, assertA, ofOk, zeroM]; rfl) ?_
      clear hK' K'
      refine AW_for (S := Nat) (fun i => i ≤ l.length) (fun i => ⟨lst [(0, .ref 501 0 0), (14, .own 300 0 i), (100, .d (.sl none (l.map fun x => [dE x]))), (101, int l.length), (102, int i)], hlst (bRow (litsG ns es (l.take i) (V, cs)).2.1 (litsG ns es (l.take i) (V, cs)).2.2 ents ++ [(300, .sl 3 1 ((litsG ns es (l.take i) (V, cs)).1.map fun x => [dNum (-x)]))])⟩) (fun i => l.length - i) 0 ?_ (by omega) ?_
      · refine (Imp.adopt 14 300 3 1 rfl rfl).trans ?_
        refine Imp.to' (notIn_ok rfl) (by simp [dNum, bRow, dS, pairA, assertA, ofOk, zeroM, litsG]) (by simp [dNum, bRow, dS, pairA, assertA, ofOk, zeroM, litsG])
      · intro i hi
        refine AW_rg (tyOf_good _) [0, 14, 100, 101, 102, 103] [501, 502, 503, 300] (notIn_ok rfl) fun K' hK' => ?_
        repeat (refine sxf_next fun K2 hK2 => ?_; simp [dNum, bRow, dS, pairA, assertA, ofOk, zeroM]; (repeat (refine ⟨by omega, ?_⟩)); refine hK2 _ ?_; clear hK2 K2)
        refine sxf_nil (hK' _ ?_)
        refine AW.st (by simp [dNum, bRow, dS, pairA, assertA, ofOk, zeroM]; rfl) ?_
        clear hK' K'
        refine AW_then fun K3 hK3 => ?_
        refine AW_cond' (b := i < l.length) (by simp [D.le, D.le.go, takeMap, dNum, bRow, dS, pairA, assertA, ofOk, zeroM]) (fun hc => ?_) (fun hc => ?_)
        · have hil : i < l.length := hc
          obtain ⟨p1, p2, p3⟩ := hpre i hi
          have htk := litsG_take ns es hil (V, cs)
          have hsz2 := szNs_take hil
          have hsz3 := szNs_le l (i + 1)
          have hll := litsG_len ns es (l.take i) (V, cs)
          rw [List.length_take] at hll
          have hmn : min i l.length = i := by omega
          rw [hmn] at hll
          have hcc := hch _ (List.getElem_mem hil) _ (litsG ns es (l.take i) (V, cs)).2.2 p1 (by omega) (by omega)
          have hin := lit_inW ns es l[i] (fun s h => hN' s (nms_at (List.getElem_mem hil) h)) (fun s h => hE' s (nms_at (List.getElem_mem hil) h)) (hwl _ (List.getElem_mem hil)) (litsG ns es (l.take i) (V, cs)).2 p1 (by omega)
          obtain ⟨tx, cx, hx⟩ := dE_ifc l[i]
          rw [hx] at hcc
          have hpe : ((litsG ns es (l.take i) (V, cs)).2.1, (litsG ns es (l.take i) (V, cs)).2.2) = (litsG ns es (l.take i) (V, cs)).2 := rfl
          rw [hpe] at hcc
          generalize litG ns es l[i] (litsG ns es (l.take i) (V, cs)).2 = R at hcc hin htk
          generalize litsG ns es (l.take i) (V, cs) = Q at *
          refine AW_skip (hK3 _ ?_)
          refine AW_then fun K4 hK4 => ?_
          refine AW_block ?_
          refine AW_rg (tyOf_good _) [0, 14, 16, 100, 101, 102] [501, 502, 503, 300] (notIn_ok rfl) fun K' hK' => ?_
          repeat (refine sxf_next fun K2 hK2 => ?_; simp [dNum, bRow, dS, pairA, assertA, ofOk, zeroM, hil, hx]; (repeat (refine ⟨by omega, ?_⟩)); refine hK2 _ ?_; clear hK2 K2)
          refine sxf_nil (hK' _ ?_)
          refine AW.st (by simp [dNum, bRow, dS, pairA, assertA, ofOk, zeroM, hil, hx]; rfl) ?_
          clear hK' K'
          refine AW_re (tyOf_good _) fun K' hK' => ?_
          repeat (refine sxf_next fun K2 hK2 => ?_; simp [dNum, bRow, dS, pairA, assertA, ofOk, zeroM]; (repeat (refine ⟨by omega, ?_⟩)); refine hK2 _ ?_; clear hK2 K2)
          refine sxf_next fun K2 hK2 => ?_
          simp [dNum, bRow, dS, pairA, assertA, ofOk, zeroM]
          refine callK.mc (hcc) (by simp [dNum, bRow, dS, pairA, assertA, ofOk, zeroM]) (by simp [dNum, bRow, dS, pairA, assertA, ofOk, zeroM]) (by simp [dNum, bRow, dS, pairA, assertA, ofOk, zeroM]) (by simp [dNum, bRow, dS, pairA, assertA, ofOk, zeroM]) ?_
          simp [dNum, bRow, dS, pairA, assertA, ofOk, zeroM]
          refine hK2 _ ?_
          clear hK2 K2
          repeat (refine sxf_next fun K2 hK2 => ?_; simp [dNum, bRow, dS, pairA, assertA, ofOk, zeroM]; (repeat (refine ⟨by omega, ?_⟩)); refine hK2 _ ?_; clear hK2 K2)
          refine sxf_nil (hK' _ ?_)
          clear hK' K'
          refine hK4 _ (AW.norm [0, 14, 100, 101, 102] [501, 502, 503, 300] (notIn_ok rfl) (AW.st (by simp [dNum, bRow, dS, pairA, assertA, ofOk, zeroM]; rfl) ?_))
          refine AW_re (tyOf_good _) fun K' hK' => ?_
          repeat (refine sxf_next fun K2 hK2 => ?_; simp [dNum, bRow, dS, pairA, assertA, ofOk, zeroM]; (repeat (refine ⟨by omega, ?_⟩)); refine hK2 _ ?_; clear hK2 K2)
          refine sxf_nil (hK' _ ?_)
          clear hK' K'
          try simp only [thn, inb]
          refine Again.mk (i + 1) (by omega) (by omega) ?_
          have hq2 : ∀ f : Int → List D, List.take i (Q.1.map f) = Q.1.map f := fun f => List.take_of_length_le (by rw [List.length_map]; omega)
          refine Imp.to' (notIn_ok rfl) (by simp [dNum, bRow, dS, pairA, assertA, ofOk, zeroM, htk, hll, hq2]) (by simp [dNum, bRow, dS, pairA, assertA, ofOk, zeroM, htk, hll, hq2])
        · obtain rfl : i = l.length := by omega
          obtain ⟨p1, p2, p3⟩ := hpre l.length (Nat.le_refl _)
          rw [List.take_length] at p1 p2 p3 ⊢
          have hll := litsG_len ns es l (V, cs)
          generalize litsG ns es l (V, cs) = Q at *
          have ha := gand_spec G Q.2.1 (by omega) Q.2.2 (by omega) ents (Q.1.map fun x => -x) (by rw [List.length_map]; omega) (by intro x hx; obtain ⟨y, hy, rfl⟩ := List.mem_map.1 hx; have := hall y hy; unfold inW; omega)
          have hpe : (Q.2.1, Q.2.2) = Q.2 := rfl
          rw [hpe] at ha
          have hbd : -2^60 < (mkAnd (Q.1.map fun x => -x) Q.2).1 ∧ (mkAnd (Q.1.map fun x => -x) Q.2).1 < 2^60 := by simp only [mkAnd]; omega
          obtain ⟨R, hR⟩ : ∃ R, mkAnd (Q.1.map fun x => -x) Q.2 = R := ⟨_, rfl⟩
          rw [hR] at ha hbd
          refine AW_exit (hK2 _ ?_)
          refine AW_rg (tyOf_good _) [4] [501, 502, 503] (notIn_ok rfl) fun K' hK' => ?_
          repeat (refine sxf_next fun K2 hK2 => ?_; simp [dNum, bRow, dS, pairA, assertA, ofOk, zeroM, dRow, dInts, hll, takeMap, Function.comp_def]; (repeat (refine ⟨by omega, ?_⟩)); refine hK2 _ ?_; clear hK2 K2)
          refine sxf_next fun K2 hK2 => ?_
          simp [dNum, bRow, dS, pairA, assertA, ofOk, zeroM, dRow, dInts, hll, takeMap, Function.comp_def]
          refine callK.frz 300 (by first | rfl | (simp [dNum, bRow, dS, pairA, assertA, ofOk, zeroM, dRow, dInts, hll, takeMap, Function.comp_def]; rfl)) (by decide) ?_
          simp [dNum, bRow, dS, pairA, assertA, ofOk, zeroM, dRow, dInts, hll, takeMap, Function.comp_def]
          refine callK.mc (ha) (by simp [dNum, bRow, dS, pairA, assertA, ofOk, zeroM, dRow, dInts, hll, takeMap, Function.comp_def]) (by simp [dNum, bRow, dS, pairA, assertA, ofOk, zeroM, dRow, dInts, hll, takeMap, Function.comp_def]) (by simp [dNum, bRow, dS, pairA, assertA, ofOk, zeroM, dRow, dInts, hll, takeMap, Function.comp_def]) (by simp [dNum, bRow, dS, pairA, assertA, ofOk, zeroM, dRow, dInts, hll, takeMap, Function.comp_def]) ?_
          simp [dNum, bRow, dS, pairA, assertA, ofOk, zeroM, dRow, dInts, hll, takeMap, Function.comp_def]
          refine hK2 _ ?_
          clear hK2 K2
          repeat (refine sxf_next fun K2 hK2 => ?_; simp [dNum, bRow, dS, pairA, assertA, ofOk, zeroM, dRow, dInts, hll, takeMap, Function.comp_def]; (repeat (refine ⟨by omega, ?_⟩)); refine hK2 _ ?_; clear hK2 K2)
          refine sxf_nil (hK' _ ?_)
          refine AW.st (by simp [dNum, bRow, dS, pairA, assertA, ofOk, zeroM, dRow, dInts, hll, takeMap, Function.comp_def]; rfl) ?_
          clear hK' K'
          refine AW_ret ?_
          simp [hR, bRow, dNum, D.le, dRow, dInts]
    | cst b =>
      simp only [szN] at hV2 hC
      have hf := fresh_spec G V (by omega) cs ents
      have ha := fun x => add_spec2 G (V + 1) cs (by omega) ents [x]
      rw [litG, dE]
      refine MC.of_body (tyOf_good _) Tryz.func42 rfl rfl (rs := [.tmp 4]) Tryz.results42 (by simp [Tryz.ntmps42]) rfl fun X => ?_
      simp only [Tryz.ntmps42]
      refine AW_rg (tyOf_good _) [0, 1] [501, 502, 503] (notIn_ok rfl) fun K' hK' => ?_
      repeat (refine sxf_next fun K2 hK2 => ?_; simp [dNum, bRow, dS, pairA, assertA, ofOk, zeroM]; (repeat (refine ⟨by omega, ?_⟩)); refine hK2 _ ?_; clear hK2 K2)
      refine sxf_nil (hK' _ ?_)
      refine AW.st (by simp [dNum, bRow, dS, pairA, assertA, ofOk, zeroM]; rfl) ?_
      clear hK' K'
      refine AW_then fun K1 hK1 => ?_
      refine AW_rg (tyOf_good _) [0, 1, 20] [501, 502, 503] (notIn_ok rfl) fun K' hK' => ?_
      repeat (refine sxf_next fun K2 hK2 => ?_; simp [dNum, bRow, dS, pairA, assertA, ofOk, zeroM]; (repeat (refine ⟨by omega, ?_⟩)); refine hK2 _ ?_; clear hK2 K2)
      refine sxf_nil (hK' _ ?_)
      refine AW.st (by simp [dNum, bRow, dS, pairA, assertA, ofOk, zeroM]; rfl) ?_
      clear hK' K'
      refine AW_block ?_
      refine AW_rg (tyOf_good _) [0, 1, 20, 22, 23] [501, 502, 503] (notIn_ok rfl) fun K' hK' => ?_
      repeat (refine sxf_next fun K2 hK2 => ?_; simp [dNum, bRow, dS, pairA, assertA, ofOk, zeroM]; (repeat (refine ⟨by omega, ?_⟩)); refine hK2 _ ?_; clear hK2 K2)
      refine sxf_nil (hK' _ ?_)
      refine AW.st (by simp [dNum, bRow, dS, pairA, assertA, ofOk, zeroM]; rfl) ?_
      clear hK' K'
      refine AW_cond false rfl (fun h => by cases h) (fun _ => ?_)
      refine AW_rg (tyOf_good _) [0, 1, 20, 31, 32] [501, 502, 503] (notIn_ok rfl) fun K' hK' => ?_
      repeat (refine sxf_next fun K2 hK2 => ?_; simp [dNum, bRow, dS, pairA, assertA, ofOk, zeroM]; (repeat (refine ⟨by omega, ?_⟩)); refine hK2 _ ?_; clear hK2 K2)
      refine sxf_nil (hK' _ ?_)
      refine AW.st (by simp [dNum, bRow, dS, pairA, assertA, ofOk, zeroM]; rfl) ?_
      clear hK' K'
      refine AW_cond false rfl (fun h => by cases h) (fun _ => ?_)
      refine AW_rg (tyOf_good _) [0, 1, 20, 51, 52] [501, 502, 503] (notIn_ok rfl) fun K' hK' => ?_
      repeat (refine sxf_next fun K2 hK2 => ?_; simp [dNum, bRow, dS, pairA, assertA, ofOk, zeroM]; (repeat (refine ⟨by omega, ?_⟩)); refine hK2 _ ?_; clear hK2 K2)
      refine sxf_nil (hK' _ ?_)
      refine AW.st (by simp [dNum, bRow, dS, pairA, assertA, ofOk, zeroM]; rfl) ?_
      clear hK' K'
      refine AW_cond false rfl (fun h => by cases h) (fun _ => ?_)
      refine AW_rg (tyOf_good _) [0, 1, 20, 71, 72] [501, 502, 503] (notIn_ok rfl) fun K' hK' => ?_
      repeat (refine sxf_next fun K2 hK2 => ?_; simp [dNum, bRow, dS, pairA, assertA, ofOk, zeroM]; (repeat (refine ⟨by omega, ?_⟩)); refine hK2 _ ?_; clear hK2 K2)
      refine sxf_nil (hK' _ ?_)
      refine AW.st (by simp [dNum, bRow, dS, pairA, assertA, ofOk, zeroM]; rfl) ?_
      clear hK' K'
      refine AW_cond false rfl (fun h => by cases h) (fun _ => ?_)
      refine AW_rg (tyOf_good _) [0, 1, 20, 79, 80] [501, 502, 503] (notIn_ok rfl) fun K' hK' => ?_
      repeat (refine sxf_next fun K2 hK2 => ?_; simp [dNum, bRow, dS, pairA, assertA, ofOk, zeroM]; (repeat (refine ⟨by omega, ?_⟩)); refine hK2 _ ?_; clear hK2 K2)
      refine sxf_nil (hK' _ ?_)
      refine AW.st (by simp [dNum, bRow, dS, pairA, assertA, ofOk, zeroM]; rfl) ?_
      clear hK' K'
      refine AW_cond false rfl (fun h => by cases h) (fun _ => ?_)
      refine AW_rg (tyOf_good _) [0, 1, 98, 99] [501, 502, 503] (notIn_ok rfl) fun K' hK' => ?_
      repeat (refine sxf_next fun K2 hK2 => ?_; simp [dNum, bRow, dS, pairA, assertA, ofOk, zeroM]; (repeat (refine ⟨by omega, ?_⟩)); refine hK2 _ ?_; clear hK2 K2)
      refine sxf_nil (hK' _ ?_)
      refine AW.st (by simp [dNum, bRow, dS, pairA, assertA, ofOk, zeroM]; rfl) ?_
      clear hK' K'
      refine AW_cond false rfl (fun h => by cases h) (fun _ => ?_)
      refine AW_skip (hK1 _ ?_)
      refine AW_rg (tyOf_good _) [0, 1, 17] [501, 502, 503] (notIn_ok rfl) fun K' hK' => ?_
      repeat (refine sxf_next fun K2 hK2 => ?_; simp [dNum, bRow, dS, pairA, assertA, ofOk, zeroM]; (repeat (refine ⟨by omega, ?_⟩)); refine hK2 _ ?_; clear hK2 K2)
      refine sxf_next fun K2 hK2 => ?_
      simp [dNum, bRow, dS, pairA, assertA, ofOk, zeroM]
      refine callK.mc (hf) (by simp [dNum, bRow, dS, pairA, assertA, ofOk, zeroM]) (by simp [dNum, bRow, dS, pairA, assertA, ofOk, zeroM]) (by simp [dNum, bRow, dS, pairA, assertA, ofOk, zeroM]) (by simp [dNum, bRow, dS, pairA, assertA, ofOk, zeroM]) ?_
      simp [dNum, bRow, dS, pairA, assertA, ofOk, zeroM]
      refine hK2 _ ?_
      clear hK2 K2
      repeat (refine sxf_next fun K2 hK2 => ?_; simp [dNum, bRow, dS, pairA, assertA, ofOk, zeroM]; (repeat (refine ⟨by omega, ?_⟩)); refine hK2 _ ?_; clear hK2 K2)
      refine sxf_nil (hK' _ ?_)
      refine AW.st (by simp [dNum, bRow, dS, pairA, assertA, ofOk, zeroM]; rfl) ?_
      clear hK' K'
      refine AW_then fun K8 hK8 => ?_
      refine AW_rg (tyOf_good _) [0, 17, 18, 19] [501, 502, 503] (notIn_ok rfl) fun K' hK' => ?_
      repeat (refine sxf_next fun K2 hK2 => ?_; simp [dNum, bRow, dS, pairA, assertA, ofOk, zeroM]; (repeat (refine ⟨by omega, ?_⟩)); refine hK2 _ ?_; clear hK2 K2)
      refine sxf_nil (hK' _ ?_)
      refine AW.st (by simp [dNum, bRow, dS, pairA, assertA, ofOk, zeroM]; rfl) ?_
      clear hK' K'
      cases b with
      | true =>
        refine AW_rg (tyOf_good _) [0, 17, 128] [501, 502, 503] (notIn_ok rfl) fun K' hK' => ?_
        repeat (refine sxf_next fun K2 hK2 => ?_; simp [dNum, bRow, dS, pairA, assertA, ofOk, zeroM]; (repeat (refine ⟨by omega, ?_⟩)); refine hK2 _ ?_; clear hK2 K2)
        refine sxf_nil (hK' _ ?_)
        refine AW.st (by simp [dNum, bRow, dS, pairA, assertA, ofOk, zeroM]; rfl) ?_
        clear hK' K'
        refine AW_cond true rfl (fun _ => ?_) (fun h => by cases h)
        have ha := ha ((V : Int) + 1)
        refine AW_re (tyOf_good _) fun K' hK' => ?_
        repeat (refine sxf_next fun K2 hK2 => ?_; simp [dNum, bRow, dS, pairA, assertA, ofOk, zeroM, dRow, dInts]; (repeat (refine ⟨by omega, ?_⟩)); refine hK2 _ ?_; clear hK2 K2)
        refine sxf_next fun K2 hK2 => ?_
        simp [dNum, bRow, dS, pairA, assertA, ofOk, zeroM, dRow, dInts]
        refine callK.frz 131 (by first | rfl | (simp [dNum, bRow, dS, pairA, assertA, ofOk, zeroM, dRow, dInts]; rfl)) (by decide) ?_
        simp [dNum, bRow, dS, pairA, assertA, ofOk, zeroM, dRow, dInts]
        refine callK.mc (ha) (by simp [dNum, bRow, dS, pairA, assertA, ofOk, zeroM, dRow, dInts]) (by simp [dNum, bRow, dS, pairA, assertA, ofOk, zeroM, dRow, dInts]) (by simp [dNum, bRow, dS, pairA, assertA, ofOk, zeroM, dRow, dInts]) (by simp [dNum, bRow, dS, pairA, assertA, ofOk, zeroM, dRow, dInts]) ?_
        simp [dNum, bRow, dS, pairA, assertA, ofOk, zeroM, dRow, dInts]
        refine hK2 _ ?_
        clear hK2 K2
        repeat (refine sxf_next fun K2 hK2 => ?_; simp [dNum, bRow, dS, pairA, assertA, ofOk, zeroM, dRow, dInts]; (repeat (refine ⟨by omega, ?_⟩)); refine hK2 _ ?_; clear hK2 K2)
        refine sxf_nil (hK' _ ?_)
        clear hK' K'
        refine hK8 _ (AW.norm [17] [501, 502, 503] (notIn_ok rfl) (AW.st (by simp [dNum, bRow, dS, pairA, assertA, ofOk, zeroM, dRow, dInts]; rfl) ?_))
        refine AW_rg (tyOf_good _) [4] [501, 502, 503] (notIn_ok rfl) fun K' hK' => ?_
        repeat (refine sxf_next fun K2 hK2 => ?_; simp [dNum, bRow, dS, pairA, assertA, ofOk, zeroM]; (repeat (refine ⟨by omega, ?_⟩)); refine hK2 _ ?_; clear hK2 K2)
        refine sxf_nil (hK' _ ?_)
        refine AW.st (by simp [dNum, bRow, dS, pairA, assertA, ofOk, zeroM]; rfl) ?_
        clear hK' K'
        refine AW_ret ?_
        simp [bRow, dNum, D.le, dRow, dInts]
      | false =>
        refine AW_rg (tyOf_good _) [0, 17, 128] [501, 502, 503] (notIn_ok rfl) fun K' hK' => ?_
        repeat (refine sxf_next fun K2 hK2 => ?_; simp [dNum, bRow, dS, pairA, assertA, ofOk, zeroM]; (repeat (refine ⟨by omega, ?_⟩)); refine hK2 _ ?_; clear hK2 K2)
        refine sxf_nil (hK' _ ?_)
        refine AW.st (by simp [dNum, bRow, dS, pairA, assertA, ofOk, zeroM]; rfl) ?_
        clear hK' K'
        refine AW_cond false rfl (fun h => by cases h) (fun _ => ?_)
        have ha := ha (-((V : Int) + 1))
        refine AW_re (tyOf_good _) fun K' hK' => ?_
        repeat (refine sxf_next fun K2 hK2 => ?_; simp [dNum, bRow, dS, pairA, assertA, ofOk, zeroM, dRow, dInts]; (repeat (refine ⟨by omega, ?_⟩)); refine hK2 _ ?_; clear hK2 K2)
        refine sxf_next fun K2 hK2 => ?_
        simp [dNum, bRow, dS, pairA, assertA, ofOk, zeroM, dRow, dInts]
        refine callK.frz 136 (by first | rfl | (simp [dNum, bRow, dS, pairA, assertA, ofOk, zeroM, dRow, dInts]; rfl)) (by decide) ?_
        simp [dNum, bRow, dS, pairA, assertA, ofOk, zeroM, dRow, dInts]
        refine callK.mc (ha) (by simp [dNum, bRow, dS, pairA, assertA, ofOk, zeroM, dRow, dInts]) (by simp [dNum, bRow, dS, pairA, assertA, ofOk, zeroM, dRow, dInts]) (by simp [dNum, bRow, dS, pairA, assertA, ofOk, zeroM, dRow, dInts]) (by simp [dNum, bRow, dS, pairA, assertA, ofOk, zeroM, dRow, dInts]) ?_
        simp [dNum, bRow, dS, pairA, assertA, ofOk, zeroM, dRow, dInts]
        refine hK2 _ ?_
        clear hK2 K2
        repeat (refine sxf_next fun K2 hK2 => ?_; simp [dNum, bRow, dS, pairA, assertA, ofOk, zeroM, dRow, dInts]; (repeat (refine ⟨by omega, ?_⟩)); refine hK2 _ ?_; clear hK2 K2)
        refine sxf_nil (hK' _ ?_)
        clear hK' K'
        refine hK8 _ (AW.norm [17] [501, 502, 503] (notIn_ok rfl) (AW.st (by simp [dNum, bRow, dS, pairA, assertA, ofOk, zeroM, dRow, dInts]; rfl) ?_))
        refine AW_rg (tyOf_good _) [4] [501, 502, 503] (notIn_ok rfl) fun K' hK' => ?_
        repeat (refine sxf_next fun K2 hK2 => ?_; simp [dNum, bRow, dS, pairA, assertA, ofOk, zeroM]; (repeat (refine ⟨by omega, ?_⟩)); refine hK2 _ ?_; clear hK2 K2)
        refine sxf_nil (hK' _ ?_)
        refine AW.st (by simp [dNum, bRow, dS, pairA, assertA, ofOk, zeroM]; rfl) ?_
        clear hK' K'
        refine AW_ret ?_
        simp [bRow, dNum, D.le, dRow, dInts]
end Go.Proofs.YtagfbbnlbncjlaaGreatDoor

/-
  Rows renamed, where the heap is a list.
-/
namespace Go.Proofs.YtagfbbnlbncjlaaGreatDoor
set_option linter.unusedSimpArgs false
set_option linter.unusedVariables false
open Go.Av

theorem renH_hlst {r r' : Nat} (hr : r ≠ r') (l : List (Nat × Row)) (hl : ∀ p ∈ l, p.1 ≠ r') : renH r r' (hlst l) = hlst (l.map fun p => (if p.1 = r then r' else p.1, p.2.tr (renO r r') (renF r r'))) := by
  funext q
  unfold renH
  induction l with
  | nil => simp [hlst, List.lookup]
  | cons p l ih =>
    have ih := ih fun p hp => hl p (by simp [hp])
    have hp := hl p (by simp)
    obtain ⟨k, row⟩ := p
    simp only [hlst, List.lookup, List.map_cons] at ih ⊢
    by_cases h1 : q = r'
    · subst h1
      simp only [if_true] at ih ⊢
      by_cases h2 : k = r
      · subst h2; simp
      · have a1 : (r == k) = false := by simpa using fun e => h2 e.symm
        have a2 : (q == k) = false := by simpa using fun e => hp e.symm
        simp only [h2, if_false, a1, a2]
        exact ih
    · simp only [h1, if_false] at ih ⊢
      by_cases h2 : q = r
      · subst h2
        simp only [if_true] at ih ⊢
        by_cases h3 : k = q
        · have a1 : (q == r') = false := by simpa using h1
          simp only [h3, if_true, a1]
          exact ih
        · have a1 : (q == k) = false := by simpa using fun e => h3 e.symm
          simp only [h3, if_false, a1]
          exact ih
      · simp only [h2, if_false] at ih ⊢
        by_cases h3 : k = r
        · have a1 : (q == k) = false := by rw [h3]; simpa using h2
          have a2 : (q == r') = false := by simpa using h1
          simp only [h3, if_true, a2] at a1 ⊢
          rw [a1]
          exact ih
        · simp only [h3, if_false]
          by_cases h4 : q = k
          · subst h4; simp
          · have a1 : (q == k) = false := by simpa using h4
            simp only [a1]
            exact ih

end Go.Proofs.YtagfbbnlbncjlaaGreatDoor

/-
  gate.Of: an expression's clauses, and its literal.
-/
namespace Go.Proofs.YtagfbbnlbncjlaaGreatDoor
set_option linter.unusedSimpArgs false
set_option linter.unusedVariables false
open Go.Av

theorem nms_nameF (all : Bool) : ∀ (n : Nat) (e : Ex), SizeOf.sizeOf e ≤ n → WfE e → ∀ s ∈ nmsE all e, nameF s = true
  | 0, e, hn, _, _, _ => by cases e <;> simp at hn
  | n + 1, e, hn, hw, s, hs => by
    have many : ∀ l : List Ex, (∀ x ∈ l, SizeOf.sizeOf x ≤ n) → (∀ x ∈ l, WfE x) → ∀ s ∈ nmsL all l, nameF s = true := by
      intro l
      induction l with
      | nil => intro _ _ s h; simp [nmsL] at h
      | cons x l ih =>
        intro h1 h2 s h
        rw [nmsL, List.mem_append] at h
        rcases h with h | h
        · exact nms_nameF all n x (h1 x (by simp)) (h2 x (by simp)) s h
        · exact ih (fun y hy => h1 y (by simp [hy])) (fun y hy => h2 y (by simp [hy])) s h
    have one : ∀ {t : Tx}, s ∈ one1 t → s = t := fun {t} h => by unfold one1 at h; split at h <;> simp_all
    cases e with
    | cst b => rw [nmsE] at hs <;> simp_all [nmE, one1]
    | bit t =>
      rw [WfE] at hw
      rw [nmsE] at hs
      · cases all with
        | true => have := one hs; simp only [nmE, if_true] at this; rw [this]; exact hw
        | false => simp [nmE, one1] at hs
      all_goals (intros; simp_all)
    | rise t =>
      rw [WfE] at hw
      rw [nmsE] at hs
      · have := one hs; simp only [nmE] at this; rw [this]; exact hw
      all_goals (intros; simp_all)
    | fall t =>
      rw [WfE] at hw
      rw [nmsE] at hs
      · have := one hs; simp only [nmE] at this; rw [this]; exact hw
      all_goals (intros; simp_all)
    | not x =>
      rw [WfE] at hw
      rw [nmsE] at hs
      exact nms_nameF all n x (by simp at hn; omega) hw s hs
    | and l =>
      rw [WfE] at hw
      rw [nmsE] at hs
      exact many l (fun x hx => by have := List.sizeOf_lt_of_mem hx; simp only [Ex.and.sizeOf_spec] at hn; omega) ((WfEs_iff l).1 hw.2) s hs
    | or l =>
      rw [WfE] at hw
      rw [nmsE] at hs
      exact many l (fun x hx => by have := List.sizeOf_lt_of_mem hx; simp only [Ex.or.sizeOf_spec] at hn; omega) ((WfEs_iff l).1 hw.2) s hs

theorem nms_sz (all : Bool) : ∀ (n : Nat) (e : Ex), SizeOf.sizeOf e ≤ n → (nmsE all e).length ≤ szN e
  | 0, e, hn => by cases e <;> simp at hn
  | n + 1, e, hn => by
    have many : ∀ l : List Ex, (∀ x ∈ l, SizeOf.sizeOf x ≤ n) → (nmsL all l).length ≤ szNs l := by
      intro l
      induction l with
      | nil => intro _; simp [nmsL]
      | cons x l ih =>
        intro h
        have a := ih fun y hy => h y (by simp [hy])
        have b := nms_sz all n x (h x (by simp))
        simp only [nmsL, szNs, List.length_append]
        omega
    have hone : ∀ s, (one1 s).length ≤ 1 := fun s => by unfold one1; split <;> simp
    have hp := szN_pos e
    cases e with
    | not x => have := nms_sz all n x (by simp at hn; omega); simp only [nmsE, szN]; omega
    | and l =>
      have := many l fun x hx => by have := List.sizeOf_lt_of_mem hx; simp only [Ex.and.sizeOf_spec] at hn; omega
      simp only [nmsE, szN]; omega
    | or l =>
      have := many l fun x hx => by have := List.sizeOf_lt_of_mem hx; simp only [Ex.or.sizeOf_spec] at hn; omega
      simp only [nmsE, szN]; omega
    | cst b => have := hone (nmE all (.cst b)); simp only [nmsE]; omega
    | bit s => have := hone (nmE all (.bit s)); simp only [nmsE]; omega
    | rise s => have := hone (nmE all (.rise s)); simp only [nmsE]; omega
    | fall s => have := hone (nmE all (.fall s)); simp only [nmsE]; omega
theorem names_sz (all : Bool) (e : Ex) : (namesE all e).length ≤ szN e := by
  rw [← insL_names]
  exact Nat.le_trans (insL_len _ _) (by have := nms_sz all _ e (Nat.le_refl _); simp; omega)

/-! ### The names' numbers -/
def entsOf (f : Tx → Tx) : Nat → List Tx → List (Value × D)
  | _, [] => []
  | k, s :: l => (.string (bs (f s)), dNum ((k : Int) + 1)) :: entsOf f (k + 1) l
theorem entsOf_app (f : Tx → Tx) : ∀ (a b : List Tx) (k : Nat), entsOf f k (a ++ b) = entsOf f k a ++ entsOf f (k + a.length) b
  | [], b, k => by simp [entsOf]
  | s :: a, b, k => by
    have h := entsOf_app f a b (k + 1)
    simp only [List.cons_append, entsOf, h, List.length_cons]
    rw [show k + 1 + a.length = k + (a.length + 1) from by omega]
theorem entsOf_take (f : Tx → Tx) {l : List Tx} {i k : Nat} (h : i < l.length) : entsOf f k (l.take (i + 1)) = entsOf f k (l.take i) ++ [(.string (bs (f l[i])), dNum ((k : Int) + i + 1))] := by
  rw [List.take_succ_eq_append_getElem h, entsOf_app]
  have : min i l.length = i := by omega
  simp [entsOf, List.length_take, this]
theorem entsOf_key {f : Tx → Tx} : ∀ {l : List Tx} {k : Nat} {p : Value × D}, p ∈ entsOf f k l → ∃ s ∈ l, p.1 = .string (bs (f s))
  | [], k, p, h => by simp [entsOf] at h
  | s :: l, k, p, h => by
    rw [entsOf, List.mem_cons] at h
    rcases h with rfl | h
    · exact ⟨s, by simp, rfl⟩
    · obtain ⟨t, ht, he⟩ := entsOf_key h
      exact ⟨t, by simp [ht], he⟩
theorem bs_beq (a b : Tx) : (bs a == bs b) = (a == b) := by
  by_cases h : a = b
  · subst h
    rw [show (a == a) = true from beq_self_eq_true a]
    show ((bs a).data == (bs a).data) = true
    exact beq_self_eq_true _
  · rw [beq_eq_false_iff_ne.2 h]
    show ((bs a).data == (bs b).data) = false
    exact beq_eq_false_iff_ne.2 fun e => h (by simpa [bs] using e)
theorem key_ne {a b : Tx} (h : a ≠ b) : keyEq (.string (bs a)) (.string (bs b)) = false := by
  show (bs a == bs b) = false
  rw [bs_beq]
  exact beq_eq_false_iff_ne.2 h
theorem key_same (a : Tx) : keyEq (.string (bs a)) (.string (bs a)) = true := by
  show (bs a == bs a) = true
  rw [bs_beq]
  exact beq_self_eq_true _
theorem entPut_new {k : Value} {x : D} {ents : List (Value × D)} (h : ∀ p ∈ ents, keyEq k p.1 = false) : entPut k x ents = ents ++ [(k, x)] := by
  unfold entPut
  rw [List.findIdx?_eq_none_iff.2 h]
theorem entGet_skip {k : Value} {a b : List (Value × D)} (h : ∀ p ∈ a, keyEq k p.1 = false) : entGet k (a ++ b) = entGet k b := by
  unfold entGet
  rw [List.find?_append, List.find?_eq_none.2 (fun p hp => by rw [h p hp]; exact Bool.false_ne_true)]
  rfl
theorem entGet_of {f : Tx → Tx} (hf : ∀ a b, f a = f b → a = b) : ∀ {l : List Tx} {k : Nat} {s : Tx} (b : List (Value × D)), s ∈ l → entGet (.string (bs (f s))) (entsOf f k l ++ b) = some (dNum ((k : Int) + ixT l s + 1))
  | [], k, s, b, h => by cases h
  | t :: l, k, s, b, h => by
    by_cases hst : t = s
    · subst hst
      rw [entsOf, List.cons_append]
      unfold entGet
      rw [List.find?_cons]
      simp only [key_same]
      have : ixT (t :: l) t = 0 := by simp [ixT, List.findIdx_cons]
      rw [this]
      simp
    · have hs : s ∈ l := by
        rcases List.mem_cons.1 h with h | h
        · exact absurd h.symm hst
        · exact h
      have ih := entGet_of hf (k := k + 1) b hs
      have h1 : ixT (t :: l) s = ixT l s + 1 := by
        have : (t == s) = false := by simpa using hst
        simp [ixT, List.findIdx_cons, this]
      rw [entsOf, List.cons_append]
      have h2 : entGet (.string (bs (f s))) ((.string (bs (f t)), dNum ((k : Int) + 1)) :: (entsOf f (k + 1) l ++ b)) = entGet (.string (bs (f s))) (entsOf f (k + 1) l ++ b) := by
        unfold entGet
        rw [List.find?_cons]
        have : keyEq (.string (bs (f s))) (.string (bs (f t))) = false := key_ne fun e => hst (hf _ _ e).symm
        simp only [this]
      rw [h2, ih, h1]
      congr 2
      omega
theorem ents_ok {ns es : List Tx} (hne : ∀ s ∈ ns, ∀ t ∈ es, s ≠ 94 :: t) : EntsOk ns es (entsOf id 0 ns ++ entsOf (fun s => 94 :: s) ns.length es) := by
  refine ⟨fun p hp => ?_, fun s hs => ?_, fun s hs => ?_⟩
  · rcases List.mem_append.1 hp with h | h <;> (obtain ⟨t, _, he⟩ := entsOf_key h; rw [he]; rfl)
  · have := entGet_of (f := id) (fun a b h => h) (k := 0) (entsOf (fun s => 94 :: s) ns.length es) hs
    simpa using this
  · rw [entGet_skip fun p hp => ?_]
    · have := entGet_of (f := fun s => 94 :: s) (fun a b h => by simpa using h) (k := ns.length) [] hs
      simpa using this
    · obtain ⟨t, ht, he⟩ := entsOf_key hp
      rw [he]
      exact key_ne (hne t ht s hs).symm
theorem ents_keys {ents : List (Value × D)} (h : ∀ p ∈ ents, ∃ s, p.1 = .string (bs s)) : ∀ p ∈ ents, keyOk TypeDesc.string p.1 = true := fun p hp => by
  obtain ⟨s, he⟩ := h p hp
  rw [he]; rfl
theorem srt_ne {l : List Tx} (h : l.Pairwise (· < ·)) {i j : Nat} (hi : i < l.length) (hj : j < l.length) (hij : i ≠ j) : l[i] ≠ l[j] := fun e => by
  rcases Nat.lt_or_gt_of_ne hij with hlt | hlt
  · exact tx_irr _ (e ▸ List.pairwise_iff_getElem.1 h _ _ hi hj hlt)
  · exact tx_irr _ (e ▸ List.pairwise_iff_getElem.1 h _ _ hj hi hlt)
theorem name_no94 {s t : Tx} (h : nameF s = true) : s ≠ 94 :: t := fun e => by
  subst e
  have := ((name_facts h).2.2.1 94 (by simp))
  revert this; decide

theorem put_names {ns : List Tx} (hs : ns.Pairwise (· < ·)) {i : Nat} (h : i < ns.length) : entPut (.string (bs ns[i])) (dNum ((i : Int) + 1)) (entsOf id 0 (ns.take i)) = entsOf id 0 (ns.take (i + 1)) := by
  rw [entsOf_take id h, entPut_new]
  · simp
  · intro p hp
    obtain ⟨s, hm, he⟩ := entsOf_key hp
    rw [he]
    obtain ⟨j, hj, rfl⟩ := List.mem_iff_getElem.1 hm
    rw [List.length_take] at hj
    rw [List.getElem_take]
    exact key_ne (srt_ne hs h (by omega) (by omega))
theorem put_edges {ns es : List Tx} (hs : es.Pairwise (· < ·)) (hne : ∀ s ∈ ns, ∀ t : Tx, s ≠ 94 :: t) {i : Nat} (h : i < es.length) : entPut (.string (bs (94 :: es[i]))) (dNum ((ns.length : Int) + i + 1)) (entsOf id 0 ns ++ entsOf (fun s => 94 :: s) ns.length (es.take i)) = entsOf id 0 ns ++ entsOf (fun s => 94 :: s) ns.length (es.take (i + 1)) := by
  rw [entsOf_take _ h, entPut_new]
  · simp
  · intro p hp
    rcases List.mem_append.1 hp with hp | hp
    · obtain ⟨s, hm, he⟩ := entsOf_key hp
      rw [he]
      exact key_ne (hne s hm _).symm
    · obtain ⟨s, hm, he⟩ := entsOf_key hp
      rw [he]
      obtain ⟨j, hj, rfl⟩ := List.mem_iff_getElem.1 hm
      rw [List.length_take] at hj
      rw [List.getElem_take]
      have := srt_ne hs h (show j < es.length by omega) (by omega)
      exact key_ne fun e => this (by simpa using e)
def tsE (e : Ex) : Int × Cs := tsC (namesE true e) (namesE false e) e
set_option maxHeartbeats 16000000 in
theorem gof_spec (G : Glob) (e : Ex) (hw : WfE e) (hb : bE e ≤ 2^28) (hs3 : szN e ≤ 300) : MC Tryz.prog G [] 14 [.d (dE e)] (hlst []) (.tup [.agg [.d (dNum (tsE e).2.1), .own 502 0 (tsE e).2.2.length], .d (dNum (tsE e).1), .d (.v .nilIface)]) (hlst [(502, .sl 58 1 ((tsE e).2.2.map fun l => [dRow l]))]) := by
  unfold tsE
  have hns := namesE_spec G e hb
  have hes := edgesE_spec G e hb
  have hsz := size_spec G e hb
  have hN : ∀ s ∈ nmsE true e, s ∈ namesE true e := fun s hs => namesE_mem.2 hs
  have hE : ∀ s ∈ nmsE false e, s ∈ namesE false e := fun s hs => namesE_mem.2 hs
  have hsr := namesE_srt true e
  have hsr2 := namesE_srt false e
  have hnf : ∀ s ∈ namesE true e, nameF s = true := fun s hs => nms_nameF true _ e (Nat.le_refl _) hw s (namesE_mem.1 hs)
  have hef : ∀ s ∈ namesE false e, nameF s = true := fun s hs => nms_nameF false _ e (Nat.le_refl _) hw s (namesE_mem.1 hs)
  have hl1 := names_sz true e
  have hl2 := names_sz false e
  have hbd : bE e ≤ 2^28 := hb
  generalize namesE true e = ns at *
  generalize namesE false e = es at *
  have hlit := lit_spec G ns es _ (ents_ok fun s hs t ht => name_no94 (hnf s hs)) (by omega) (by omega) _ e (Nat.le_refl _) hN hE hw (ns.length + es.length) [] (Nat.le_refl _) (by omega) (by simp; omega)
  have hts : litG ns es e (ns.length + es.length, []) = tsC ns es e := rfl
  rw [hts] at hlit
  generalize tsC ns es e = R at hlit ⊢
  have h300 : ¬ (300 : Int) < (szN e : Int) := by omega
  obtain ⟨t, c, hec⟩ := dE_ifc e
  rw [hec] at hns hes hsz hlit ⊢
  refine MC.of_body (tyOf_good _) Tryz.func14 rfl rfl (rs := [.cell 2 45, .tmp 3, .tmp 4]) Tryz.results14 (by simp [Tryz.ntmps14]) rfl fun X => ?_
  simp only [Tryz.ntmps14]
  refine AW_rg (tyOf_good _) [0, 2] [2] (notIn_ok rfl) fun K' hK' => ?_
  repeat (refine sxf_next fun K2 hK2 => ?_; simp [dNum, dS, bRow, dCl]; (repeat (refine ⟨by omega, ?_⟩)); refine hK2 _ ?_; clear hK2 K2)
  refine sxf_nil (hK' _ ?_)
  refine AW.st (by simp [dNum, dS, bRow, dCl]; rfl) ?_
  clear hK' K'
  refine AW_then fun K1 hK1 => ?_
  refine AW_rg (tyOf_good _) [0, 2, 12] [2] (notIn_ok rfl) fun K' hK' => ?_
  repeat (refine sxf_next fun K2 hK2 => ?_; simp [dNum, dS, bRow, dCl]; (repeat (refine ⟨by omega, ?_⟩)); refine hK2 _ ?_; clear hK2 K2)
  refine sxf_nil (hK' _ ?_)
  refine AW.st (by simp [dNum, dS, bRow, dCl]; rfl) ?_
  clear hK' K'
  refine AW_cond false rfl (fun h => by cases h) (fun _ => ?_)
  refine AW_skip (hK1 _ ?_)
  refine AW_then fun K2 hK2 => ?_
  refine AW_rg (tyOf_good _) [0, 2, 17] [2] (notIn_ok rfl) fun K' hK' => ?_
  repeat (refine sxf_next fun K2 hK2 => ?_; simp [dNum, dS, bRow, dCl, h300]; (repeat (refine ⟨by omega, ?_⟩)); refine hK2 _ ?_; clear hK2 K2)
  refine sxf_next fun K2 hK2 => ?_
  simp [dNum, dS, bRow, dCl, h300]
  refine callK.data (hsz) (by simp; rfl) (by first | exact D.leGo_refl _ | simp [takeMap, List.map_map, Function.comp_def, D.le, D.le.go, D.le_refl, D.leGo_refl, dNum, dS, bRow, dCl, h300]) ?_
  refine hK2 _ ?_
  clear hK2 K2
  simp only [putd, upd_lst]
  repeat (refine sxf_next fun K2 hK2 => ?_; simp [dNum, dS, bRow, dCl, h300]; (repeat (refine ⟨by omega, ?_⟩)); refine hK2 _ ?_; clear hK2 K2)
  refine sxf_nil (hK' _ ?_)
  refine AW.st (by simp [dNum, dS, bRow, dCl, h300]; rfl) ?_
  clear hK' K'
  refine AW_cond false (by simp [h300]) (fun h => by cases h) (fun _ => ?_)
  refine AW_skip (hK2 _ ?_)
  refine AW_rg (tyOf_good _) [0, 2, 5] [2, 20, 22] (notIn_ok rfl) fun K' hK' => ?_
  repeat (refine sxf_next fun K2 hK2 => ?_; simp [dNum, dS, bRow, dCl]; (repeat (refine ⟨by omega, ?_⟩)); refine hK2 _ ?_; clear hK2 K2)
  refine sxf_nil (hK' _ ?_)
  refine AW.st (by simp [dNum, dS, bRow, dCl]; rfl) ?_
  clear hK' K'
  refine AW.imp (Imp.ren (r := 22) (r' := 501) (by decide) (by simp)) ?_
  refine AW.st (by simp [renO, renF, Go.Av.ren, renH_hlst]; rfl) ?_
  refine AW.imp (Imp.ren (r := 20) (r' := 503) (by decide) (by simp)) ?_
  refine AW.st (by simp [renO, renF, Go.Av.ren, renH_hlst]; rfl) ?_
  refine AW.imp (Imp.adoptCell 501 1 502 58 1 rfl rfl rfl) ?_
  refine AW.imp (τ := ⟨lst [(0, .d (.ifc t c)), (2, .ref 2 0 0), (5, .ref 501 0 0)], hlst (bRow 0 [] [] ++ [(2, .box 45 [int 0, .d (.sl (some false) [])])])⟩) ?_ ?_
  · refine Imp.to' (notIn_ok rfl) (by simp [dNum, dS, bRow, dCl]) (by simp [dNum, dS, bRow, dCl])
  refine AW_then fun K3 hK3 => ?_
  refine AW_rg (tyOf_good _) [0, 2, 5, 24, 25, 26] [2, 501, 502, 503] (notIn_ok rfl) fun K' hK' => ?_
  repeat (refine sxf_next fun K2 hK2 => ?_; simp [dNum, dS, bRow, dCl]; (repeat (refine ⟨by omega, ?_⟩)); refine hK2 _ ?_; clear hK2 K2)
  refine sxf_next fun K2 hK2 => ?_
  simp [dNum, dS, bRow, dCl]
  refine callK.data (hns) (by simp; rfl) (by first | exact D.leGo_refl _ | simp [takeMap, List.map_map, Function.comp_def, D.le, D.le.go, D.le_refl, D.leGo_refl, dNum, dS, bRow, dCl]) ?_
  refine hK2 _ ?_
  clear hK2 K2
  simp only [putd, upd_lst]
  repeat (refine sxf_next fun K2 hK2 => ?_; simp [dNum, dS, bRow, dCl]; (repeat (refine ⟨by omega, ?_⟩)); refine hK2 _ ?_; clear hK2 K2)
  refine sxf_nil (hK' _ ?_)
  refine AW.st (by simp [dNum, dS, bRow, dCl]; rfl) ?_
  clear hK' K'
  refine AW_for (S := Nat) (fun i => i ≤ ns.length) (fun i => ⟨lst [(0, .d (.ifc t c)), (2, .ref 2 0 0), (5, .ref 501 0 0), (24, .d (.sl none (ns.map fun s => [dS s]))), (25, int ns.length), (26, int i)], hlst (bRow i [] (entsOf id 0 (ns.take i)) ++ [(2, .box 45 [int 0, .d (.sl (some false) [])])])⟩) (fun i => ns.length - i) 0 ?_ (by omega) ?_
  · refine Imp.to' (notIn_ok rfl) (by simp [dNum, dS, bRow, dCl, entsOf]) (by simp [dNum, dS, bRow, dCl, entsOf])
  · intro i hi
    refine AW_rg (tyOf_good _) [0, 2, 5, 24, 25, 26, 27] [2, 501, 502, 503] (notIn_ok rfl) fun K' hK' => ?_
    repeat (refine sxf_next fun K2 hK2 => ?_; simp [dNum, dS, bRow, dCl]; (repeat (refine ⟨by omega, ?_⟩)); refine hK2 _ ?_; clear hK2 K2)
    refine sxf_nil (hK' _ ?_)
    refine AW.st (by simp [dNum, dS, bRow, dCl]; rfl) ?_
    clear hK' K'
    refine AW_then fun K4 hK4 => ?_
    refine AW_cond' (b := i < ns.length) (by simp [D.le, D.le.go, takeMap, dNum, dS, bRow, dCl]) (fun hc => ?_) (fun hc => ?_)
    · have hil : i < ns.length := hc
      have hf := fresh_spec G i (by omega) [] (entsOf id 0 (ns.take i))
      have hk0 : ∀ p ∈ entsOf id 0 (ns.take i), keyOk TypeDesc.string p.1 = true := ents_keys fun p hp => by obtain ⟨s, _, he⟩ := entsOf_key hp; exact ⟨s, he⟩
      simp at hk0
      have hk1 := eq_true hk0
      have hput := put_names hsr hil
      simp only [dNum] at hput
      refine AW_skip (hK4 _ ?_)
      refine AW_then fun K5 hK5 => ?_
      refine AW_block ?_
      refine AW_rg (tyOf_good _) [0, 2, 5, 7, 24, 25, 26] [2, 501, 502, 503] (notIn_ok rfl) fun K' hK' => ?_
      repeat (refine sxf_next fun K2 hK2 => ?_; simp [dNum, dS, bRow, dCl, hil]; (repeat (refine ⟨by omega, ?_⟩)); refine hK2 _ ?_; clear hK2 K2)
      refine sxf_nil (hK' _ ?_)
      refine AW.st (by simp [dNum, dS, bRow, dCl, hil]; rfl) ?_
      clear hK' K'
      refine AW_rme (tyOf_good _) (by kernel_rfl) ([502]) ([]) ([6]) ([(3, .ref 501 0 2)]) (List.range 8) (by kernel_rfl) (by simp [OffE]) fun K' hK' => ?_
      repeat (refine sxm_nextO rfl fun K2 hK2 => ?_; simp [dNum, dS, bRow, dCl, hk1, hput]; (repeat (refine ⟨by omega, ?_⟩)); refine hK2 _ ?_; clear hK2 K2)
      refine sxm_nextO rfl fun K2 hK2 => ?_
      simp [dNum, dS, bRow, dCl, hk1, hput]
      refine hcK.mc (hf) (by simp [dNum, dS, bRow, dCl, hk1, hput]) (by simp [dNum, dS, bRow, dCl, hk1, hput]) (by simp [dNum, dS, bRow, dCl, hk1, hput]) (by simp [dNum, dS, bRow, dCl, hk1, hput]) (by simp [dNum, dS, bRow, dCl, hk1, hput]) (by simp [dNum, dS, bRow, dCl, hk1, hput]) (by simp [LdSame, dNum, dS, bRow, dCl, hk1, hput]) ?_
      simp [dNum, dS, bRow, dCl, hk1, hput]
      refine hK2 _ ?_
      clear hK2 K2
      repeat (refine sxm_nextO rfl fun K2 hK2 => ?_; simp [dNum, dS, bRow, dCl, hk1, hput]; (repeat (refine ⟨by omega, ?_⟩)); refine hK2 _ ?_; clear hK2 K2)
      refine sxm_nilO (hK' _ ?_)
      clear hK' K'
      refine hK5 _ (AW.norm [0, 2, 5, 24, 25, 26] [2, 501, 502, 503] (notIn_ok rfl) (AW.st (by simp [dNum, dS, bRow, dCl, hk1, hput]; rfl) ?_))
      refine AW_re (tyOf_good _) fun K' hK' => ?_
      repeat (refine sxf_next fun K2 hK2 => ?_; simp [dNum, dS, bRow, dCl]; (repeat (refine ⟨by omega, ?_⟩)); refine hK2 _ ?_; clear hK2 K2)
      refine sxf_nil (hK' _ ?_)
      clear hK' K'
      try simp only [thn, inb]
      refine Again.mk (i + 1) (by omega) (by omega) ?_
      refine Imp.to' (notIn_ok rfl) (by simp [dNum, dS, bRow, dCl]) (by simp [dNum, dS, bRow, dCl])
    · obtain rfl : i = ns.length := by omega
      rw [List.take_length]
      refine AW_exit (hK3 _ ?_)
      refine AW_then fun K6 hK6 => ?_
      refine AW_rg (tyOf_good _) [0, 2, 5, 39, 40, 41] [2, 501, 502, 503] (notIn_ok rfl) fun K' hK' => ?_
      repeat (refine sxf_next fun K2 hK2 => ?_; simp [dNum, dS, bRow, dCl]; (repeat (refine ⟨by omega, ?_⟩)); refine hK2 _ ?_; clear hK2 K2)
      refine sxf_next fun K2 hK2 => ?_
      simp [dNum, dS, bRow, dCl]
      refine callK.data (hes) (by simp; rfl) (by first | exact D.leGo_refl _ | simp [takeMap, List.map_map, Function.comp_def, D.le, D.le.go, D.le_refl, D.leGo_refl, dNum, dS, bRow, dCl]) ?_
      refine hK2 _ ?_
      clear hK2 K2
      simp only [putd, upd_lst]
      repeat (refine sxf_next fun K2 hK2 => ?_; simp [dNum, dS, bRow, dCl]; (repeat (refine ⟨by omega, ?_⟩)); refine hK2 _ ?_; clear hK2 K2)
      refine sxf_nil (hK' _ ?_)
      refine AW.st (by simp [dNum, dS, bRow, dCl]; rfl) ?_
      clear hK' K'
      refine AW_for (S := Nat) (fun i => i ≤ es.length) (fun i => ⟨lst [(0, .d (.ifc t c)), (2, .ref 2 0 0), (5, .ref 501 0 0), (39, .d (.sl none (es.map fun s => [dS s]))), (40, int es.length), (41, int i)], hlst (bRow (ns.length + i) [] (entsOf id 0 ns ++ entsOf (fun s => 94 :: s) ns.length (es.take i)) ++ [(2, .box 45 [int 0, .d (.sl (some false) [])])])⟩) (fun i => es.length - i) 0 ?_ (by omega) ?_
      · refine Imp.to' (notIn_ok rfl) (by simp [dNum, dS, bRow, dCl, entsOf]) (by simp [dNum, dS, bRow, dCl, entsOf])
      · intro i hi
        refine AW_rg (tyOf_good _) [0, 2, 5, 39, 40, 41, 42] [2, 501, 502, 503] (notIn_ok rfl) fun K' hK' => ?_
        repeat (refine sxf_next fun K2 hK2 => ?_; simp [dNum, dS, bRow, dCl]; (repeat (refine ⟨by omega, ?_⟩)); refine hK2 _ ?_; clear hK2 K2)
        refine sxf_nil (hK' _ ?_)
        refine AW.st (by simp [dNum, dS, bRow, dCl]; rfl) ?_
        clear hK' K'
        refine AW_then fun K7 hK7 => ?_
        refine AW_cond' (b := i < es.length) (by simp [D.le, D.le.go, takeMap, dNum, dS, bRow, dCl]) (fun hc => ?_) (fun hc => ?_)
        · have hil : i < es.length := hc
          have hf := fresh_spec G (ns.length + i) (by omega) [] (entsOf id 0 ns ++ entsOf (fun s => 94 :: s) ns.length (es.take i))
          have hk0 : ∀ p ∈ entsOf id 0 ns ++ entsOf (fun s => 94 :: s) ns.length (es.take i), keyOk TypeDesc.string p.1 = true := ents_keys fun p hp => by
            rcases List.mem_append.1 hp with hp | hp <;> (obtain ⟨s, _, he⟩ := entsOf_key hp; exact ⟨_, he⟩)
          simp at hk0
          have hk1 := eq_true hk0
          have hput := put_edges (ns := ns) hsr2 (fun s hs t => name_no94 (hnf s hs)) hil
          simp only [dNum] at hput
          have hb94 := bs94 es[i]
          have h94 : (⟨#[94]⟩ : ByteArray).size = 1 := rfl
          have hsl := (name_facts (hef _ (List.getElem_mem hil))).2.1
          refine AW_skip (hK7 _ ?_)
          refine AW_then fun K8 hK8 => ?_
          refine AW_block ?_
          refine AW_rg (tyOf_good _) [0, 2, 5, 9, 39, 40, 41] [2, 501, 502, 503] (notIn_ok rfl) fun K' hK' => ?_
          repeat (refine sxf_next fun K2 hK2 => ?_; simp [dNum, dS, bRow, dCl, hil]; (repeat (refine ⟨by omega, ?_⟩)); refine hK2 _ ?_; clear hK2 K2)
          refine sxf_nil (hK' _ ?_)
          refine AW.st (by simp [dNum, dS, bRow, dCl, hil]; rfl) ?_
          clear hK' K'
          refine AW_rme (tyOf_good _) (by kernel_rfl) ([502]) ([]) ([7]) ([(3, .ref 501 0 2)]) (List.range 9) (by kernel_rfl) (by simp [OffE]) fun K' hK' => ?_
          repeat (refine sxm_nextO rfl fun K2 hK2 => ?_; simp [dNum, dS, bRow, dCl, hk1, hput, hb94, h94, binS, bs_size]; (repeat (refine ⟨by omega, ?_⟩)); refine hK2 _ ?_; clear hK2 K2)
          refine sxm_nextO rfl fun K2 hK2 => ?_
          simp [dNum, dS, bRow, dCl, hk1, hput, hb94, h94, binS, bs_size]
          refine hcK.mc (hf) (by simp [dNum, dS, bRow, dCl, hk1, hput, hb94, h94, binS, bs_size]) (by simp [dNum, dS, bRow, dCl, hk1, hput, hb94, h94, binS, bs_size]) (by simp [dNum, dS, bRow, dCl, hk1, hput, hb94, h94, binS, bs_size]) (by simp [dNum, dS, bRow, dCl, hk1, hput, hb94, h94, binS, bs_size]) (by simp [dNum, dS, bRow, dCl, hk1, hput, hb94, h94, binS, bs_size]) (by simp [dNum, dS, bRow, dCl, hk1, hput, hb94, h94, binS, bs_size]) (by simp [LdSame, dNum, dS, bRow, dCl, hk1, hput, hb94, h94, binS, bs_size]) ?_
          simp [dNum, dS, bRow, dCl, hk1, hput, hb94, h94, binS, bs_size]
          refine hK2 _ ?_
          clear hK2 K2
          repeat (refine sxm_nextO rfl fun K2 hK2 => ?_; simp [dNum, dS, bRow, dCl, hk1, hput, hb94, h94, binS, bs_size]; (repeat (refine ⟨by omega, ?_⟩)); refine hK2 _ ?_; clear hK2 K2)
          refine sxm_nilO (hK' _ ?_)
          clear hK' K'
          refine hK8 _ (AW.norm [0, 2, 5, 39, 40, 41] [2, 501, 502, 503] (notIn_ok rfl) (AW.st (by simp [dNum, dS, bRow, dCl, hk1, hput, hb94, h94, binS, bs_size]; rfl) ?_))
          refine AW_re (tyOf_good _) fun K' hK' => ?_
          repeat (refine sxf_next fun K2 hK2 => ?_; simp [dNum, dS, bRow, dCl]; (repeat (refine ⟨by omega, ?_⟩)); refine hK2 _ ?_; clear hK2 K2)
          refine sxf_nil (hK' _ ?_)
          clear hK' K'
          try simp only [thn, inb]
          refine Again.mk (i + 1) (by omega) (by omega) ?_
          refine Imp.to' (notIn_ok rfl) (by simp [dNum, dS, bRow, dCl, Int.add_assoc]) (by simp [dNum, dS, bRow, dCl, Int.add_assoc])
        · obtain rfl : i = es.length := by omega
          rw [List.take_length]
          refine AW_exit (hK6 _ ?_)
          refine AW_rg (tyOf_good _) [2, 5, 10] [2, 501, 502, 503] (notIn_ok rfl) fun K' hK' => ?_
          repeat (refine sxf_next fun K2 hK2 => ?_; simp [dNum, dS, bRow, dCl]; (repeat (refine ⟨by omega, ?_⟩)); refine hK2 _ ?_; clear hK2 K2)
          refine sxf_next fun K2 hK2 => ?_
          simp [dNum, dS, bRow, dCl]
          refine callK.mc (hlit) (by simp [dNum, dS, bRow, dCl]) (by simp [dNum, dS, bRow, dCl]) (by simp [dNum, dS, bRow, dCl]) (by simp [dNum, dS, bRow, dCl]) ?_
          simp [dNum, dS, bRow, dCl]
          refine hK2 _ ?_
          clear hK2 K2
          repeat (refine sxf_next fun K2 hK2 => ?_; simp [dNum, dS, bRow, dCl]; (repeat (refine ⟨by omega, ?_⟩)); refine hK2 _ ?_; clear hK2 K2)
          refine sxf_nil (hK' _ ?_)
          refine AW.st (by simp [dNum, dS, bRow, dCl]; rfl) ?_
          clear hK' K'
          refine AW_rg (tyOf_good _) [2, 3, 4] [2, 501, 502, 503] (notIn_ok rfl) fun K' hK' => ?_
          repeat (refine sxf_next fun K2 hK2 => ?_; simp [dNum, dS, bRow, dCl]; (repeat (refine ⟨by omega, ?_⟩)); refine hK2 _ ?_; clear hK2 K2)
          refine sxf_nil (hK' _ ?_)
          refine AW.st (by simp [dNum, dS, bRow, dCl]; rfl) ?_
          clear hK' K'
          refine AW_ret ?_
          simp [D.le, dNum]
theorem gof_limit (G : Glob) (e : Ex) (hb : bE e ≤ 2^28) (hs3 : 300 < szN e) : PureC Tryz.prog G 14 [dE e] (.tup [.agg [dNum 0, .sl (some false) []], dNum 0, dErr (some (4, none))]) := by
  have hsz := size_spec G e hb
  have h300 : (300 : Int) < (szN e : Int) := by omega
  obtain ⟨t, c, hec⟩ := dE_ifc e
  rw [hec] at hsz ⊢
  refine PureC.of_body (tyOf_good _) Tryz.func14 rfl rfl (rs := [.cell 2 45, .tmp 3, .tmp 4]) Tryz.results14 (by simp [Tryz.ntmps14]) fun X => ?_
  simp only [Tryz.ntmps14, List.map]
  refine AW_rg (tyOf_good _) [0, 2] [2] (fun _ _ => trivial) fun K' hK' => ?_
  repeat (refine sxf_next fun K2 hK2 => ?_; simp [dNum, dS, dErr]; (repeat (refine ⟨by omega, ?_⟩)); refine hK2 _ ?_; clear hK2 K2)
  refine sxf_nil (hK' _ ?_)
  refine AW.st (by simp [dNum, dS, dErr]; rfl) ?_
  clear hK' K'
  refine AW_then fun K1 hK1 => ?_
  refine AW_rg (tyOf_good _) [0, 2, 12] [2] (fun _ _ => trivial) fun K' hK' => ?_
  repeat (refine sxf_next fun K2 hK2 => ?_; simp [dNum, dS, dErr]; (repeat (refine ⟨by omega, ?_⟩)); refine hK2 _ ?_; clear hK2 K2)
  refine sxf_nil (hK' _ ?_)
  refine AW.st (by simp [dNum, dS, dErr]; rfl) ?_
  clear hK' K'
  refine AW_cond false rfl (fun h => by cases h) (fun _ => ?_)
  refine AW_skip (hK1 _ ?_)
  refine AW_then fun K2 hK2 => ?_
  refine AW_rg (tyOf_good _) [0, 2, 17] [2] (fun _ _ => trivial) fun K' hK' => ?_
  repeat (refine sxf_next fun K2 hK2 => ?_; simp [dNum, dS, dErr, h300]; (repeat (refine ⟨by omega, ?_⟩)); refine hK2 _ ?_; clear hK2 K2)
  refine sxf_next fun K2 hK2 => ?_
  simp [dNum, dS, dErr, h300]
  refine callK.data (hsz) (by simp; rfl) (by first | exact D.leGo_refl _ | simp [takeMap, List.map_map, Function.comp_def, D.le, D.le.go, D.le_refl, D.leGo_refl, dNum, dS, dErr, h300]) ?_
  refine hK2 _ ?_
  clear hK2 K2
  simp only [putd, upd_lst]
  repeat (refine sxf_next fun K2 hK2 => ?_; simp [dNum, dS, dErr, h300]; (repeat (refine ⟨by omega, ?_⟩)); refine hK2 _ ?_; clear hK2 K2)
  refine sxf_nil (hK' _ ?_)
  refine AW.st (by simp [dNum, dS, dErr, h300]; rfl) ?_
  clear hK' K'
  refine AW_cond true (by simp [h300, hs3]) (fun _ => ?_) (fun h => by cases h)
  refine AW_rg (tyOf_good _) [2, 3, 4] [2] (fun _ _ => trivial) fun K' hK' => ?_
  repeat (refine sxf_next fun K2 hK2 => ?_; simp [dNum, dS, dErr]; (repeat (refine ⟨by omega, ?_⟩)); refine hK2 _ ?_; clear hK2 K2)
  refine sxf_nil (hK' _ ?_)
  refine AW.st (by simp [dNum, dS, dErr]; rfl) ?_
  clear hK' K'
  refine AW_ret ?_
  simp [D.le, D.le.go, takeMap, dNum, dS, dErr]
end Go.Proofs.YtagfbbnlbncjlaaGreatDoor

/-
  gate.Solve of an expression's clauses; gate.Same.
-/
namespace Go.Proofs.YtagfbbnlbncjlaaGreatDoor
set_option linter.unusedSimpArgs false
set_option linter.unusedVariables false
open Go.Av

theorem mkAnd_lens (l : List Int) (c : Cs) : ∀ x ∈ (mkAnd l c).2.2, x ∈ c.2 ∨ x.length ≤ l.length + 2 := by
  intro x hx
  simp only [mkAnd, List.mem_append, List.mem_map, List.mem_singleton] at hx
  rcases hx with (hx | ⟨y, _, rfl⟩) | rfl
  · exact .inl hx
  · exact .inr (by simp)
  · exact .inr (by simp)
theorem lit_lens (ns es : List Tx) : ∀ (n : Nat) (e : Ex), SizeOf.sizeOf e ≤ n → ∀ c : Cs, ∀ x ∈ (litG ns es e c).2.2, x ∈ c.2 ∨ x.length ≤ szN e + 4
  | 0, e, hn, _ => by cases e <;> simp at hn
  | n + 1, e, hn, c => by
    have many : ∀ l : List Ex, (∀ x ∈ l, SizeOf.sizeOf x ≤ n) → ∀ c : Cs, ∀ x ∈ (litsG ns es l c).2.2, x ∈ c.2 ∨ x.length ≤ szNs l + 4 := by
      intro l
      induction l with
      | nil => intro _ c x hx; exact .inl hx
      | cons y l ih =>
        intro hs c x hx
        simp only [litsG, szNs] at hx ⊢
        rcases ih (fun z hz => hs z (by simp [hz])) _ x hx with h | h
        · rcases lit_lens ns es n y (hs y (by simp)) c x h with h | h
          · exact .inl h
          · exact .inr (by omega)
        · exact .inr (by omega)
    intro x hx
    cases e with
    | cst b =>
      simp only [litG, List.mem_append, List.mem_singleton] at hx
      rcases hx with hx | rfl
      · exact .inl hx
      · exact .inr (by simp)
    | bit s => exact .inl hx
    | rise s => exact (mkAnd_lens _ _ x hx).imp id fun h => by simp at h; simp only [szN]; omega
    | fall s => exact (mkAnd_lens _ _ x hx).imp id fun h => by simp at h; simp only [szN]; omega
    | not y => exact (lit_lens ns es n y (by simp at hn; omega) c x hx).imp id fun h => by simp only [szN]; omega
    | and l =>
      have hl := litsG_len ns es l c
      have hz := len_szNs l
      rcases mkAnd_lens _ _ x hx with h | h
      · exact (many l (fun x hx => by have := List.sizeOf_lt_of_mem hx; simp only [Ex.and.sizeOf_spec] at hn; omega) c x h).imp id fun h => by simp only [szN]; omega
      · exact .inr (by simp only [szN]; omega)
    | or l =>
      have hl := litsG_len ns es l c
      have hz := len_szNs l
      rcases mkAnd_lens _ _ x hx with h | h
      · exact (many l (fun x hx => by have := List.sizeOf_lt_of_mem hx; simp only [Ex.or.sizeOf_spec] at hn; omega) c x h).imp id fun h => by simp only [szN]; omega
      · rw [List.length_map] at h; exact .inr (by simp only [szN]; omega)

def srchE (e : Ex) := searchF (tsAll (namesE true e) (namesE false e) e) (tsE e).2.1 ((namesE true e).length + (namesE false e).length + 1) [] 0
def allE (e : Ex) : Cl := tsAll (namesE true e) (namesE false e) e
theorem allE_eq (e : Ex) : allE e = (tsE e).2.2 ++ [[(tsE e).1]] := rfl
theorem gbad_none {V : Nat} : ∀ {cs : Cl}, OkC V cs → ∀ i, gbad V cs i = none
  | [], _, _ => rfl
  | c :: cs, ok, i => by
    have h1 : c.any (badL V) = false := by
      rw [List.any_eq_false]
      intro x hx
      obtain ⟨a, b, c⟩ := ok _ (by simp) x hx
      unfold badL
      simp only [Bool.or_eq_true, decide_eq_true_eq, not_or]
      exact ⟨by omega, by omega, by omega⟩
    rw [gbad, h1]
    exact gbad_none (fun c hc => ok c (by simp [hc])) _
theorem tsE_bounds (e : Ex) (hs3 : szN e ≤ 300) (h6 : (namesE true e).length + (namesE false e).length ≤ 6) : (tsE e).2.1 ≤ 306 ∧ (tsE e).2.2.length ≤ 1200 ∧ ∀ c ∈ (tsE e).2.2, c.length ≤ 304 := by
  have h := lit_size (namesE true e) (namesE false e) _ e (Nat.le_refl _) ((namesE true e).length + (namesE false e).length, [])
  have h2 := lit_lens (namesE true e) (namesE false e) _ e (Nat.le_refl _) ((namesE true e).length + (namesE false e).length, [])
  have e1 : litG (namesE true e) (namesE false e) e ((namesE true e).length + (namesE false e).length, []) = tsE e := rfl
  rw [e1] at h h2
  dsimp only at h
  refine ⟨by omega, by simp at h; omega, fun c hc => ?_⟩
  rcases h2 c hc with h | h
  · cases h
  · omega
theorem gsolve_e (G : Glob) (e : Ex) (hw : WfE e) (hs3 : szN e ≤ 300) (h6 : (namesE true e).length + (namesE false e).length ≤ 6) :
    PureC Tryz.prog G 23 [dCl (tsE e).2.1 (allE e)] (if (srchE e).1 = true then .tup [dVals (tsE e).2.1 (valT (srchE e).2.1), .v .nilIface] else .tup [.sl (some false) [], dErr (some (8, none))]) := by
  have hN : ∀ s ∈ nmsE true e, s ∈ namesE true e := fun s hs => namesE_mem.2 hs
  have hE : ∀ s ∈ nmsE false e, s ∈ namesE false e := fun s hs => namesE_mem.2 hs
  have ok := ts_ok hN hE hw
  obtain ⟨b1, b2, b3⟩ := tsE_bounds e hs3 h6
  have hlen : (allE e).length ≤ 1201 := by rw [allE_eq]; simp; omega
  have hge : gateE ((tsE e).2.1 : Nat) (allE e) = none := by
    unfold gateE
    rw [if_neg (by omega)]
    exact gbad_none ok 0
  refine Solve_goodM G (tsE e).2.1 (by omega) (allE e) (by omega) (fun c hc => ?_) ok hge (leftT ((namesE true e).length + (namesE false e).length)) (fun tr g h1 h2 => ts_falls hN hE hw tr g h1 h2) _ (by have := leftT_le ((namesE true e).length + (namesE false e).length) []; omega) ?_
  · rw [allE_eq, List.mem_append, List.mem_singleton] at hc
    rcases hc with hc | rfl
    · have := b3 c hc; omega
    · simp
  · have : 2^((namesE true e).length + (namesE false e).length + 1) ≤ 2^7 := Nat.pow_le_pow_right (by decide) (by omega)
    omega

/-! ### Same -/
def difE (a b : Ex) : Ex := .or [.and [a, .not b], .and [.not a, b]]
theorem difE_ev (is was : Tx → Bool) (a b : Ex) : evE is was (difE a b) = (evE is was a != evE is was b) := by
  simp only [difE, evE, evA, evO]
  cases evE is was a <;> cases evE is was b <;> rfl
theorem difE_wf {a b : Ex} (ha : WfE a) (hb : WfE b) : WfE (difE a b) := by
  simp [difE, WfE, WfEs, ha, hb]
theorem difE_sz (a b : Ex) : szN (difE a b) = 2 * szN a + 2 * szN b + 5 := by
  simp [difE, szN, szNs]; omega
theorem nodup_len : ∀ {l m : List Tx}, l.Nodup → (∀ s ∈ l, s ∈ m) → l.length ≤ m.length
  | [], m, _, _ => Nat.zero_le _
  | x :: l, m, h, hs => by
    rw [List.nodup_cons] at h
    have hx := hs x (by simp)
    have ih := nodup_len (m := m.erase x) h.2 fun s hm => (List.mem_erase_of_ne fun e => h.1 (by rw [← e]; exact hm)).2 (hs s (by simp [hm]))
    rw [List.length_erase_of_mem hx] at ih
    have : 0 < m.length := List.length_pos_of_mem hx
    simp only [List.length_cons]
    omega
theorem srt_nodup {l : List Tx} (h : l.Pairwise (· < ·)) : l.Nodup := List.Pairwise.imp (fun {a b} hab (e : a = b) => by subst e; exact tx_irr _ hab) h
/-- Whether both always say the same. -/
def sameE (a b : Ex) : Bool := !(srchE (difE a b)).1
theorem sameE_iff {a b : Ex} (ha : WfE a) (hb : WfE b) : sameE a b = true ↔ ∀ is was, evE is was a = evE is was b := by
  have hN : ∀ s ∈ nmsE true (difE a b), s ∈ namesE true (difE a b) := fun s hs => namesE_mem.2 hs
  have hE : ∀ s ∈ nmsE false (difE a b), s ∈ namesE false (difE a b) := fun s hs => namesE_mem.2 hs
  obtain ⟨_, h1, h2⟩ := ts_search hN hE (difE_wf ha hb)
  unfold sameE
  constructor
  · intro h is was
    have h' : (srchE (difE a b)).1 = false := by simpa using h
    have := h2 h' is was
    rw [difE_ev] at this
    simpa using this
  · intro h
    cases hs : (srchE (difE a b)).1 with
    | false => rfl
    | true =>
      have := h1 hs
      rw [difE_ev, h] at this
      simp at this
end Go.Proofs.YtagfbbnlbncjlaaGreatDoor

/-
  gate.Same.
-/
namespace Go.Proofs.YtagfbbnlbncjlaaGreatDoor
set_option linter.unusedSimpArgs false
set_option linter.unusedVariables false
open Go.Av

set_option maxHeartbeats 16000000 in
theorem same_spec (G : Glob) (hG : HasErr G) (a b : Ex) (ha : WfE a) (hb : WfE b) (hab : bE a ≤ 2^24) (hbb : bE b ≤ 2^24) (hs : szN a + szN b ≤ 140) (h6 : (namesE true (difE a b)).length + (namesE false (difE a b)).length ≤ 6) :
    PureC Tryz.prog G 26 [dE a, dE b] (.tup [.v (.bool (sameE a b)), .v .nilIface]) := by
  have hsz := difE_sz a b
  have hof := gof_spec G (difE a b) (difE_wf ha hb) (by simp only [difE, bE, bEs]; omega) (by omega)
  have hso := gsolve_e G (difE a b) (difE_wf ha hb) (by omega) h6
  rw [allE_eq] at hso
  unfold sameE
  generalize (srchE (difE a b)).2.1 = tr at hso
  generalize (srchE (difE a b)).1 = r at hso ⊢
  have hd : dE (difE a b) = .ifc 116 (.sl none [[.ifc 113 (.sl none [[dE a], [.ifc 111 (.agg [dE b])]])], [.ifc 113 (.sl none [[.ifc 111 (.agg [dE a])], [dE b]])]]) := by simp [difE, dE, dEs]
  rw [hd] at hof
  have hbd := (tsE_bounds (difE a b) (by omega) h6).2.1
  generalize tsE (difE a b) = R at hof hso hbd
  obtain ⟨ta, ca, hca⟩ := dE_ifc a
  obtain ⟨tb, cb, hcb⟩ := dE_ifc b
  rw [hca, hcb] at hof ⊢
  refine PureC.of_body (tyOf_good _) Tryz.func26 rfl rfl (rs := [.tmp 4, .tmp 5]) Tryz.results26 (by simp [Tryz.ntmps26]) fun X => ?_
  simp only [Tryz.ntmps26, List.map]
  refine AW_rg (tyOf_good _) [0, 1] [] (fun _ _ => trivial) fun K' hK' => ?_
  repeat (refine sxf_next fun K2 hK2 => ?_; simp [dNum]; (repeat (refine ⟨by omega, ?_⟩)); refine hK2 _ ?_; clear hK2 K2)
  refine sxf_nil (hK' _ ?_)
  refine AW.st (by simp [dNum]; rfl) ?_
  clear hK' K'
  refine AW_then fun K1 hK1 => ?_
  refine AW_rg (tyOf_good _) [0, 1, 15] [] (fun _ _ => trivial) fun K' hK' => ?_
  repeat (refine sxf_next fun K2 hK2 => ?_; simp [dNum]; (repeat (refine ⟨by omega, ?_⟩)); refine hK2 _ ?_; clear hK2 K2)
  refine sxf_nil (hK' _ ?_)
  refine AW.st (by simp [dNum]; rfl) ?_
  clear hK' K'
  refine AW_cond false rfl (fun h => by cases h) (fun _ => ?_)
  refine AW_skip (hK1 _ ?_)
  refine AW_rg (tyOf_good _) [6] [29] (fun _ _ => trivial) fun K' hK' => ?_
  repeat (refine sxf_next fun K2 hK2 => ?_; simp [dNum]; (repeat (refine ⟨by omega, ?_⟩)); refine hK2 _ ?_; clear hK2 K2)
  refine sxf_nil (hK' _ ?_)
  refine AW.st (by simp [dNum]; rfl) ?_
  clear hK' K'
  refine AW.imp (Imp.freeze 29 trivial) ?_
  refine AW.st (by simp [dNum]; rfl) ?_
  refine AW_rg (tyOf_good _) [7, 8, 9] [502, 7] (fun _ _ => trivial) fun K' hK' => ?_
  repeat (refine sxf_next fun K2 hK2 => ?_; simp [dNum]; (repeat (refine ⟨by omega, ?_⟩)); refine hK2 _ ?_; clear hK2 K2)
  refine sxf_next fun K2 hK2 => ?_
  simp [dNum]
  refine callK.mc (hof) (by simp [dNum]) (by simp [dNum]) (by simp [dNum]) (by simp [dNum]) ?_
  simp [dNum]
  refine hK2 _ ?_
  clear hK2 K2
  repeat (refine sxf_next fun K2 hK2 => ?_; simp [dNum]; (repeat (refine ⟨by omega, ?_⟩)); refine hK2 _ ?_; clear hK2 K2)
  refine sxf_nil (hK' _ ?_)
  refine AW.st (by simp [dNum]; rfl) ?_
  clear hK' K'
  refine AW_then fun K2 hK2 => ?_
  refine AW_rg (tyOf_good _) [7, 8, 9, 38] [502, 7] (fun _ _ => trivial) fun K' hK' => ?_
  repeat (refine sxf_next fun K2 hK2 => ?_; simp [dNum]; (repeat (refine ⟨by omega, ?_⟩)); refine hK2 _ ?_; clear hK2 K2)
  refine sxf_nil (hK' _ ?_)
  refine AW.st (by simp [dNum]; rfl) ?_
  clear hK' K'
  refine AW_cond false rfl (fun h => by cases h) (fun _ => ?_)
  refine AW_skip (hK2 _ ?_)
  have htk : List.take R.2.2.length (R.2.2.map fun l => [dRow l]) = R.2.2.map fun l => [dRow l] := List.take_of_length_le (by simp)
  simp only [dRow, dInts] at htk
  refine AW_rg (tyOf_good _) [7] [502, 7] (fun _ _ => trivial) fun K' hK' => ?_
  repeat (refine sxf_next fun K2 hK2 => ?_; simp [dNum, htk, dRow, dInts]; (repeat (refine ⟨by omega, ?_⟩)); refine hK2 _ ?_; clear hK2 K2)
  refine sxf_nil (hK' _ ?_)
  refine AW.st (by simp [dNum, htk, dRow, dInts]; rfl) ?_
  clear hK' K'
  have htk2 : List.take (R.2.2.length + 1) ((R.2.2.map fun l => [dRow l]) ++ [[dRow [R.1]]]) = (R.2.2.map fun l => [dRow l]) ++ [[dRow [R.1]]] := List.take_of_length_le (by simp)
  simp only [dRow, dInts, dNum, List.map_cons, List.map_nil] at htk2
  refine AW.imp (Imp.freeze 502 trivial) ?_
  refine AW.st (by simp [dNum, htk2, dRow, dInts]; rfl) ?_
  have hts := tell_spec G hG
  cases r with
  | true =>
    have ht := hts none
    refine AW_rg (tyOf_good _) [9] [] (fun _ _ => trivial) fun K' hK' => ?_
    repeat (refine sxf_next fun K2 hK2 => ?_; simp [dNum, dCl, dRows, dRow, dInts, htk2]; (repeat (refine ⟨by omega, ?_⟩)); refine hK2 _ ?_; clear hK2 K2)
    refine sxf_next fun K2 hK2 => ?_
    simp [dNum, dCl, dRows, dRow, dInts, htk2]
    refine callK.data (hso) (by simp; rfl) (by first | exact D.leGo_refl _ | simp [takeMap, List.map_map, Function.comp_def, D.le, D.le.go, D.le_refl, D.leGo_refl, dNum, dCl, dRows, dRow, dInts, htk2]) ?_
    refine hK2 _ ?_
    clear hK2 K2
    simp only [putd, upd_lst]
    repeat (refine sxf_next fun K2 hK2 => ?_; simp [dNum, dCl, dRows, dRow, dInts, htk2]; (repeat (refine ⟨by omega, ?_⟩)); refine hK2 _ ?_; clear hK2 K2)
    refine sxf_nil (hK' _ ?_)
    refine AW.st (by simp [dNum, dCl, dRows, dRow, dInts, htk2]; rfl) ?_
    clear hK' K'
    refine AW_then fun K3 hK3 => ?_
    refine AW_rg (tyOf_good _) [9, 53] [] (fun _ _ => trivial) fun K' hK' => ?_
    repeat (refine sxf_next fun K2 hK2 => ?_; simp [dNum, dErr]; (repeat (refine ⟨by omega, ?_⟩)); refine hK2 _ ?_; clear hK2 K2)
    refine sxf_next fun K2 hK2 => ?_
    simp [dNum, dErr]
    refine callK.data (ht) (by simp; rfl) (by first | exact D.leGo_refl _ | simp [takeMap, List.map_map, Function.comp_def, D.le, D.le.go, D.le_refl, D.leGo_refl, dNum, dErr]) ?_
    refine hK2 _ ?_
    clear hK2 K2
    simp only [putd, upd_lst]
    repeat (refine sxf_next fun K2 hK2 => ?_; simp [dNum, dErr]; (repeat (refine ⟨by omega, ?_⟩)); refine hK2 _ ?_; clear hK2 K2)
    refine sxf_nil (hK' _ ?_)
    refine AW.st (by simp [dNum, dErr]; rfl) ?_
    clear hK' K'
    refine AW_block ?_
    refine AW_rg (tyOf_good _) [9, 53, 54] [] (fun _ _ => trivial) fun K' hK' => ?_
    repeat (refine sxf_next fun K2 hK2 => ?_; simp [dNum, codeF]; (repeat (refine ⟨by omega, ?_⟩)); refine hK2 _ ?_; clear hK2 K2)
    refine sxf_nil (hK' _ ?_)
    refine AW.st (by simp [dNum, codeF]; rfl) ?_
    clear hK' K'
    refine AW_cond true rfl (fun _ => ?_) (fun h => by cases h)
    refine AW_rg (tyOf_good _) [4, 5] [] (fun _ _ => trivial) fun K' hK' => ?_
    repeat (refine sxf_next fun K2 hK2 => ?_; simp [dNum]; (repeat (refine ⟨by omega, ?_⟩)); refine hK2 _ ?_; clear hK2 K2)
    refine sxf_nil (hK' _ ?_)
    refine AW.st (by simp [dNum]; rfl) ?_
    clear hK' K'
    refine AW_ret ?_
    simp [D.le, D.le.go, takeMap, dNum]
  | false =>
    have ht := hts (some (8, none))
    refine AW_rg (tyOf_good _) [9] [] (fun _ _ => trivial) fun K' hK' => ?_
    repeat (refine sxf_next fun K2 hK2 => ?_; simp [dNum, dCl, dRows, dRow, dInts, htk2]; (repeat (refine ⟨by omega, ?_⟩)); refine hK2 _ ?_; clear hK2 K2)
    refine sxf_next fun K2 hK2 => ?_
    simp [dNum, dCl, dRows, dRow, dInts, htk2]
    refine callK.data (hso) (by simp; rfl) (by first | exact D.leGo_refl _ | simp [takeMap, List.map_map, Function.comp_def, D.le, D.le.go, D.le_refl, D.leGo_refl, dNum, dCl, dRows, dRow, dInts, htk2]) ?_
    refine hK2 _ ?_
    clear hK2 K2
    simp only [putd, upd_lst]
    repeat (refine sxf_next fun K2 hK2 => ?_; simp [dNum, dCl, dRows, dRow, dInts, htk2]; (repeat (refine ⟨by omega, ?_⟩)); refine hK2 _ ?_; clear hK2 K2)
    refine sxf_nil (hK' _ ?_)
    refine AW.st (by simp [dNum, dCl, dRows, dRow, dInts, htk2]; rfl) ?_
    clear hK' K'
    refine AW_then fun K3 hK3 => ?_
    refine AW_rg (tyOf_good _) [9, 53] [] (fun _ _ => trivial) fun K' hK' => ?_
    repeat (refine sxf_next fun K2 hK2 => ?_; simp [dNum, dErr]; (repeat (refine ⟨by omega, ?_⟩)); refine hK2 _ ?_; clear hK2 K2)
    refine sxf_next fun K2 hK2 => ?_
    simp [dNum, dErr]
    refine callK.data (ht) (by simp; rfl) (by first | exact D.leGo_refl _ | simp [takeMap, List.map_map, Function.comp_def, D.le, D.le.go, D.le_refl, D.leGo_refl, dNum, dErr]) ?_
    refine hK2 _ ?_
    clear hK2 K2
    simp only [putd, upd_lst]
    repeat (refine sxf_next fun K2 hK2 => ?_; simp [dNum, dErr]; (repeat (refine ⟨by omega, ?_⟩)); refine hK2 _ ?_; clear hK2 K2)
    refine sxf_nil (hK' _ ?_)
    refine AW.st (by simp [dNum, dErr]; rfl) ?_
    clear hK' K'
    refine AW_block ?_
    refine AW_rg (tyOf_good _) [9, 53, 54] [] (fun _ _ => trivial) fun K' hK' => ?_
    repeat (refine sxf_next fun K2 hK2 => ?_; simp [dNum, codeF]; (repeat (refine ⟨by omega, ?_⟩)); refine hK2 _ ?_; clear hK2 K2)
    refine sxf_nil (hK' _ ?_)
    refine AW.st (by simp [dNum, codeF]; rfl) ?_
    clear hK' K'
    refine AW_cond false rfl (fun h => by cases h) (fun _ => ?_)
    refine AW_rg (tyOf_good _) [9, 56] [] (fun _ _ => trivial) fun K' hK' => ?_
    repeat (refine sxf_next fun K2 hK2 => ?_; simp [dNum, codeF]; (repeat (refine ⟨by omega, ?_⟩)); refine hK2 _ ?_; clear hK2 K2)
    refine sxf_nil (hK' _ ?_)
    refine AW.st (by simp [dNum, codeF]; rfl) ?_
    clear hK' K'
    refine AW_cond true rfl (fun _ => ?_) (fun h => by cases h)
    refine AW_rg (tyOf_good _) [4, 5] [] (fun _ _ => trivial) fun K' hK' => ?_
    repeat (refine sxf_next fun K2 hK2 => ?_; simp [dNum]; (repeat (refine ⟨by omega, ?_⟩)); refine hK2 _ ?_; clear hK2 K2)
    refine sxf_nil (hK' _ ?_)
    refine AW.st (by simp [dNum]; rfl) ?_
    clear hK' K'
    refine AW_ret ?_
    simp [D.le, D.le.go, takeMap, dNum]
end Go.Proofs.YtagfbbnlbncjlaaGreatDoor

/-
  gated: a fact; what GateTseitin says.
-/
namespace Go.Proofs.YtagfbbnlbncjlaaGreatDoor
set_option linter.unusedSimpArgs false
set_option linter.unusedVariables false
open Go.Av

def exG1 : Ex := .not (.and [.bit [97], .bit [98]])
def exG2 : Ex := .or [.not (.bit [97]), .not (.bit [98])]
def exG3 : Ex := .and [.not (.bit [97]), .not (.bit [98])]
theorem exG1_wf : WfE exG1 := by simp only [exG1, WfE, WfEs]; exact ⟨by simp, by decide +kernel, by decide +kernel, trivial⟩
theorem exG2_wf : WfE exG2 := by simp only [exG2, WfE, WfEs]; exact ⟨by simp, by decide +kernel, by decide +kernel, trivial⟩
theorem exG3_wf : WfE exG3 := by simp only [exG3, WfE, WfEs]; exact ⟨by simp, by decide +kernel, by decide +kernel, trivial⟩
theorem exG1_parse : parseM [33, 40, 97, 32, 38, 32, 98, 41] = (some exG1, none) := by
  have ht : wrE exG1 0 = [33, 40, 97, 32, 38, 32, 98, 41] := by simp [exG1, wrE, wrL, Lib.join, List.intercalate]
  have := parse_back exG1_wf (by simp [exG1, dpI, dpA, dpE, dpO]) (by rw [ht]; simp)
  rw [ht] at this
  exact this
theorem exG2_parse : parseM [33, 97, 32, 124, 32, 33, 98] = (some exG2, none) := by
  have ht : wrE exG2 0 = [33, 97, 32, 124, 32, 33, 98] := by simp [exG2, wrE, wrL, Lib.join, List.intercalate]
  have := parse_back exG2_wf (by simp [exG2, dpI, dpA, dpE, dpO]) (by rw [ht]; simp)
  rw [ht] at this
  exact this
theorem exG3_parse : parseM [33, 97, 32, 38, 32, 33, 98] = (some exG3, none) := by
  have ht : wrE exG3 0 = [33, 97, 32, 38, 32, 33, 98] := by simp [exG3, wrE, wrL, Lib.join, List.intercalate]
  have := parse_back exG3_wf (by simp [exG3, dpI, dpA, dpE, dpO]) (by rw [ht]; simp)
  rw [ht] at this
  exact this
theorem names_le {all : Bool} {e : Ex} {m : List Tx} (h : ∀ s ∈ nmsE all e, s ∈ m) : (namesE all e).length ≤ m.length := nodup_len (srt_nodup (namesE_srt all e)) fun s hs => h s (namesE_mem.1 hs)
theorem exG12_six : (namesE true (difE exG1 exG2)).length + (namesE false (difE exG1 exG2)).length ≤ 6 := by
  have h1 := names_le (all := true) (e := difE exG1 exG2) (m := [[97], [98]]) (by simp [difE, exG1, exG2, nmsE, nmsL, nmE, one1])
  have h2 := names_le (all := false) (e := difE exG1 exG2) (m := []) (by simp [difE, exG1, exG2, nmsE, nmsL, nmE, one1])
  simp only [List.length_cons, List.length_nil] at h1 h2
  omega
theorem exG13_six : (namesE true (difE exG1 exG3)).length + (namesE false (difE exG1 exG3)).length ≤ 6 := by
  have h1 := names_le (all := true) (e := difE exG1 exG3) (m := [[97], [98]]) (by simp [difE, exG1, exG3, nmsE, nmsL, nmE, one1])
  have h2 := names_le (all := false) (e := difE exG1 exG3) (m := []) (by simp [difE, exG1, exG3, nmsE, nmsL, nmE, one1])
  simp only [List.length_cons, List.length_nil] at h1 h2
  omega
theorem exG12_same : sameE exG1 exG2 = true := by
  rw [sameE_iff exG1_wf exG2_wf]
  intro is was
  simp only [exG1, exG2, evE, evA, evO]
  cases is [97] <;> cases is [98] <;> rfl
theorem exG13_same : sameE exG1 exG3 = false := by
  cases h : sameE exG1 exG3 with
  | false => rfl
  | true =>
    have := (sameE_iff exG1_wf exG3_wf).1 h (fun s => s == [97]) (fun _ => false)
    revert this
    simp [exG1, exG3, evE, evA]
theorem lg1 : (⟨#[33, 40, 97, 32, 38, 32, 98, 41]⟩ : ByteArray) = bs [33, 40, 97, 32, 38, 32, 98, 41] := rfl
theorem lg2 : (⟨#[33, 97, 32, 124, 32, 33, 98]⟩ : ByteArray) = bs [33, 97, 32, 124, 32, 33, 98] := rfl
theorem lg3 : (⟨#[33, 97, 32, 38, 32, 33, 98]⟩ : ByteArray) = bs [33, 97, 32, 38, 32, 33, 98] := rfl
set_option maxHeartbeats 16000000 in
theorem gated_spec (G : Glob) (hG : HasErr G) : PureC Tryz.prog G 19 [] (.v (.bool true)) := by
  have hp1 := parse_spec G [33, 40, 97, 32, 38, 32, 98, 41] (by decide)
  rw [exG1_parse] at hp1
  have hp2 := parse_spec G [33, 97, 32, 124, 32, 33, 98] (by decide)
  rw [exG2_parse] at hp2
  have hp3 := parse_spec G [33, 97, 32, 38, 32, 33, 98] (by decide)
  rw [exG3_parse] at hp3
  have hs1 := same_spec G hG exG1 exG2 exG1_wf exG2_wf (by simp [exG1, bE, bEs]) (by simp [exG2, bE, bEs]) (by simp [exG1, exG2, szN, szNs]) exG12_six
  have hs2 := same_spec G hG exG1 exG3 exG1_wf exG3_wf (by simp [exG1, bE, bEs]) (by simp [exG3, bE, bEs]) (by simp [exG1, exG3, szN, szNs]) exG13_six
  rw [exG12_same] at hs1
  rw [exG13_same] at hs2
  obtain ⟨t1, c1, h1⟩ := dE_ifc exG1
  obtain ⟨t2, c2, h2⟩ := dE_ifc exG2
  obtain ⟨t3, c3, h3⟩ := dE_ifc exG3
  simp only [dOE] at hp1 hp2 hp3
  rw [h1] at hp1 hs1 hs2
  rw [h2] at hp2 hs1
  rw [h3] at hp3 hs2
  refine PureC.of_body (tyOf_good _) Tryz.func19 rfl rfl (rs := [.tmp 0]) Tryz.results19 (by simp [Tryz.ntmps19]) fun X => ?_
  simp only [Tryz.ntmps19, List.map]
  refine AW_rg (tyOf_good _) [] [] (fun _ _ => trivial) fun K' hK' => ?_
  repeat (refine sxf_next fun K2 hK2 => ?_; simp [dNum, dS, dErr]; (repeat (refine ⟨by omega, ?_⟩)); refine hK2 _ ?_; clear hK2 K2)
  refine sxf_nil (hK' _ ?_)
  refine AW.st (by simp [dNum, dS, dErr]; rfl) ?_
  clear hK' K'
  refine AW_rg (tyOf_good _) [1, 2] [] (fun _ _ => trivial) fun K' hK' => ?_
  repeat (refine sxf_next fun K2 hK2 => ?_; simp [dNum, dS, dErr, lg1]; (repeat (refine ⟨by omega, ?_⟩)); refine hK2 _ ?_; clear hK2 K2)
  refine sxf_next fun K2 hK2 => ?_
  simp [dNum, dS, dErr, lg1]
  refine callK.data (hp1) (by simp; rfl) (by first | exact D.leGo_refl _ | simp [takeMap, List.map_map, Function.comp_def, D.le, D.le.go, D.le_refl, D.leGo_refl, dNum, dS, dErr, lg1]) ?_
  refine hK2 _ ?_
  clear hK2 K2
  simp only [putd, upd_lst]
  repeat (refine sxf_next fun K2 hK2 => ?_; simp [dNum, dS, dErr, lg1]; (repeat (refine ⟨by omega, ?_⟩)); refine hK2 _ ?_; clear hK2 K2)
  refine sxf_nil (hK' _ ?_)
  refine AW.st (by simp [dNum, dS, dErr, lg1]; rfl) ?_
  clear hK' K'
  refine AW_rg (tyOf_good _) [1, 2, 3, 4] [] (fun _ _ => trivial) fun K' hK' => ?_
  repeat (refine sxf_next fun K2 hK2 => ?_; simp [dNum, dS, dErr, lg2]; (repeat (refine ⟨by omega, ?_⟩)); refine hK2 _ ?_; clear hK2 K2)
  refine sxf_next fun K2 hK2 => ?_
  simp [dNum, dS, dErr, lg2]
  refine callK.data (hp2) (by simp; rfl) (by first | exact D.leGo_refl _ | simp [takeMap, List.map_map, Function.comp_def, D.le, D.le.go, D.le_refl, D.leGo_refl, dNum, dS, dErr, lg2]) ?_
  refine hK2 _ ?_
  clear hK2 K2
  simp only [putd, upd_lst]
  repeat (refine sxf_next fun K2 hK2 => ?_; simp [dNum, dS, dErr, lg2]; (repeat (refine ⟨by omega, ?_⟩)); refine hK2 _ ?_; clear hK2 K2)
  refine sxf_nil (hK' _ ?_)
  refine AW.st (by simp [dNum, dS, dErr, lg2]; rfl) ?_
  clear hK' K'
  refine AW_rg (tyOf_good _) [1, 2, 3, 4, 5, 6] [] (fun _ _ => trivial) fun K' hK' => ?_
  repeat (refine sxf_next fun K2 hK2 => ?_; simp [dNum, dS, dErr, lg3]; (repeat (refine ⟨by omega, ?_⟩)); refine hK2 _ ?_; clear hK2 K2)
  refine sxf_next fun K2 hK2 => ?_
  simp [dNum, dS, dErr, lg3]
  refine callK.data (hp3) (by simp; rfl) (by first | exact D.leGo_refl _ | simp [takeMap, List.map_map, Function.comp_def, D.le, D.le.go, D.le_refl, D.leGo_refl, dNum, dS, dErr, lg3]) ?_
  refine hK2 _ ?_
  clear hK2 K2
  simp only [putd, upd_lst]
  repeat (refine sxf_next fun K2 hK2 => ?_; simp [dNum, dS, dErr, lg3]; (repeat (refine ⟨by omega, ?_⟩)); refine hK2 _ ?_; clear hK2 K2)
  refine sxf_nil (hK' _ ?_)
  refine AW.st (by simp [dNum, dS, dErr, lg3]; rfl) ?_
  clear hK' K'
  refine AW_then fun K1 hK1 => ?_
  refine AW_rg (tyOf_good _) [1, 3, 5, 30] [] (fun _ _ => trivial) fun K' hK' => ?_
  repeat (refine sxf_next fun K2 hK2 => ?_; simp [dNum, dS, dErr]; (repeat (refine ⟨by omega, ?_⟩)); refine hK2 _ ?_; clear hK2 K2)
  refine sxf_nil (hK' _ ?_)
  refine AW.st (by simp [dNum, dS, dErr]; rfl) ?_
  clear hK' K'
  refine AW_cond false rfl (fun h => by cases h) (fun _ => ?_)
  refine AW_skip (hK1 _ ?_)
  refine AW_rg (tyOf_good _) [1, 2, 5, 7] [] (fun _ _ => trivial) fun K' hK' => ?_
  repeat (refine sxf_next fun K2 hK2 => ?_; simp [dNum, dS, dErr]; (repeat (refine ⟨by omega, ?_⟩)); refine hK2 _ ?_; clear hK2 K2)
  refine sxf_next fun K2 hK2 => ?_
  simp [dNum, dS, dErr]
  refine callK.data (hs1) (by simp; rfl) (by first | exact D.leGo_refl _ | simp [takeMap, List.map_map, Function.comp_def, D.le, D.le.go, D.le_refl, D.leGo_refl, dNum, dS, dErr]) ?_
  refine hK2 _ ?_
  clear hK2 K2
  simp only [putd, upd_lst]
  repeat (refine sxf_next fun K2 hK2 => ?_; simp [dNum, dS, dErr]; (repeat (refine ⟨by omega, ?_⟩)); refine hK2 _ ?_; clear hK2 K2)
  refine sxf_nil (hK' _ ?_)
  refine AW.st (by simp [dNum, dS, dErr]; rfl) ?_
  clear hK' K'
  refine AW_rg (tyOf_good _) [2, 4, 7, 8] [] (fun _ _ => trivial) fun K' hK' => ?_
  repeat (refine sxf_next fun K2 hK2 => ?_; simp [dNum, dS, dErr]; (repeat (refine ⟨by omega, ?_⟩)); refine hK2 _ ?_; clear hK2 K2)
  refine sxf_next fun K2 hK2 => ?_
  simp [dNum, dS, dErr]
  refine callK.data (hs2) (by simp; rfl) (by first | exact D.leGo_refl _ | simp [takeMap, List.map_map, Function.comp_def, D.le, D.le.go, D.le_refl, D.leGo_refl, dNum, dS, dErr]) ?_
  refine hK2 _ ?_
  clear hK2 K2
  simp only [putd, upd_lst]
  repeat (refine sxf_next fun K2 hK2 => ?_; simp [dNum, dS, dErr]; (repeat (refine ⟨by omega, ?_⟩)); refine hK2 _ ?_; clear hK2 K2)
  refine sxf_nil (hK' _ ?_)
  refine AW.st (by simp [dNum, dS, dErr]; rfl) ?_
  clear hK' K'
  refine AW_rg (tyOf_good _) [0] [] (fun _ _ => trivial) fun K' hK' => ?_
  repeat (refine sxf_next fun K2 hK2 => ?_; simp [dNum, dS, dErr]; (repeat (refine ⟨by omega, ?_⟩)); refine hK2 _ ?_; clear hK2 K2)
  refine sxf_nil (hK' _ ?_)
  refine AW.st (by simp [dNum, dS, dErr]; rfl) ?_
  clear hK' K'
  refine AW_ret ?_
  simp [D.le, D.le.go, takeMap, dNum, dS, dErr]
end Go.Proofs.YtagfbbnlbncjlaaGreatDoor
