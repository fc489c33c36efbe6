/-
  Texts that belong together, in one file: S3, S4, S5, S6, S7, S8, Av22, R1, Q3, P5, Sh0, N1, R2.
-/
import Derived.Test.YtoikggboakojlaaDoorGs3
import Derived.Test.YtoikggboakojlaaDoorRows
import Derived.LaidLaws
import Derived.LaidHandle
import Derived.LaidSub
import Derived.Stop.Joined
import Derived.Lay
import Derived.Lib.SlTrimSet
import Derived.Test.YtoikggboakojlaaDoorProg
import Derived.Ground.NamesProg
import Derived.Shelf.Strings.SlTrimAscii
import Derived.Laws.Strings
import Derived.SizedLaws
/-
  What follows is set, until nothing does.
-/
namespace Go.Proofs.YtoikggboakojlaaDoor
set_option linter.unusedSimpArgs false
set_option linter.unusedVariables false
open Go.Av

theorem pass_less {V : Nat} {cs : Cl} {cur c2 : List Int} (ok : OkC V cs) (g : GoodT V cur) (h : passF cs cur false = (true, c2, true)) : leftT V c2 < leftT V cur := by
  obtain ⟨⟨ext, a1, a1'⟩, a2, _⟩ := pass_facts cs cur false ok g
  rw [h] at a1 a1' a2
  have hag := a1' rfl
  dsimp only at a1 a2 hag
  obtain ⟨x, ext', rfl⟩ : ∃ x e, ext = x :: e := by cases ext with | nil => simp at hag | cons x e => exact ⟨x, e, rfl⟩
  have hx : isT cur x = 0 := by
    rw [isT_zero]
    rw [a1] at a2
    refine ⟨fun hx => ?_, fun hx => a2.one _ (List.mem_append_left _ hx) (by rw [Int.neg_neg]; simp)⟩
    exact (List.nodup_append.1 a2.nodup).2.2 x hx x (by simp) rfl
  have hp := a2.pos x (by rw [a1]; simp)
  have hlt := leftT_lt hp.1 hp.2.1 hp.2.2 hx ext'
  rwa [← a1] at hlt
theorem pass_good {V : Nat} {cs : Cl} {cur : List Int} {ag : Bool} (ok : OkC V cs) (g : GoodT V cur) : GoodT V (passF cs cur ag).2.1 := (pass_facts cs cur ag ok g).2.1

def scanT (tr : List Int) (c : List Int) (j : Nat) : Int × Nat × Bool := (c.take j).foldl (stepC tr) (0, 0, false)
theorem scanT_succ (tr : List Int) {c : List Int} {j : Nat} (h : j < c.length) : scanT tr c (j + 1) = stepC tr (scanT tr c j) c[j] := by
  unfold scanT
  rw [List.take_succ_eq_append_getElem h, List.foldl_append]
  rfl
theorem scanT_all (tr : List Int) (c : List Int) : scanT tr c c.length = scanC tr c := by unfold scanT scanC; rw [List.take_length]
theorem scanT_many (tr : List Int) (c : List Int) : ∀ j, j ≤ c.length → (scanT tr c j).2.1 ≤ j
  | 0, _ => by simp [scanT]
  | j + 1, h => by
    have ih := scanT_many tr c j (by omega)
    rw [scanT_succ tr (show j < c.length by omega)]
    unfold stepC
    repeat' split
    all_goals first | omega | (dsimp only; omega)
theorem good_len {V : Nat} : ∀ {tr : List Int}, GoodT V tr → tr.length + leftT V tr ≤ V := by
  have key : ∀ (ext tr : List Int), GoodT V (tr ++ ext) → leftT V (tr ++ ext) + ext.length ≤ leftT V tr := by
    intro ext
    induction ext with
    | nil => intro tr _; simp
    | cons x ext ih =>
      intro tr g
      have g' : GoodT V (tr ++ [x] ++ ext) := by simpa using g
      have h1 := ih (tr ++ [x]) g'
      have hx : isT tr x = 0 := by
        rw [isT_zero]
        refine ⟨fun hx => ?_, fun hx => g.one _ (List.mem_append_left _ hx) (by rw [Int.neg_neg]; simp)⟩
        exact (List.nodup_append.1 g.nodup).2.2 x hx x (by simp) rfl
      have hp := g.pos x (by simp)
      have h2 := leftT_lt hp.1 hp.2.1 hp.2.2 hx []
      have e : tr ++ [x] ++ ext = tr ++ x :: ext := by simp
      rw [e] at h1
      simp only [List.length_cons]
      omega
  intro tr g
  have := key tr [] (by simpa using g)
  have h0 := leftT_le V []
  simp only [List.nil_append] at this
  omega

set_option maxHeartbeats 8000000 in
theorem spread_spec (G : Glob) (V : Nat) (hV : V < 2^19) (cs : Cl) (hcs : cs.length < 2^60) (hcl : ∀ c ∈ cs, c.length < 2^60) (ok : OkC V cs) (tr : List Int) (g : GoodT V tr) (k n : Nat) (hn : leftT V tr < n) :
    MC Tryd.prog G [22, 20] 93 [.ref 22 0 0] (hlst (solR V cs tr k)) (.d (.v (.bool (spreadF cs n tr).1))) (hlst (solR V cs (spreadF cs n tr).2 k)) := by
  refine MC.of_body (tyOf_good _) Tryd.func93 rfl rfl (rs := [.tmp 2]) Tryd.results93 (by simp [Tryd.ntmps93]) rfl fun X => ?_
  simp only [Tryd.ntmps93]
  simp only [solR]
  refine AW_rg (tyOf_good _) [0] [22, 20, 502] (notIn_ok rfl) fun K' hK' => ?_
  repeat (refine sxf_next fun K2 hK2 => ?_; simp [dNum]; (repeat (refine ⟨by omega, ?_⟩)); refine hK2 _ ?_; clear hK2 K2)
  refine sxf_nil (hK' _ ?_)
  refine AW.st (by simp [dNum]; rfl) ?_
  clear hK' K'
  refine AW_then fun K1 hK1 => ?_
  refine AW_rg (tyOf_good _) [0, 3] [22, 20, 502] (notIn_ok rfl) fun K' hK' => ?_
  repeat (refine sxf_next fun K2 hK2 => ?_; simp [dNum]; (repeat (refine ⟨by omega, ?_⟩)); refine hK2 _ ?_; clear hK2 K2)
  refine sxf_nil (hK' _ ?_)
  refine AW.st (by simp [dNum]; rfl) ?_
  clear hK' K'
  refine AW_for (S := Nat × List Int × Bool) (fun s => GoodT V s.2.1 ∧ (s.2.2 = true → leftT V s.2.1 < s.1 ∧ spreadF cs s.1 s.2.1 = spreadF cs n tr) ∧ (s.2.2 = false → spreadF cs n tr = (true, s.2.1))) (fun s => ⟨lst [(0, .ref 22 0 0), (3, .d (.v (.bool s.2.2)))], hlst (solR V cs s.2.1 k)⟩) (fun s => s.1) (n, tr, true) ?_ ⟨g, fun _ => ⟨hn, rfl⟩, fun h => by cases h⟩ ?_
  · simp only [solR]
    refine Imp.to' (notIn_ok rfl) (by simp [dNum]) (by simp [dNum])
  · rintro ⟨m, cur, again⟩ ⟨gc, hag, hno⟩
    dsimp only at gc hag hno ⊢
    simp only [solR]
    refine AW_then fun K2 hK2 => ?_
    refine AW_rg (tyOf_good _) [0, 11] [22, 20, 502] (notIn_ok rfl) fun K' hK' => ?_
    repeat (refine sxf_next fun K2 hK2 => ?_; simp [dNum]; (repeat (refine ⟨by omega, ?_⟩)); refine hK2 _ ?_; clear hK2 K2)
    refine sxf_nil (hK' _ ?_)
    refine AW.st (by simp [dNum]; rfl) ?_
    clear hK' K'
    cases again with
    | false =>
      refine AW_cond false rfl (fun h => by cases h) (fun _ => ?_)
      refine AW_exit (hK1 _ ?_)
      rw [hno rfl]
      refine AW_rg (tyOf_good _) [2] [22, 20, 502] (notIn_ok rfl) fun K' hK' => ?_
      repeat (refine sxf_next fun K2 hK2 => ?_; simp [dNum]; (repeat (refine ⟨by omega, ?_⟩)); refine hK2 _ ?_; clear hK2 K2)
      refine sxf_nil (hK' _ ?_)
      refine AW.st (by simp [dNum]; rfl) ?_
      clear hK' K'
      refine AW_ret ?_
      simp [solR, dNum, D.le]
    | true =>
      obtain ⟨hlt, hsp⟩ := hag rfl
      obtain ⟨m, rfl⟩ : ∃ m', m = m' + 1 := ⟨m - 1, by omega⟩
      rw [spreadF] at hsp
      refine AW_cond true rfl (fun _ => ?_) (fun h => by cases h)
      refine AW_skip (hK2 _ ?_)
      refine AW_block ?_
      refine AW_rg (tyOf_good _) [0, 3] [22, 20, 502] (notIn_ok rfl) fun K' hK' => ?_
      repeat (refine sxf_next fun K2 hK2 => ?_; simp [dNum]; (repeat (refine ⟨by omega, ?_⟩)); refine hK2 _ ?_; clear hK2 K2)
      refine sxf_nil (hK' _ ?_)
      refine AW.st (by simp [dNum]; rfl) ?_
      clear hK' K'
      refine AW_rg (tyOf_good _) [0, 3, 16, 17, 18] [22, 20, 502] (notIn_ok rfl) fun K' hK' => ?_
      repeat (refine sxf_next fun K2 hK2 => ?_; simp [dNum, dRows]; (repeat (refine ⟨by omega, ?_⟩)); refine hK2 _ ?_; clear hK2 K2)
      refine sxf_nil (hK' _ ?_)
      refine AW.st (by simp [dNum, dRows]; rfl) ?_
      clear hK' K'
      refine AW_for (S := Nat × List Int × Bool) (fun s => s.1 ≤ cs.length ∧ GoodT V s.2.1 ∧ passF (cs.drop s.1) s.2.1 s.2.2 = passF cs cur false) (fun s => ⟨lst [(0, .ref 22 0 0), (3, .d (.v (.bool s.2.2))), (16, .d (dRows cs)), (17, int cs.length), (18, int s.1)], hlst (solR V cs s.2.1 k)⟩) (fun s => cs.length - s.1) (0, cur, false) ?_ ⟨by simp, gc, by simp⟩ ?_
      · simp only [solR]
        refine Imp.to' (notIn_ok rfl) (by simp [dNum, dRows]) (by simp [dNum, dRows])
      · rintro ⟨i, c2, ag⟩ ⟨hi, g2, hps⟩
        dsimp only at hi g2 hps ⊢
        simp only [solR]
        refine AW_rg (tyOf_good _) [0, 3, 16, 17, 18, 19] [22, 20, 502] (notIn_ok rfl) fun K' hK' => ?_
        repeat (refine sxf_next fun K2 hK2 => ?_; simp [dNum]; (repeat (refine ⟨by omega, ?_⟩)); refine hK2 _ ?_; clear hK2 K2)
        refine sxf_nil (hK' _ ?_)
        refine AW.st (by simp [dNum]; rfl) ?_
        clear hK' K'
        refine AW_then fun K3 hK3 => ?_
        refine AW_cond' (b := i < cs.length) (by simp [D.le, D.le.go, takeMap, dNum]) (fun hc => ?_) (fun hc => ?_)
        · have hil : i < cs.length := hc
          have hgl := good_len g2
          have hol1 := ofL_len V c2
          have hol2 : List.take (V + 1) (ofL V c2) = ofL V c2 := List.take_of_length_le (by omega)
          have htl1 : (trL c2).length = c2.length := by simp [trL]
          have htl2 : List.take c2.length (trL c2) = trL c2 := List.take_of_length_le (by omega)
          obtain ⟨c, hce⟩ : ∃ c, cs[i] = c := ⟨_, rfl⟩
          have hcm : c ∈ cs := hce ▸ List.getElem_mem hil
          have hc60 := hcl c hcm
          have okc := ok c hcm
          rw [List.drop_eq_getElem_cons hil, passF, hce] at hps
          refine AW_skip (hK3 _ ?_)
          refine AW_then fun K4 hK4 => ?_
          refine AW_block ?_
          refine AW_rg (tyOf_good _) [0, 3, 5, 16, 17, 18] [22, 20, 502] (notIn_ok rfl) fun K' hK' => ?_
          repeat (refine sxf_next fun K2 hK2 => ?_; simp [dNum, dRows, hil, hce, dRow, dInts]; (repeat (refine ⟨by omega, ?_⟩)); refine hK2 _ ?_; clear hK2 K2)
          refine sxf_nil (hK' _ ?_)
          refine AW.st (by simp [dNum, dRows, hil, hce, dRow, dInts]; rfl) ?_
          clear hK' K'
          refine AW_rg (tyOf_good _) [0, 3, 5, 6, 7, 8, 16, 17, 18] [22, 20, 502] (notIn_ok rfl) fun K' hK' => ?_
          repeat (refine sxf_next fun K2 hK2 => ?_; simp [dNum]; (repeat (refine ⟨by omega, ?_⟩)); refine hK2 _ ?_; clear hK2 K2)
          refine sxf_nil (hK' _ ?_)
          refine AW.st (by simp [dNum]; rfl) ?_
          clear hK' K'
          refine AW_then fun K5 hK5 => ?_
          refine AW_rg (tyOf_good _) [0, 3, 6, 7, 8, 16, 17, 18, 22, 23, 24] [22, 20, 502] (notIn_ok rfl) fun K' hK' => ?_
          repeat (refine sxf_next fun K2 hK2 => ?_; simp [dNum]; (repeat (refine ⟨by omega, ?_⟩)); refine hK2 _ ?_; clear hK2 K2)
          refine sxf_nil (hK' _ ?_)
          refine AW.st (by simp [dNum]; rfl) ?_
          clear hK' K'
          refine AW_for (S := Nat) (fun j => j ≤ c.length) (fun j => ⟨lst [(0, .ref 22 0 0), (3, .d (.v (.bool ag))), (6, int (scanT c2 c j).1), (7, int (scanT c2 c j).2.1), (8, .d (.v (.bool (scanT c2 c j).2.2))), (16, .d (dRows cs)), (17, int cs.length), (18, int i), (22, .d (dRow c)), (23, int c.length), (24, int j)], hlst (solR V cs c2 k)⟩) (fun j => c.length - j) 0 ?_ (by simp) ?_
          · simp only [solR]
            refine Imp.to' (notIn_ok rfl) (by simp [dNum, dRows, dRow, dInts, scanT]) (by simp [dNum, dRows, dRow, dInts, scanT])
          · intro j hj
            have hmany := scanT_many c2 c j hj
            simp only [solR]
            refine AW_rg (tyOf_good _) [0, 3, 6, 7, 8, 16, 17, 18, 22, 23, 24, 25] [22, 20, 502] (notIn_ok rfl) fun K' hK' => ?_
            repeat (refine sxf_next fun K2 hK2 => ?_; simp [dNum]; (repeat (refine ⟨by omega, ?_⟩)); refine hK2 _ ?_; clear hK2 K2)
            refine sxf_nil (hK' _ ?_)
            refine AW.st (by simp [dNum]; rfl) ?_
            clear hK' K'
            refine AW_then fun K6 hK6 => ?_
            refine AW_cond' (b := j < c.length) (by simp [D.le, D.le.go, takeMap, dNum]) (fun hc => ?_) (fun hc => ?_)
            · have hjl : j < c.length := hc
              have hss := scanT_succ c2 hjl
              obtain ⟨x, hxe⟩ : ∃ x, c[j] = x := ⟨_, rfl⟩
              rw [hxe] at hss
              obtain ⟨x0, x1, x2⟩ := okc x (hxe ▸ List.getElem_mem hjl)
              have his := is_spec G V (by omega) c2 g2 (dRows cs) (.sl none (trL c2)) (dNum k) x x0 x1 x2
              have hbd := isT_bd c2 x
              obtain ⟨s1, hs1⟩ : ∃ s1, scanT c2 c (j + 1) = s1 := ⟨_, rfl⟩
              rw [hs1] at hss
              generalize scanT c2 c j = s at hmany hss
              obtain ⟨sl, sm, sh⟩ := s
              dsimp only at hmany
              unfold stepC at hss
              refine AW_skip (hK6 _ ?_)
              refine AW_then fun K7 hK7 => ?_
              refine AW_block ?_
              refine AW_rg (tyOf_good _) [0, 3, 6, 7, 8, 10, 16, 17, 18, 22, 23, 24] [22, 20, 502] (notIn_ok rfl) fun K' hK' => ?_
              repeat (refine sxf_next fun K2 hK2 => ?_; simp [dNum, dRow, dInts, hjl, hxe]; (repeat (refine ⟨by omega, ?_⟩)); refine hK2 _ ?_; clear hK2 K2)
              refine sxf_nil (hK' _ ?_)
              refine AW.st (by simp [dNum, dRow, dInts, hjl, hxe]; rfl) ?_
              clear hK' K'
              refine AW_rg (tyOf_good _) [0, 3, 6, 7, 8, 10, 16, 17, 18, 22, 23, 24, 30] [22, 20, 502] (notIn_ok rfl) fun K' hK' => ?_
              repeat (refine sxf_next fun K2 hK2 => ?_; simp [dNum, hol1, hol2, htl1, htl2]; (repeat (refine ⟨by omega, ?_⟩)); refine hK2 _ ?_; clear hK2 K2)
              refine sxf_next fun K2 hK2 => ?_
              simp [dNum, hol1, hol2, htl1, htl2]
              refine callK.lend (his) (by simp [dNum, hol1, hol2, htl1, htl2]; rfl) (by first | exact D.leGo_refl _ | simp [takeMap, List.map_map, Function.comp_def, D.le, D.le.go, D.le_refl, D.leGo_refl, dNum, hol1, hol2, htl1, htl2]) (by simp [D.scalar, dNum, hol1, hol2, htl1, htl2]) ?_
              refine hK2 _ ?_
              clear hK2 K2
              simp only [putd, upd_lst]
              repeat (refine sxf_next fun K2 hK2 => ?_; simp [dNum, hol1, hol2, htl1, htl2]; (repeat (refine ⟨by omega, ?_⟩)); refine hK2 _ ?_; clear hK2 K2)
              refine sxf_nil (hK' _ ?_)
              refine AW.st (by simp [dNum, hol1, hol2, htl1, htl2]; rfl) ?_
              clear hK' K'
              refine AW_block ?_
              by_cases e1 : isT c2 x = 1
              · rw [if_pos e1] at hss
                refine AW_rg (tyOf_good _) [0, 3, 6, 7, 8, 10, 16, 17, 18, 22, 23, 24, 30, 31] [22, 20, 502] (notIn_ok rfl) fun K' hK' => ?_
                repeat (refine sxf_next fun K2 hK2 => ?_; simp [dNum, e1]; (repeat (refine ⟨by omega, ?_⟩)); refine hK2 _ ?_; clear hK2 K2)
                refine sxf_nil (hK' _ ?_)
                refine AW.st (by simp [dNum, e1]; rfl) ?_
                clear hK' K'
                refine AW_cond true rfl (fun _ => ?_) (fun h => by cases h)
                refine AW_re (tyOf_good _) fun K' hK' => ?_
                repeat (refine sxf_next fun K2 hK2 => ?_; simp [dNum]; (repeat (refine ⟨by omega, ?_⟩)); refine hK2 _ ?_; clear hK2 K2)
                refine sxf_nil (hK' _ ?_)
                clear hK' K'
                refine hK7 _ (AW.norm [0, 3, 6, 7, 8, 16, 17, 18, 22, 23, 24] [22, 20, 502] (notIn_ok rfl) (AW.st (by simp [dNum]; rfl) ?_))
                refine AW_re (tyOf_good _) fun K' hK' => ?_
                repeat (refine sxf_next fun K2 hK2 => ?_; simp [dNum]; (repeat (refine ⟨by omega, ?_⟩)); refine hK2 _ ?_; clear hK2 K2)
                refine sxf_nil (hK' _ ?_)
                clear hK' K'
                try simp only [thn, inb]
                refine Again.mk (j + 1) (by omega) (by omega) ?_
                try simp only [solR]
                refine Imp.to' (notIn_ok rfl) (by simp [dNum, dRows, dRow, dInts, hs1, hss]) (by simp [dNum, dRows, dRow, dInts, hs1, hss])
              · rw [if_neg e1] at hss
                refine AW_rg (tyOf_good _) [0, 3, 6, 7, 8, 10, 16, 17, 18, 22, 23, 24, 30, 31] [22, 20, 502] (notIn_ok rfl) fun K' hK' => ?_
                repeat (refine sxf_next fun K2 hK2 => ?_; simp [dNum, e1]; (repeat (refine ⟨by omega, ?_⟩)); refine hK2 _ ?_; clear hK2 K2)
                refine sxf_nil (hK' _ ?_)
                refine AW.st (by simp [dNum, e1]; rfl) ?_
                clear hK' K'
                refine AW_cond false rfl (fun h => by cases h) (fun _ => ?_)
                by_cases e0 : isT c2 x = 0
                · rw [if_pos e0] at hss
                  refine AW_rg (tyOf_good _) [0, 3, 6, 7, 8, 10, 16, 17, 18, 22, 23, 24, 33] [22, 20, 502] (notIn_ok rfl) fun K' hK' => ?_
                  repeat (refine sxf_next fun K2 hK2 => ?_; simp [dNum, e0]; (repeat (refine ⟨by omega, ?_⟩)); refine hK2 _ ?_; clear hK2 K2)
                  refine sxf_nil (hK' _ ?_)
                  refine AW.st (by simp [dNum, e0]; rfl) ?_
                  clear hK' K'
                  refine AW_cond true rfl (fun _ => ?_) (fun h => by cases h)
                  refine AW_then fun K8 hK8 => ?_
                  by_cases el : x = sl
                  · have hss : s1 = (x, sm, sh) := by rw [hss]; simp [el]
                    refine AW_rg (tyOf_good _) [0, 3, 7, 8, 10, 16, 17, 18, 22, 23, 24, 37] [22, 20, 502] (notIn_ok rfl) fun K' hK' => ?_
                    repeat (refine sxf_next fun K2 hK2 => ?_; simp [dNum, eq_true el]; (repeat (refine ⟨by omega, ?_⟩)); refine hK2 _ ?_; clear hK2 K2)
                    refine sxf_nil (hK' _ ?_)
                    refine AW.st (by simp [dNum, eq_true el]; rfl) ?_
                    clear hK' K'
                    refine AW_cond false rfl (fun h => by cases h) (fun _ => ?_)
                    refine AW_skip (hK8 _ ?_)
                    refine AW_re (tyOf_good _) fun K' hK' => ?_
                    repeat (refine sxf_next fun K2 hK2 => ?_; simp [dNum]; (repeat (refine ⟨by omega, ?_⟩)); refine hK2 _ ?_; clear hK2 K2)
                    refine sxf_nil (hK' _ ?_)
                    clear hK' K'
                    refine hK7 _ (AW.norm [0, 3, 6, 7, 8, 16, 17, 18, 22, 23, 24] [22, 20, 502] (notIn_ok rfl) (AW.st (by simp [dNum]; rfl) ?_))
                    refine AW_re (tyOf_good _) fun K' hK' => ?_
                    repeat (refine sxf_next fun K2 hK2 => ?_; simp [dNum]; (repeat (refine ⟨by omega, ?_⟩)); refine hK2 _ ?_; clear hK2 K2)
                    refine sxf_nil (hK' _ ?_)
                    clear hK' K'
                    try simp only [thn, inb]
                    refine Again.mk (j + 1) (by omega) (by omega) ?_
                    try simp only [solR]
                    refine Imp.to' (notIn_ok rfl) (by simp [dNum, dRows, dRow, dInts, hs1, hss]) (by simp [dNum, dRows, dRow, dInts, hs1, hss])
                  · have hss : s1 = (x, sm + 1, sh) := by rw [hss]; simp [el]
                    refine AW_rg (tyOf_good _) [0, 3, 7, 8, 10, 16, 17, 18, 22, 23, 24, 37] [22, 20, 502] (notIn_ok rfl) fun K' hK' => ?_
                    repeat (refine sxf_next fun K2 hK2 => ?_; simp [dNum, el]; (repeat (refine ⟨by omega, ?_⟩)); refine hK2 _ ?_; clear hK2 K2)
                    refine sxf_nil (hK' _ ?_)
                    refine AW.st (by simp [dNum, el]; rfl) ?_
                    clear hK' K'
                    refine AW_cond true rfl (fun _ => ?_) (fun h => by cases h)
                    refine AW_re (tyOf_good _) fun K' hK' => ?_
                    repeat (refine sxf_next fun K2 hK2 => ?_; simp [dNum]; (repeat (refine ⟨by omega, ?_⟩)); refine hK2 _ ?_; clear hK2 K2)
                    refine sxf_nil (hK' _ ?_)
                    clear hK' K'
                    refine hK8 _ (AW.norm [0, 3, 7, 8, 10, 16, 17, 18, 22, 23, 24] [22, 20, 502] (notIn_ok rfl) (AW.st (by simp [dNum]; rfl) ?_))
                    refine AW_re (tyOf_good _) fun K' hK' => ?_
                    repeat (refine sxf_next fun K2 hK2 => ?_; simp [dNum]; (repeat (refine ⟨by omega, ?_⟩)); refine hK2 _ ?_; clear hK2 K2)
                    refine sxf_nil (hK' _ ?_)
                    clear hK' K'
                    refine hK7 _ (AW.norm [0, 3, 6, 7, 8, 16, 17, 18, 22, 23, 24] [22, 20, 502] (notIn_ok rfl) (AW.st (by simp [dNum]; rfl) ?_))
                    refine AW_re (tyOf_good _) fun K' hK' => ?_
                    repeat (refine sxf_next fun K2 hK2 => ?_; simp [dNum]; (repeat (refine ⟨by omega, ?_⟩)); refine hK2 _ ?_; clear hK2 K2)
                    refine sxf_nil (hK' _ ?_)
                    clear hK' K'
                    try simp only [thn, inb]
                    refine Again.mk (j + 1) (by omega) (by omega) ?_
                    try simp only [solR]
                    refine Imp.to' (notIn_ok rfl) (by simp [dNum, dRows, dRow, dInts, hs1, hss]) (by simp [dNum, dRows, dRow, dInts, hs1, hss])
                · rw [if_neg e0] at hss
                  refine AW_rg (tyOf_good _) [0, 3, 6, 7, 8, 10, 16, 17, 18, 22, 23, 24, 33] [22, 20, 502] (notIn_ok rfl) fun K' hK' => ?_
                  repeat (refine sxf_next fun K2 hK2 => ?_; simp [dNum, e0]; (repeat (refine ⟨by omega, ?_⟩)); refine hK2 _ ?_; clear hK2 K2)
                  refine sxf_nil (hK' _ ?_)
                  refine AW.st (by simp [dNum, e0]; rfl) ?_
                  clear hK' K'
                  refine AW_cond false rfl (fun h => by cases h) (fun _ => ?_)
                  refine AW_skip (hK7 _ ?_)
                  refine AW_re (tyOf_good _) fun K' hK' => ?_
                  repeat (refine sxf_next fun K2 hK2 => ?_; simp [dNum]; (repeat (refine ⟨by omega, ?_⟩)); refine hK2 _ ?_; clear hK2 K2)
                  refine sxf_nil (hK' _ ?_)
                  clear hK' K'
                  try simp only [thn, inb]
                  refine Again.mk (j + 1) (by omega) (by omega) ?_
                  try simp only [solR]
                  refine Imp.to' (notIn_ok rfl) (by simp [dNum, dRows, dRow, dInts, hs1, hss]) (by simp [dNum, dRows, dRow, dInts, hs1, hss])
            · obtain rfl : j = c.length := by omega
              refine AW_exit (hK5 _ ?_)
              rw [scanT_all] at hmany ⊢
              obtain ⟨f1, _, f3, _⟩ := scan_facts c2 (c := c) fun x hx => (okc x hx).1
              generalize scanC c2 c = s at hmany hps f3
              obtain ⟨sl, sm, sh⟩ := s
              dsimp only at hmany hps f3 ⊢
              refine AW_block ?_
              by_cases hh : sh = true ∨ 1 < sm
              · rw [if_pos hh] at hps
                refine (fun hcont => ?_) (fun (σ : St) himp => hK4 σ (AW.imp (τ := ⟨lst [(0, .ref 22 0 0), (3, .d (.v (.bool ag))), (16, .d (dRows cs)), (17, int cs.length), (18, int i)], hlst (solR V cs c2 k)⟩) himp ?_))
                · cases sh with
                  | true =>
                    refine AW_rg (tyOf_good _) [0, 3, 6, 7, 16, 17, 18, 45] [22, 20, 502] (notIn_ok rfl) fun K' hK' => ?_
                    repeat (refine sxf_next fun K2 hK2 => ?_; simp [dNum]; (repeat (refine ⟨by omega, ?_⟩)); refine hK2 _ ?_; clear hK2 K2)
                    refine sxf_nil (hK' _ ?_)
                    refine AW.st (by simp [dNum]; rfl) ?_
                    clear hK' K'
                    refine AW_cond true rfl (fun _ => ?_) (fun h => by cases h)
                    refine AW_skip (hcont _ ?_)
                    simp only [solR]
                    refine Imp.to' (notIn_ok rfl) (by simp [dNum, dRows, dRow, dInts]) (by simp [dNum, dRows, dRow, dInts])
                  | false =>
                    have h1 : (1 : Int) < sm := by have : 1 < sm := by simpa using hh
                                                   omega
                    refine AW_rg (tyOf_good _) [0, 3, 6, 7, 16, 17, 18, 45] [22, 20, 502] (notIn_ok rfl) fun K' hK' => ?_
                    repeat (refine sxf_next fun K2 hK2 => ?_; simp [dNum, h1]; (repeat (refine ⟨by omega, ?_⟩)); refine hK2 _ ?_; clear hK2 K2)
                    refine sxf_nil (hK' _ ?_)
                    refine AW.st (by simp [dNum, h1]; rfl) ?_
                    clear hK' K'
                    refine AW_cond true rfl (fun _ => ?_) (fun h => by cases h)
                    refine AW_skip (hcont _ ?_)
                    simp only [solR]
                    refine Imp.to' (notIn_ok rfl) (by simp [dNum, dRows, dRow, dInts]) (by simp [dNum, dRows, dRow, dInts])
                · simp only [solR]
                  refine AW_re (tyOf_good _) fun K' hK' => ?_
                  repeat (refine sxf_next fun K2 hK2 => ?_; simp [dNum]; (repeat (refine ⟨by omega, ?_⟩)); refine hK2 _ ?_; clear hK2 K2)
                  refine sxf_nil (hK' _ ?_)
                  clear hK' K'
                  try simp only [thn, inb]
                  refine Again.mk (i + 1, c2, ag) ⟨by dsimp only; omega, g2, hps⟩ (by dsimp only; omega) ?_
                  try simp only [solR]
                  refine Imp.to' (notIn_ok rfl) (by simp [dNum, dRows, dRow, dInts]) (by simp [dNum, dRows, dRow, dInts])
              · rw [if_neg hh] at hps
                obtain ⟨rfl, h1⟩ : sh = false ∧ ¬ 1 < sm := ⟨by cases sh with | false => rfl | true => exact absurd (.inl rfl) hh, fun h => hh (.inr h)⟩
                have h1' : ¬ (1 : Int) < sm := by omega
                refine AW_rg (tyOf_good _) [0, 3, 6, 7, 16, 17, 18, 45] [22, 20, 502] (notIn_ok rfl) fun K' hK' => ?_
                repeat (refine sxf_next fun K2 hK2 => ?_; simp [dNum, h1']; (repeat (refine ⟨by omega, ?_⟩)); refine hK2 _ ?_; clear hK2 K2)
                refine sxf_nil (hK' _ ?_)
                refine AW.st (by simp [dNum, h1']; rfl) ?_
                clear hK' K'
                refine AW_cond false rfl (fun h => by cases h) (fun _ => ?_)
                by_cases h0 : sm = 0
                · rw [if_pos h0] at hps
                  rw [← hps, if_pos rfl] at hsp
                  refine AW_rg (tyOf_good _) [0, 6, 16, 17, 18, 51] [22, 20, 502] (notIn_ok rfl) fun K' hK' => ?_
                  repeat (refine sxf_next fun K2 hK2 => ?_; simp [dNum, h0]; (repeat (refine ⟨by omega, ?_⟩)); refine hK2 _ ?_; clear hK2 K2)
                  refine sxf_nil (hK' _ ?_)
                  refine AW.st (by simp [dNum, h0]; rfl) ?_
                  clear hK' K'
                  refine AW_cond true rfl (fun _ => ?_) (fun h => by cases h)
                  refine AW_rg (tyOf_good _) [2] [22, 20, 502] (notIn_ok rfl) fun K' hK' => ?_
                  repeat (refine sxf_next fun K2 hK2 => ?_; simp [dNum]; (repeat (refine ⟨by omega, ?_⟩)); refine hK2 _ ?_; clear hK2 K2)
                  refine sxf_nil (hK' _ ?_)
                  refine AW.st (by simp [dNum]; rfl) ?_
                  clear hK' K'
                  rw [← hsp]
                  refine AW_ret ?_
                  simp [solR, dNum, D.le]
                · rw [if_neg h0] at hps
                  obtain ⟨l1, l2, _⟩ := f3 (by omega)
                  obtain ⟨y0, y1, y2⟩ := okc _ l1
                  have hset := set_spec G V (by omega) cs c2 k (by omega) sl y0 y1 y2 l2
                  simp only [solR] at hset
                  refine AW_rg (tyOf_good _) [0, 6, 16, 17, 18, 51] [22, 20, 502] (notIn_ok rfl) fun K' hK' => ?_
                  repeat (refine sxf_next fun K2 hK2 => ?_; simp [dNum, h0]; (repeat (refine ⟨by omega, ?_⟩)); refine hK2 _ ?_; clear hK2 K2)
                  refine sxf_nil (hK' _ ?_)
                  refine AW.st (by simp [dNum, h0]; rfl) ?_
                  clear hK' K'
                  refine AW_cond false rfl (fun h => by cases h) (fun _ => ?_)
                  refine AW_rg (tyOf_good _) [0, 16, 17, 18] [22, 20, 502] (notIn_ok rfl) fun K' hK' => ?_
                  repeat (refine sxf_next fun K2 hK2 => ?_; simp [dNum]; (repeat (refine ⟨by omega, ?_⟩)); refine hK2 _ ?_; clear hK2 K2)
                  refine sxf_next fun K2 hK2 => ?_
                  simp [dNum]
                  refine callK.mc (hset) (by simp [dNum]) (by simp [dNum]) (by simp [dNum]) (by simp [dNum]) ?_
                  simp [dNum]
                  refine hK2 _ ?_
                  clear hK2 K2
                  repeat (refine sxf_next fun K2 hK2 => ?_; simp [dNum]; (repeat (refine ⟨by omega, ?_⟩)); refine hK2 _ ?_; clear hK2 K2)
                  refine sxf_nil (hK' _ ?_)
                  refine AW.st (by simp [dNum]; rfl) ?_
                  clear hK' K'
                  refine AW_re (tyOf_good _) fun K' hK' => ?_
                  repeat (refine sxf_next fun K2 hK2 => ?_; simp [dNum]; (repeat (refine ⟨by omega, ?_⟩)); refine hK2 _ ?_; clear hK2 K2)
                  refine sxf_nil (hK' _ ?_)
                  clear hK' K'
                  refine hK4 _ (AW.norm [0, 3, 16, 17, 18] [22, 20, 502] (notIn_ok rfl) (AW.st (by simp [dNum]; rfl) ?_))
                  refine AW_re (tyOf_good _) fun K' hK' => ?_
                  repeat (refine sxf_next fun K2 hK2 => ?_; simp [dNum]; (repeat (refine ⟨by omega, ?_⟩)); refine hK2 _ ?_; clear hK2 K2)
                  refine sxf_nil (hK' _ ?_)
                  clear hK' K'
                  try simp only [thn, inb]
                  refine Again.mk (i + 1, c2 ++ [sl], true) ⟨by dsimp only; omega, g2.snoc y0 y1 y2 l2, hps⟩ (by dsimp only; omega) ?_
                  try simp only [solR]
                  refine Imp.to' (notIn_ok rfl) (by simp [dNum, dRows, dRow, dInts]) (by simp [dNum, dRows, dRow, dInts])
        · obtain rfl : i = cs.length := by omega
          rw [List.drop_length, passF] at hps
          rw [← hps] at hsp
          refine AW_exit ?_
          have hless := fun h : ag = true => pass_less ok gc (by rw [← hps, h])
          refine Again.mk (m, c2, ag) ⟨g2, fun h => ⟨by have := hless h; dsimp only; omega, ?_⟩, fun h => ?_⟩ (by dsimp only; omega) ?_
          · dsimp only at h ⊢
            rw [← hsp]
            subst h
            rfl
          · dsimp only at h ⊢
            rw [← hsp]
            subst h
            rfl
          · simp only [solR]
            refine Imp.to' (notIn_ok rfl) (by simp [dNum]) (by simp [dNum])
#print axioms spread_spec
end Go.Proofs.YtoikggboakojlaaDoor

/-
  Values are tried: search, Solve.
-/
namespace Go.Proofs.YtoikggboakojlaaDoor
set_option linter.unusedSimpArgs false
set_option linter.unusedVariables false
open Go.Av

set_option maxHeartbeats 1000000 in
theorem iindex_spec (G : Glob) (l : List Int) (y : Int) (hl : l.length < 2^60) : PureC Tryd.prog G 95 [.sl none (l.map fun x => [dNum x]), dNum y] (dNum (idx (fun x => y == x) l)) := by
  refine PureC.of_body (tyOf_good _) Tryd.func95 rfl rfl (rs := [.tmp 4]) Tryd.results95 (by simp [Tryd.ntmps95]) fun X => ?_
  simp only [Tryd.ntmps95, List.map]
  refine AW_rg (tyOf_good _) [0, 1] [] (fun _ _ => trivial) fun K' hK' => ?_
  repeat (refine sxf_next fun K2 hK2 => ?_; simp [dNum]; (repeat (refine ⟨by omega, ?_⟩)); refine hK2 _ ?_; clear hK2 K2)
  refine sxf_nil (hK' _ ?_)
  refine AW.st (by simp [dNum]; rfl) ?_
  clear hK' K'
  refine AW_then fun K1 hK1 => ?_
  refine AW_rg (tyOf_good _) [0, 1, 7, 8] [] (fun _ _ => trivial) fun K' hK' => ?_
  repeat (refine sxf_next fun K2 hK2 => ?_; simp [dNum]; (repeat (refine ⟨by omega, ?_⟩)); refine hK2 _ ?_; clear hK2 K2)
  refine sxf_nil (hK' _ ?_)
  refine AW.st (by simp [dNum]; rfl) ?_
  clear hK' K'
  refine AW_for (S := Nat) (fun n => n ≤ l.length ∧ ∀ i (hi : i < l.length), i < n → (y == l[i]) = false) (fun n => ⟨lst [(0, .d (.sl none (l.map fun x => [dNum x]))), (1, .d (dNum y)), (7, int l.length), (8, int n)], hlst []⟩) (fun n => l.length - n) 0 ?_ (by simp) ?_
  · refine Imp.to' (fun _ _ => trivial) (by simp [dNum]) (by simp [dNum])
  · rintro n ⟨hn, hp⟩
    refine AW_rg (tyOf_good _) [0, 1, 7, 8, 9] [] (fun _ _ => trivial) fun K' hK' => ?_
    repeat (refine sxf_next fun K2 hK2 => ?_; simp [dNum]; (repeat (refine ⟨by omega, ?_⟩)); refine hK2 _ ?_; clear hK2 K2)
    refine sxf_nil (hK' _ ?_)
    refine AW.st (by simp [dNum]; rfl) ?_
    clear hK' K'
    refine AW_then fun K2 hK2 => ?_
    refine AW_cond' (b := n < l.length) (by simp [D.le, D.le.go, takeMap, dNum]) (fun hc => ?_) (fun hc => ?_)
    · have hnl : n < l.length := hc
      refine AW_skip (hK2 _ ?_)
      refine AW_then fun K3 hK3 => ?_
      refine AW_block ?_
      refine AW_rg (tyOf_good _) [0, 1, 5, 7, 8] [] (fun _ _ => trivial) fun K' hK' => ?_
      repeat (refine sxf_next fun K2 hK2 => ?_; simp [dNum]; (repeat (refine ⟨by omega, ?_⟩)); refine hK2 _ ?_; clear hK2 K2)
      refine sxf_nil (hK' _ ?_)
      refine AW.st (by simp [dNum]; rfl) ?_
      clear hK' K'
      by_cases he : y = l[n]
      · refine AW_rg (tyOf_good _) [0, 1, 5, 7, 8, 16] [] (fun _ _ => trivial) fun K' hK' => ?_
        repeat (refine sxf_next fun K2 hK2 => ?_; simp [dNum, hnl, eq_true he]; (repeat (refine ⟨by omega, ?_⟩)); refine hK2 _ ?_; clear hK2 K2)
        refine sxf_nil (hK' _ ?_)
        refine AW.st (by simp [dNum, hnl, eq_true he]; rfl) ?_
        clear hK' K'
        refine AW_cond true rfl (fun _ => ?_) (fun h => by cases h)
        refine AW_rg (tyOf_good _) [4] [] (fun _ _ => trivial) fun K' hK' => ?_
        repeat (refine sxf_next fun K2 hK2 => ?_; simp [dNum]; (repeat (refine ⟨by omega, ?_⟩)); refine hK2 _ ?_; clear hK2 K2)
        refine sxf_nil (hK' _ ?_)
        refine AW.st (by simp [dNum]; rfl) ?_
        clear hK' K'
        refine AW_ret ?_
        simp [D.le, D.le.go, takeMap, dNum]
        exact (idx_hit (p := fun x => y == x) hnl (by simp [he]) fun i hi => hp i (by omega) hi).symm
      · have he' : (y == l[n]) = false := by simpa using he
        refine AW_rg (tyOf_good _) [0, 1, 5, 7, 8, 16] [] (fun _ _ => trivial) fun K' hK' => ?_
        repeat (refine sxf_next fun K2 hK2 => ?_; simp [dNum, hnl, he]; (repeat (refine ⟨by omega, ?_⟩)); refine hK2 _ ?_; clear hK2 K2)
        refine sxf_nil (hK' _ ?_)
        refine AW.st (by simp [dNum, hnl, he]; rfl) ?_
        clear hK' K'
        refine AW_cond false rfl (fun h => by cases h) (fun _ => ?_)
        refine AW_skip (hK3 _ ?_)
        refine AW_re (tyOf_good _) fun K' hK' => ?_
        repeat (refine sxf_next fun K2 hK2 => ?_; simp [dNum]; (repeat (refine ⟨by omega, ?_⟩)); refine hK2 _ ?_; clear hK2 K2)
        refine sxf_nil (hK' _ ?_)
        clear hK' K'
        try simp only [thn, inb]
        refine Again.mk (n + 1) ⟨by omega, fun i hi hin => ?_⟩ (by omega) ?_
        · by_cases h : i = n
          · subst h; exact he'
          · exact hp i hi (by omega)
        refine Imp.to' (fun _ _ => trivial) (by simp [dNum]) (by simp [dNum])
    · refine AW_exit (hK1 _ ?_)
      refine AW_rg (tyOf_good _) [4] [] (fun _ _ => trivial) fun K' hK' => ?_
      repeat (refine sxf_next fun K2 hK2 => ?_; simp [dNum]; (repeat (refine ⟨by omega, ?_⟩)); refine hK2 _ ?_; clear hK2 K2)
      refine sxf_nil (hK' _ ?_)
      refine AW.st (by simp [dNum]; rfl) ?_
      clear hK' K'
      refine AW_ret ?_
      simp [D.le, D.le.go, takeMap, dNum]
      exact (idx_miss (p := fun x => y == x) fun i hi => hp i hi (by omega)).symm

theorem ofL_drop (V : Nat) (tr : List Int) : (ofL V tr).drop 1 = ((List.range' 1 V).map fun i => isT tr (i : Nat)).map fun x => [dNum x] := by
  unfold ofL
  rw [List.range_eq_range', List.range'_succ]
  simp
theorem free_idx (tr : List Int) : ∀ (n v : Nat), 0 < v → idx (fun x => (0 : Int) == x) ((List.range' v n).map fun i => isT tr (i : Nat)) = if freeF tr v n = 0 then -1 else (freeF tr v n : Int) - v
  | 0, v, _ => by simp [freeF, idx]
  | n + 1, v, h => by
    have ih := free_idx tr n (v + 1) (by omega)
    have hf := (free_facts tr n (v + 1) (by omega)).2
    rw [List.range'_succ, List.map_cons, freeF]
    by_cases h0 : isT tr v = 0
    · rw [if_pos h0, if_neg (by omega)]
      unfold idx
      rw [List.findIdx?_cons, h0]
      simp
    · rw [if_neg h0]
      have e : ((0 : Int) == isT tr (v : Nat)) = false := by simpa using Ne.symm h0
      unfold idx at ih ⊢
      rw [List.findIdx?_cons, e]
      cases hfi : List.findIdx? (fun x => (0 : Int) == x) ((List.range' (v + 1) n).map fun i => isT tr (i : Nat)) with
      | none =>
        rw [hfi] at ih
        dsimp only at ih
        by_cases hz : freeF tr (v + 1) n = 0
        · simp [hz]
        · rw [if_neg hz] at ih
          have := (hf hz).1
          omega
      | some i =>
        rw [hfi] at ih
        dsimp only at ih
        by_cases hz : freeF tr (v + 1) n = 0
        · rw [if_pos hz] at ih; omega
        · rw [if_neg hz] at ih
          simp [hz]
          omega

/-- What is shown behind its first use. -/
structure LaterS (T : Prop) : Prop where
  out : T
theorem lateS {T U : Prop} (h : LaterS T → U) (t : T) : U := h ⟨t⟩

set_option maxHeartbeats 16000000 in
theorem search_spec (G : Glob) (V : Nat) (hV : V < 2^10) (cs : Cl) (hcs : cs.length < 2^60) (hcl : ∀ c ∈ cs, c.length < 2^60) (ok : OkC V cs) : ∀ (n : Nat) (tr : List Int) (k : Nat), GoodT V tr → leftT V tr < n → k + 2^n ≤ 20001 →
    MC Tryd.prog G [22, 20] 69 [.ref 22 0 0] (hlst (solR V cs tr k)) (.d (.tup [.v (.bool (searchF cs V n tr k).1), .v .nilIface])) (hlst (solR V cs (searchF cs V n tr k).2.1 (searchF cs V n tr k).2.2)) := by
  intro n
  induction n with
  | zero => intro tr k _ h; omega
  | succ n ih =>
    intro tr k g hlt hk
    have hps : 2^(n + 1) = 2^n + 2^n := by rw [Nat.pow_succ]; omega
    have hp1 : 1 ≤ 2^n := Nat.one_le_two_pow
    have hspec := spread_spec G V (by omega) cs hcs hcl ok tr g (k + 1) (V + 1) (by have := leftT_le V tr; omega)
    obtain ⟨⟨ext, a1⟩, a2, _, _⟩ := spread_facts ok (V + 1) tr g (by have := leftT_le V tr; omega)
    have hgl := good_len g
    have hR : searchF cs V (n + 1) tr k = _ := rfl
    generalize hRe : searchF cs V (n + 1) tr k = R at hR ⊢
    rw [searchF] at hRe
    clear hR
    generalize spreadF cs (V + 1) tr = sp at hspec a1 a2 hRe
    obtain ⟨okb, tr1⟩ := sp
    dsimp only at hspec a1 a2 hRe
    have hgl1 := good_len a2
    have hbk := back_spec G V (by omega) cs tr1 a2 (k + 1) (by omega) tr.length (by rw [a1]; simp)
    have htk : tr1.take tr.length = tr := by rw [a1]; simp
    rw [htk] at hbk
    have hk1 : ¬ (20000 : Int) < (k : Int) + 1 := by omega
    simp only [solR] at hspec hbk
    refine MC.of_body (tyOf_good _) Tryd.func69 rfl rfl (rs := [.tmp 2, .tmp 3]) Tryd.results69 (by simp [Tryd.ntmps69]) rfl fun X => ?_
    simp only [Tryd.ntmps69]
    simp only [solR]
    refine AW_rg (tyOf_good _) [0] [22, 20, 502] (notIn_ok rfl) fun K' hK' => ?_
    repeat (refine sxf_next fun K2 hK2 => ?_; simp [dNum]; (repeat (refine ⟨by omega, ?_⟩)); refine hK2 _ ?_; clear hK2 K2)
    refine sxf_nil (hK' _ ?_)
    refine AW.st (by simp [dNum]; rfl) ?_
    clear hK' K'
    refine AW_then fun K1 hK1 => ?_
    refine AW_rg (tyOf_good _) [0] [22, 20, 502] (notIn_ok rfl) fun K' hK' => ?_
    repeat (refine sxf_next fun K2 hK2 => ?_; simp [dNum]; (repeat (refine ⟨by omega, ?_⟩)); refine hK2 _ ?_; clear hK2 K2)
    refine sxf_nil (hK' _ ?_)
    refine AW.st (by simp [dNum]; rfl) ?_
    clear hK' K'
    refine AW_rg (tyOf_good _) [0, 22] [22, 20, 502] (notIn_ok rfl) fun K' hK' => ?_
    repeat (refine sxf_next fun K2 hK2 => ?_; simp [dNum, hk1]; (repeat (refine ⟨by omega, ?_⟩)); refine hK2 _ ?_; clear hK2 K2)
    refine sxf_nil (hK' _ ?_)
    refine AW.st (by simp [dNum, hk1]; rfl) ?_
    clear hK' K'
    refine AW_cond false rfl (fun h => by cases h) (fun _ => ?_)
    refine AW_skip (hK1 _ ?_)
    refine AW_rg (tyOf_good _) [0, 4] [22, 20, 502] (notIn_ok rfl) fun K' hK' => ?_
    repeat (refine sxf_next fun K2 hK2 => ?_; simp [dNum]; (repeat (refine ⟨by omega, ?_⟩)); refine hK2 _ ?_; clear hK2 K2)
    refine sxf_nil (hK' _ ?_)
    refine AW.st (by simp [dNum]; rfl) ?_
    clear hK' K'
    refine AW_then fun K2 hK2 => ?_
    cases okb with
    | false =>
      rw [if_pos rfl] at hRe
      refine AW_rg (tyOf_good _) [0, 4, 31] [22, 20, 502] (notIn_ok rfl) fun K' hK' => ?_
      repeat (refine sxf_next fun K2 hK2 => ?_; simp [dNum]; (repeat (refine ⟨by omega, ?_⟩)); refine hK2 _ ?_; clear hK2 K2)
      refine sxf_next fun K2 hK2 => ?_
      simp [dNum]
      refine callK.mc (hspec) (by simp [dNum]) (by simp [dNum]) (by simp [dNum]) (by simp [dNum]) ?_
      simp [dNum]
      refine hK2 _ ?_
      clear hK2 K2
      repeat (refine sxf_next fun K2 hK2 => ?_; simp [dNum]; (repeat (refine ⟨by omega, ?_⟩)); refine hK2 _ ?_; clear hK2 K2)
      refine sxf_nil (hK' _ ?_)
      refine AW.st (by simp [dNum]; rfl) ?_
      clear hK' K'
      refine AW_cond true rfl (fun _ => ?_) (fun h => by cases h)
      refine AW_rg (tyOf_good _) [] [22, 20, 502] (notIn_ok rfl) fun K' hK' => ?_
      repeat (refine sxf_next fun K2 hK2 => ?_; simp [dNum]; (repeat (refine ⟨by omega, ?_⟩)); refine hK2 _ ?_; clear hK2 K2)
      refine sxf_next fun K2 hK2 => ?_
      simp [dNum]
      refine callK.mc (hbk) (by simp [dNum]) (by simp [dNum]) (by simp [dNum]) (by simp [dNum]) ?_
      simp [dNum]
      refine hK2 _ ?_
      clear hK2 K2
      repeat (refine sxf_next fun K2 hK2 => ?_; simp [dNum]; (repeat (refine ⟨by omega, ?_⟩)); refine hK2 _ ?_; clear hK2 K2)
      refine sxf_nil (hK' _ ?_)
      refine AW.st (by simp [dNum]; rfl) ?_
      clear hK' K'
      refine AW_rg (tyOf_good _) [2, 3] [22, 20, 502] (notIn_ok rfl) fun K' hK' => ?_
      repeat (refine sxf_next fun K2 hK2 => ?_; simp [dNum]; (repeat (refine ⟨by omega, ?_⟩)); refine hK2 _ ?_; clear hK2 K2)
      refine sxf_nil (hK' _ ?_)
      refine AW.st (by simp [dNum]; rfl) ?_
      clear hK' K'
      refine AW_ret ?_
      simp [solR, ← hRe, dNum, D.le, D.le.go]
    | true =>
      rw [if_neg (by decide)] at hRe
      refine AW_rg (tyOf_good _) [0, 4, 31] [22, 20, 502] (notIn_ok rfl) fun K' hK' => ?_
      repeat (refine sxf_next fun K2 hK2 => ?_; simp [dNum]; (repeat (refine ⟨by omega, ?_⟩)); refine hK2 _ ?_; clear hK2 K2)
      refine sxf_next fun K2 hK2 => ?_
      simp [dNum]
      refine callK.mc (hspec) (by simp [dNum]) (by simp [dNum]) (by simp [dNum]) (by simp [dNum]) ?_
      simp [dNum]
      refine hK2 _ ?_
      clear hK2 K2
      repeat (refine sxf_next fun K2 hK2 => ?_; simp [dNum]; (repeat (refine ⟨by omega, ?_⟩)); refine hK2 _ ?_; clear hK2 K2)
      refine sxf_nil (hK' _ ?_)
      refine AW.st (by simp [dNum]; rfl) ?_
      clear hK' K'
      refine AW_cond false rfl (fun h => by cases h) (fun _ => ?_)
      refine AW_skip (hK2 _ ?_)
      have hfi := free_idx tr1 V 1 (by decide)
      have hix := iindex_spec G ((List.range' 1 V).map fun i => isT tr1 (i : Nat)) 0 (by simp; omega)
      rw [hfi, ← ofL_drop] at hix
      have hdl : (List.drop 1 (ofL V tr1)).length = V := by simp [ofL_len]
      have htd : List.take V (List.drop 1 (ofL V tr1)) = List.drop 1 (ofL V tr1) := List.take_of_length_le (by omega)
      obtain ⟨c1, c2⟩ := free_facts tr1 V 1 (by decide)
      generalize freeF tr1 1 V = v at c1 c2 hRe hix
      have hlen := ofL_len V tr1
      refine' lateS (fun hrest => ?_) ?_
      rotate_left
      · by_cases hV0 : V = 0
        · have hv0 : v = 0 := by
            apply Classical.byContradiction
            intro hv
            have := c2 hv
            omega
          rw [if_pos hv0, List.eq_nil_of_length_eq_zero (hdl.trans hV0)] at hix
          refine AW_rg (tyOf_good _) [0, 4, 5] [22, 20, 502] (notIn_ok rfl) fun K' hK' => ?_
          repeat (refine sxf_next fun K2 hK2 => ?_; simp [dNum, hV0]; (repeat (refine ⟨by omega, ?_⟩)); refine hK2 _ ?_; clear hK2 K2)
          refine sxf_next fun K2 hK2 => ?_
          simp [dNum, hV0]
          refine callK.data (hix) (by simp; rfl) (by first | exact D.leGo_refl _ | simp [takeMap, List.map_map, Function.comp_def, D.le, D.le.go, D.le_refl, D.leGo_refl, dNum, hV0]) ?_
          refine hK2 _ ?_
          clear hK2 K2
          simp only [putd, upd_lst]
          repeat (refine sxf_next fun K2 hK2 => ?_; simp [dNum, hV0]; (repeat (refine ⟨by omega, ?_⟩)); refine hK2 _ ?_; clear hK2 K2)
          refine sxf_nil (hK' _ ?_)
          refine AW.st (by simp [dNum, hV0]; rfl) ?_
          clear hK' K'
          refine AW.imp (τ := ⟨lst [(0, .ref 22 0 0), (4, int tr.length), (5, int v)], hlst (solR V cs tr1 (k + 1))⟩) ?_ hrest.out
          simp only [solR]
          refine Imp.to' (notIn_ok rfl) (by simp [dNum, hV0, hv0]) (by simp [dNum, hV0, hv0])
        · have hne1 : ¬ (1 : Int) = (V : Int) + 1 := by omega
          have hle1 : 1 + V ≤ V + 1 := by omega
          generalize hO : ofL V tr1 = O at hix htd hlen
          have htt : List.take V O.tail = O.tail := by rw [← List.drop_one]; exact htd
          by_cases hv : v = 0
          · rw [if_pos hv] at hix
            refine AW_rg (tyOf_good _) [0, 4, 5] [22, 20, 502] (notIn_ok rfl) fun K' hK' => ?_
            repeat (refine sxf_next fun K2 hK2 => ?_; simp [dNum, hO, hne1, hle1, hlen, htd, htt]; (repeat (refine ⟨by omega, ?_⟩)); refine hK2 _ ?_; clear hK2 K2)
            refine sxf_next fun K2 hK2 => ?_
            simp [dNum, hO, hne1, hle1, hlen, htd, htt]
            refine callK.lend (hix) (by simp [dNum, hO, hne1, hle1, hlen, htd, htt]; rfl) (by first | exact D.leGo_refl _ | simp [takeMap, List.map_map, Function.comp_def, D.le, D.le.go, D.le_refl, D.leGo_refl, dNum, hO, hne1, hle1, hlen, htd, htt]) (by simp [D.scalar, dNum, hO, hne1, hle1, hlen, htd, htt]) ?_
            refine hK2 _ ?_
            clear hK2 K2
            simp only [putd, upd_lst]
            repeat (refine sxf_next fun K2 hK2 => ?_; simp [dNum, hO, hne1, hle1, hlen, htd, htt]; (repeat (refine ⟨by omega, ?_⟩)); refine hK2 _ ?_; clear hK2 K2)
            refine sxf_nil (hK' _ ?_)
            refine AW.st (by simp [dNum, hO, hne1, hle1, hlen, htd, htt]; rfl) ?_
            clear hK' K'
            refine AW.imp (τ := ⟨lst [(0, .ref 22 0 0), (4, int tr.length), (5, int v)], hlst (solR V cs tr1 (k + 1))⟩) ?_ hrest.out
            simp only [solR]
            refine Imp.to' (notIn_ok rfl) (by simp [dNum, hO, hv]) (by simp [dNum, hO, hv])
          · rw [if_neg hv] at hix
            have := c2 hv
            refine AW_rg (tyOf_good _) [0, 4, 5] [22, 20, 502] (notIn_ok rfl) fun K' hK' => ?_
            repeat (refine sxf_next fun K2 hK2 => ?_; simp [dNum, hO, hne1, hle1, hlen, htd, htt]; (repeat (refine ⟨by omega, ?_⟩)); refine hK2 _ ?_; clear hK2 K2)
            refine sxf_next fun K2 hK2 => ?_
            simp [dNum, hO, hne1, hle1, hlen, htd, htt]
            refine callK.lend (hix) (by simp [dNum, hO, hne1, hle1, hlen, htd, htt]; rfl) (by first | exact D.leGo_refl _ | simp [takeMap, List.map_map, Function.comp_def, D.le, D.le.go, D.le_refl, D.leGo_refl, dNum, hO, hne1, hle1, hlen, htd, htt]) (by simp [D.scalar, dNum, hO, hne1, hle1, hlen, htd, htt]) ?_
            refine hK2 _ ?_
            clear hK2 K2
            simp only [putd, upd_lst]
            repeat (refine sxf_next fun K2 hK2 => ?_; simp [dNum, hO, hne1, hle1, hlen, htd, htt]; (repeat (refine ⟨by omega, ?_⟩)); refine hK2 _ ?_; clear hK2 K2)
            refine sxf_nil (hK' _ ?_)
            refine AW.st (by simp [dNum, hO, hne1, hle1, hlen, htd, htt]; rfl) ?_
            clear hK' K'
            refine AW.imp (τ := ⟨lst [(0, .ref 22 0 0), (4, int tr.length), (5, int v)], hlst (solR V cs tr1 (k + 1))⟩) ?_ hrest.out
            simp only [solR]
            refine Imp.to' (notIn_ok rfl) (by simp [dNum, hO]) (by simp [dNum, hO])
      simp only [solR]
      refine AW_then fun K3 hK3 => ?_
      by_cases hv : v = 0
      · rw [if_pos hv] at hRe
        refine AW_rg (tyOf_good _) [0, 4, 5, 43] [22, 20, 502] (notIn_ok rfl) fun K' hK' => ?_
        repeat (refine sxf_next fun K2 hK2 => ?_; simp [dNum, hv]; (repeat (refine ⟨by omega, ?_⟩)); refine hK2 _ ?_; clear hK2 K2)
        refine sxf_nil (hK' _ ?_)
        refine AW.st (by simp [dNum, hv]; rfl) ?_
        clear hK' K'
        refine AW_cond true rfl (fun _ => ?_) (fun h => by cases h)
        refine AW_rg (tyOf_good _) [2, 3] [22, 20, 502] (notIn_ok rfl) fun K' hK' => ?_
        repeat (refine sxf_next fun K2 hK2 => ?_; simp [dNum]; (repeat (refine ⟨by omega, ?_⟩)); refine hK2 _ ?_; clear hK2 K2)
        refine sxf_nil (hK' _ ?_)
        refine AW.st (by simp [dNum]; rfl) ?_
        clear hK' K'
        refine AW_ret ?_
        simp [solR, ← hRe, dNum, D.le, D.le.go]
      rw [if_neg hv] at hRe
      try dsimp only at hRe
      obtain ⟨d1, d2, d3, _⟩ := c2 hv
      have d3' : isT tr1 (-(v : Int)) = 0 := by rw [isT_neg a2, d3]; rfl
      have g1 := a2.snoc (x := (v : Int)) (by omega) (by omega) (by omega) d3
      have g2 := a2.snoc (x := -(v : Int)) (by omega) (by omega) (by omega) d3'
      have hm1 : leftT V tr1 ≤ leftT V tr := by rw [a1]; exact leftT_mono V tr ext
      have l1 := leftT_lt (V := V) (x := (v : Int)) (by omega) (by omega) (by omega) d3 []
      have l2 := leftT_lt (V := V) (x := -(v : Int)) (by omega) (by omega) (by omega) d3' []
      have hA := ih (tr1 ++ [(v : Int)]) (k + 1) g1 (by omega) (by omega)
      obtain ⟨e1, e2, e3⟩ := search_facts ok n (tr1 ++ [(v : Int)]) (k + 1) g1 (by omega)
      generalize searchF cs V n (tr1 ++ [(v : Int)]) (k + 1) = A at hA e1 e2 e3 hRe
      obtain ⟨Ab, Atr, Ak⟩ := A
      dsimp only at hA e1 e2 e3 hRe
      have hB := ih (tr1 ++ [-(v : Int)]) Ak g2 (by omega) (by omega)
      obtain ⟨q1, q2, q3⟩ := search_facts ok n (tr1 ++ [-(v : Int)]) Ak g2 (by omega)
      generalize searchF cs V n (tr1 ++ [-(v : Int)]) Ak = B at hB q1 q2 q3 hRe
      obtain ⟨Bb, Btr, Bk⟩ := B
      dsimp only at hB q1 q2 q3 hRe
      have hs1 := set_spec G V (by omega) cs tr1 (k + 1) (by omega) (v : Int) (by omega) (by omega) (by omega) d3
      have hs2 := set_spec G V (by omega) cs tr1 Ak (by omega) (-(v : Int)) (by omega) (by omega) (by omega) d3'
      have hb1 := back_spec G V (by omega) cs (tr1 ++ [(v : Int)]) g1 Ak (by simp; omega) tr1.length (by simp)
      have hb2 := back_spec G V (by omega) cs (tr1 ++ [-(v : Int)]) g2 Bk (by simp; omega) tr1.length (by simp)
      have hb3 := back_spec G V (by omega) cs tr1 a2 Bk (by omega) tr.length (by rw [a1]; simp)
      rw [show ∀ y : Int, (tr1 ++ [y]).take tr1.length = tr1 from fun y => by simp] at hb1 hb2
      rw [htk] at hb3
      simp only [solR] at hA hB hs1 hs2 hb1 hb2 hb3
      refine AW_rg (tyOf_good _) [0, 4, 5, 43] [22, 20, 502] (notIn_ok rfl) fun K' hK' => ?_
      repeat (refine sxf_next fun K2 hK2 => ?_; simp [dNum, hv]; (repeat (refine ⟨by omega, ?_⟩)); refine hK2 _ ?_; clear hK2 K2)
      refine sxf_nil (hK' _ ?_)
      refine AW.st (by simp [dNum, hv]; rfl) ?_
      clear hK' K'
      refine AW_cond false rfl (fun h => by cases h) (fun _ => ?_)
      refine AW_skip (hK3 _ ?_)
      refine AW_then fun K4 hK4 => ?_
      refine AW_rg (tyOf_good _) [0, 4, 47, 48, 49] [22, 20, 502, 47] (notIn_ok rfl) fun K' hK' => ?_
      repeat (refine sxf_next fun K2 hK2 => ?_; simp [dNum]; (repeat (refine ⟨by omega, ?_⟩)); refine hK2 _ ?_; clear hK2 K2)
      refine sxf_nil (hK' _ ?_)
      refine AW.st (by simp [dNum]; rfl) ?_
      clear hK' K'
      refine AW.imp (Imp.freeze 47 (by decide)) ?_
      refine AW.st (by simp [dNum]; rfl) ?_
      refine AW_for (S := Nat × Nat) (fun s => (s.1 = 0 ∧ s.2 = k + 1) ∨ (s.1 = 1 ∧ Ab = false ∧ s.2 = Ak) ∨ (s.1 = 2 ∧ Ab = false ∧ Bb = false ∧ s.2 = Bk)) (fun s => ⟨lst [(0, .ref 22 0 0), (4, int tr.length), (47, .d (.sl none [[dNum v], [dNum (-(v : Int))]])), (48, int 2), (49, int s.1)], hlst (solR V cs tr1 s.2)⟩) (fun s => 3 - s.1) (0, k + 1) ?_ (.inl ⟨rfl, rfl⟩) ?_
      · simp only [solR]
        refine Imp.to' (notIn_ok rfl) (by simp [dNum]) (by simp [dNum])
      · rintro ⟨i, kk⟩ hinv
        dsimp only at hinv ⊢
        simp only [solR]
        rcases hinv with ⟨rfl, rfl⟩ | ⟨rfl, hA0, rfl⟩ | ⟨rfl, hA0, hB0, rfl⟩
        · refine AW_rg (tyOf_good _) [0, 4, 47, 48, 49, 50] [22, 20, 502] (notIn_ok rfl) fun K' hK' => ?_
          repeat (refine sxf_next fun K2 hK2 => ?_; simp [dNum]; (repeat (refine ⟨by omega, ?_⟩)); refine hK2 _ ?_; clear hK2 K2)
          refine sxf_nil (hK' _ ?_)
          refine AW.st (by simp [dNum]; rfl) ?_
          clear hK' K'
          refine AW_then fun K5 hK5 => ?_
          refine AW_cond true rfl (fun _ => ?_) (fun h => by cases h)
          refine AW_skip (hK5 _ ?_)
          refine AW_then fun K6 hK6 => ?_
          refine AW_block ?_
          refine AW_rg (tyOf_good _) [0, 4, 7, 47, 48, 49] [22, 20, 502] (notIn_ok rfl) fun K' hK' => ?_
          repeat (refine sxf_next fun K2 hK2 => ?_; simp [dNum]; (repeat (refine ⟨by omega, ?_⟩)); refine hK2 _ ?_; clear hK2 K2)
          refine sxf_nil (hK' _ ?_)
          refine AW.st (by simp [dNum]; rfl) ?_
          clear hK' K'
          refine AW_rg (tyOf_good _) [0, 4, 7, 8, 47, 48, 49] [22, 20, 502] (notIn_ok rfl) fun K' hK' => ?_
          repeat (refine sxf_next fun K2 hK2 => ?_; simp [dNum]; (repeat (refine ⟨by omega, ?_⟩)); refine hK2 _ ?_; clear hK2 K2)
          refine sxf_nil (hK' _ ?_)
          refine AW.st (by simp [dNum]; rfl) ?_
          clear hK' K'
          refine AW_rg (tyOf_good _) [0, 4, 8, 47, 48, 49] [22, 20, 502] (notIn_ok rfl) fun K' hK' => ?_
          repeat (refine sxf_next fun K2 hK2 => ?_; simp [dNum]; (repeat (refine ⟨by omega, ?_⟩)); refine hK2 _ ?_; clear hK2 K2)
          refine sxf_next fun K2 hK2 => ?_
          simp [dNum]
          refine callK.mc (hs1) (by simp [dNum]) (by simp [dNum]) (by simp [dNum]) (by simp [dNum]) ?_
          simp [dNum]
          refine hK2 _ ?_
          clear hK2 K2
          repeat (refine sxf_next fun K2 hK2 => ?_; simp [dNum]; (repeat (refine ⟨by omega, ?_⟩)); refine hK2 _ ?_; clear hK2 K2)
          refine sxf_nil (hK' _ ?_)
          refine AW.st (by simp [dNum]; rfl) ?_
          clear hK' K'
          refine AW_then fun K7 hK7 => ?_
          refine AW_rg (tyOf_good _) [0, 4, 8, 9, 10, 47, 48, 49] [22, 20, 502] (notIn_ok rfl) fun K' hK' => ?_
          repeat (refine sxf_next fun K2 hK2 => ?_; simp [dNum]; (repeat (refine ⟨by omega, ?_⟩)); refine hK2 _ ?_; clear hK2 K2)
          refine sxf_next fun K2 hK2 => ?_
          simp [dNum]
          refine callK.mc (hA) (by simp [dNum]) (by simp [dNum]) (by simp [dNum]) (by simp [dNum]) ?_
          simp [dNum]
          refine hK2 _ ?_
          clear hK2 K2
          repeat (refine sxf_next fun K2 hK2 => ?_; simp [dNum]; (repeat (refine ⟨by omega, ?_⟩)); refine hK2 _ ?_; clear hK2 K2)
          refine sxf_nil (hK' _ ?_)
          refine AW.st (by simp [dNum]; rfl) ?_
          clear hK' K'
          cases Ab with
          | true =>
            rw [if_pos rfl] at hRe
            refine AW_rg (tyOf_good _) [0, 4, 8, 9, 10, 47, 48, 49, 70] [22, 20, 502] (notIn_ok rfl) fun K' hK' => ?_
            repeat (refine sxf_next fun K2 hK2 => ?_; simp [dNum]; (repeat (refine ⟨by omega, ?_⟩)); refine hK2 _ ?_; clear hK2 K2)
            refine sxf_nil (hK' _ ?_)
            refine AW.st (by simp [dNum]; rfl) ?_
            clear hK' K'
            refine AW_cond true rfl (fun _ => ?_) (fun h => by cases h)
            refine AW_rg (tyOf_good _) [2, 3] [22, 20, 502] (notIn_ok rfl) fun K' hK' => ?_
            repeat (refine sxf_next fun K2 hK2 => ?_; simp [dNum]; (repeat (refine ⟨by omega, ?_⟩)); refine hK2 _ ?_; clear hK2 K2)
            refine sxf_nil (hK' _ ?_)
            refine AW.st (by simp [dNum]; rfl) ?_
            clear hK' K'
            refine AW_ret ?_
            simp [solR, ← hRe, dNum, D.le, D.le.go]
          | false =>
            obtain ⟨rfl, _⟩ := e3 rfl
            refine AW_rg (tyOf_good _) [0, 4, 8, 9, 10, 47, 48, 49, 70] [22, 20, 502] (notIn_ok rfl) fun K' hK' => ?_
            repeat (refine sxf_next fun K2 hK2 => ?_; simp [dNum]; (repeat (refine ⟨by omega, ?_⟩)); refine hK2 _ ?_; clear hK2 K2)
            refine sxf_nil (hK' _ ?_)
            refine AW.st (by simp [dNum]; rfl) ?_
            clear hK' K'
            refine AW_cond false rfl (fun h => by cases h) (fun _ => ?_)
            refine AW_skip (hK7 _ ?_)
            refine AW_re (tyOf_good _) fun K' hK' => ?_
            repeat (refine sxf_next fun K2 hK2 => ?_; simp [dNum]; (repeat (refine ⟨by omega, ?_⟩)); refine hK2 _ ?_; clear hK2 K2)
            refine sxf_next fun K2 hK2 => ?_
            simp [dNum]
            refine callK.mc (hb1) (by simp [dNum]) (by simp [dNum]) (by simp [dNum]) (by simp [dNum]) ?_
            simp [dNum]
            refine hK2 _ ?_
            clear hK2 K2
            repeat (refine sxf_next fun K2 hK2 => ?_; simp [dNum]; (repeat (refine ⟨by omega, ?_⟩)); refine hK2 _ ?_; clear hK2 K2)
            refine sxf_nil (hK' _ ?_)
            clear hK' K'
            refine hK6 _ (AW.norm [0, 4, 47, 48, 49] [22, 20, 502] (notIn_ok rfl) (AW.st (by simp [dNum]; rfl) ?_))
            refine AW_re (tyOf_good _) fun K' hK' => ?_
            repeat (refine sxf_next fun K2 hK2 => ?_; simp [dNum]; (repeat (refine ⟨by omega, ?_⟩)); refine hK2 _ ?_; clear hK2 K2)
            refine sxf_nil (hK' _ ?_)
            clear hK' K'
            try simp only [thn, inb]
            refine Again.mk (1, Ak) (by simp) (by dsimp only; omega) ?_
            simp only [solR]
            refine Imp.to' (notIn_ok rfl) (by simp [dNum]) (by simp [dNum])
        · subst hA0
          rw [if_neg (by decide)] at hRe
          refine AW_rg (tyOf_good _) [0, 4, 47, 48, 49, 50] [22, 20, 502] (notIn_ok rfl) fun K' hK' => ?_
          repeat (refine sxf_next fun K2 hK2 => ?_; simp [dNum]; (repeat (refine ⟨by omega, ?_⟩)); refine hK2 _ ?_; clear hK2 K2)
          refine sxf_nil (hK' _ ?_)
          refine AW.st (by simp [dNum]; rfl) ?_
          clear hK' K'
          refine AW_then fun K5 hK5 => ?_
          refine AW_cond true rfl (fun _ => ?_) (fun h => by cases h)
          refine AW_skip (hK5 _ ?_)
          refine AW_then fun K6 hK6 => ?_
          refine AW_block ?_
          refine AW_rg (tyOf_good _) [0, 4, 7, 47, 48, 49] [22, 20, 502] (notIn_ok rfl) fun K' hK' => ?_
          repeat (refine sxf_next fun K2 hK2 => ?_; simp [dNum]; (repeat (refine ⟨by omega, ?_⟩)); refine hK2 _ ?_; clear hK2 K2)
          refine sxf_nil (hK' _ ?_)
          refine AW.st (by simp [dNum]; rfl) ?_
          clear hK' K'
          refine AW_rg (tyOf_good _) [0, 4, 7, 8, 47, 48, 49] [22, 20, 502] (notIn_ok rfl) fun K' hK' => ?_
          repeat (refine sxf_next fun K2 hK2 => ?_; simp [dNum]; (repeat (refine ⟨by omega, ?_⟩)); refine hK2 _ ?_; clear hK2 K2)
          refine sxf_nil (hK' _ ?_)
          refine AW.st (by simp [dNum]; rfl) ?_
          clear hK' K'
          refine AW_rg (tyOf_good _) [0, 4, 8, 47, 48, 49] [22, 20, 502] (notIn_ok rfl) fun K' hK' => ?_
          repeat (refine sxf_next fun K2 hK2 => ?_; simp [dNum]; (repeat (refine ⟨by omega, ?_⟩)); refine hK2 _ ?_; clear hK2 K2)
          refine sxf_next fun K2 hK2 => ?_
          simp [dNum]
          refine callK.mc (hs2) (by simp [dNum]) (by simp [dNum]) (by simp [dNum]) (by simp [dNum]) ?_
          simp [dNum]
          refine hK2 _ ?_
          clear hK2 K2
          repeat (refine sxf_next fun K2 hK2 => ?_; simp [dNum]; (repeat (refine ⟨by omega, ?_⟩)); refine hK2 _ ?_; clear hK2 K2)
          refine sxf_nil (hK' _ ?_)
          refine AW.st (by simp [dNum]; rfl) ?_
          clear hK' K'
          refine AW_then fun K7 hK7 => ?_
          refine AW_rg (tyOf_good _) [0, 4, 8, 9, 10, 47, 48, 49] [22, 20, 502] (notIn_ok rfl) fun K' hK' => ?_
          repeat (refine sxf_next fun K2 hK2 => ?_; simp [dNum]; (repeat (refine ⟨by omega, ?_⟩)); refine hK2 _ ?_; clear hK2 K2)
          refine sxf_next fun K2 hK2 => ?_
          simp [dNum]
          refine callK.mc (hB) (by simp [dNum]) (by simp [dNum]) (by simp [dNum]) (by simp [dNum]) ?_
          simp [dNum]
          refine hK2 _ ?_
          clear hK2 K2
          repeat (refine sxf_next fun K2 hK2 => ?_; simp [dNum]; (repeat (refine ⟨by omega, ?_⟩)); refine hK2 _ ?_; clear hK2 K2)
          refine sxf_nil (hK' _ ?_)
          refine AW.st (by simp [dNum]; rfl) ?_
          clear hK' K'
          cases Bb with
          | true =>
            rw [if_pos rfl] at hRe
            refine AW_rg (tyOf_good _) [0, 4, 8, 9, 10, 47, 48, 49, 70] [22, 20, 502] (notIn_ok rfl) fun K' hK' => ?_
            repeat (refine sxf_next fun K2 hK2 => ?_; simp [dNum]; (repeat (refine ⟨by omega, ?_⟩)); refine hK2 _ ?_; clear hK2 K2)
            refine sxf_nil (hK' _ ?_)
            refine AW.st (by simp [dNum]; rfl) ?_
            clear hK' K'
            refine AW_cond true rfl (fun _ => ?_) (fun h => by cases h)
            refine AW_rg (tyOf_good _) [2, 3] [22, 20, 502] (notIn_ok rfl) fun K' hK' => ?_
            repeat (refine sxf_next fun K2 hK2 => ?_; simp [dNum]; (repeat (refine ⟨by omega, ?_⟩)); refine hK2 _ ?_; clear hK2 K2)
            refine sxf_nil (hK' _ ?_)
            refine AW.st (by simp [dNum]; rfl) ?_
            clear hK' K'
            refine AW_ret ?_
            simp [solR, ← hRe, dNum, D.le, D.le.go]
          | false =>
            obtain ⟨rfl, _⟩ := q3 rfl
            refine AW_rg (tyOf_good _) [0, 4, 8, 9, 10, 47, 48, 49, 70] [22, 20, 502] (notIn_ok rfl) fun K' hK' => ?_
            repeat (refine sxf_next fun K2 hK2 => ?_; simp [dNum]; (repeat (refine ⟨by omega, ?_⟩)); refine hK2 _ ?_; clear hK2 K2)
            refine sxf_nil (hK' _ ?_)
            refine AW.st (by simp [dNum]; rfl) ?_
            clear hK' K'
            refine AW_cond false rfl (fun h => by cases h) (fun _ => ?_)
            refine AW_skip (hK7 _ ?_)
            refine AW_re (tyOf_good _) fun K' hK' => ?_
            repeat (refine sxf_next fun K2 hK2 => ?_; simp [dNum]; (repeat (refine ⟨by omega, ?_⟩)); refine hK2 _ ?_; clear hK2 K2)
            refine sxf_next fun K2 hK2 => ?_
            simp [dNum]
            refine callK.mc (hb2) (by simp [dNum]) (by simp [dNum]) (by simp [dNum]) (by simp [dNum]) ?_
            simp [dNum]
            refine hK2 _ ?_
            clear hK2 K2
            repeat (refine sxf_next fun K2 hK2 => ?_; simp [dNum]; (repeat (refine ⟨by omega, ?_⟩)); refine hK2 _ ?_; clear hK2 K2)
            refine sxf_nil (hK' _ ?_)
            clear hK' K'
            refine hK6 _ (AW.norm [0, 4, 47, 48, 49] [22, 20, 502] (notIn_ok rfl) (AW.st (by simp [dNum]; rfl) ?_))
            refine AW_re (tyOf_good _) fun K' hK' => ?_
            repeat (refine sxf_next fun K2 hK2 => ?_; simp [dNum]; (repeat (refine ⟨by omega, ?_⟩)); refine hK2 _ ?_; clear hK2 K2)
            refine sxf_nil (hK' _ ?_)
            clear hK' K'
            try simp only [thn, inb]
            refine Again.mk (2, Bk) (by simp) (by dsimp only; omega) ?_
            simp only [solR]
            refine Imp.to' (notIn_ok rfl) (by simp [dNum]) (by simp [dNum])
        · subst hA0 hB0
          rw [if_neg (by decide), if_neg (by decide)] at hRe
          refine AW_rg (tyOf_good _) [0, 4, 47, 48, 49, 50] [22, 20, 502] (notIn_ok rfl) fun K' hK' => ?_
          repeat (refine sxf_next fun K2 hK2 => ?_; simp [dNum]; (repeat (refine ⟨by omega, ?_⟩)); refine hK2 _ ?_; clear hK2 K2)
          refine sxf_nil (hK' _ ?_)
          refine AW.st (by simp [dNum]; rfl) ?_
          clear hK' K'
          refine AW_then fun K5 hK5 => ?_
          refine AW_cond false rfl (fun h => by cases h) (fun _ => ?_)
          refine AW_exit (hK4 _ ?_)
          refine AW_rg (tyOf_good _) [] [22, 20, 502] (notIn_ok rfl) fun K' hK' => ?_
          repeat (refine sxf_next fun K2 hK2 => ?_; simp [dNum]; (repeat (refine ⟨by omega, ?_⟩)); refine hK2 _ ?_; clear hK2 K2)
          refine sxf_next fun K2 hK2 => ?_
          simp [dNum]
          refine callK.mc (hb3) (by simp [dNum]) (by simp [dNum]) (by simp [dNum]) (by simp [dNum]) ?_
          simp [dNum]
          refine hK2 _ ?_
          clear hK2 K2
          repeat (refine sxf_next fun K2 hK2 => ?_; simp [dNum]; (repeat (refine ⟨by omega, ?_⟩)); refine hK2 _ ?_; clear hK2 K2)
          refine sxf_nil (hK' _ ?_)
          refine AW.st (by simp [dNum]; rfl) ?_
          clear hK' K'
          refine AW_rg (tyOf_good _) [2, 3] [22, 20, 502] (notIn_ok rfl) fun K' hK' => ?_
          repeat (refine sxf_next fun K2 hK2 => ?_; simp [dNum]; (repeat (refine ⟨by omega, ?_⟩)); refine hK2 _ ?_; clear hK2 K2)
          refine sxf_nil (hK' _ ?_)
          refine AW.st (by simp [dNum]; rfl) ?_
          clear hK' K'
          refine AW_ret ?_
          simp [solR, ← hRe, dNum, D.le, D.le.go]
#print axioms search_spec
#print axioms iindex_spec
end Go.Proofs.YtoikggboakojlaaDoor

/-
  Solve, and what the document finds by trying all.
-/
namespace Go.Proofs.YtoikggboakojlaaDoor
set_option linter.unusedSimpArgs false
set_option linter.unusedVariables false
open Go.Av

/-- Values of the variables from 1 on. -/
def dVals (V : Nat) (f : Nat → Bool) : D := .sl none ((List.range V).map fun v => [.v (.bool (f (v + 1)))])

theorem Solve_bad (G : Glob) (V : Int) (cs : Cl) (hl : cs.length < 2^60) (hr : ∀ c ∈ cs, c.length < 2^60) (e : Int × Option Nat) (he : gateE V cs = some e) :
    PureC Tryd.prog G 30 [dCl V cs] (.tup [.sl (some false) [], dErr (some e)]) := by
  have hc := gcheck_spec G V cs hl hr
  rw [he] at hc
  obtain ⟨c, s⟩ := e
  cases s with
  | none =>
    refine PureC.of_body (tyOf_good _) Tryd.func30 rfl rfl (rs := [.tmp 2, .tmp 3]) Tryd.results30 (by simp [Tryd.ntmps30]) fun X => ?_
    simp only [Tryd.ntmps30, List.map]
    refine AW_rg (tyOf_good _) [1] [1] (fun _ _ => trivial) fun K' hK' => ?_
    repeat (refine sxf_next fun K2 hK2 => ?_; simp [dNum, dCl]; (repeat (refine ⟨by omega, ?_⟩)); refine hK2 _ ?_; clear hK2 K2)
    refine sxf_nil (hK' _ ?_)
    refine AW.st (by simp [dNum, dCl]; rfl) ?_
    clear hK' K'
    refine AW_then fun K1 hK1 => ?_
    refine AW_rg (tyOf_good _) [1, 4] [1] (fun _ _ => trivial) fun K' hK' => ?_
    repeat (refine sxf_next fun K2 hK2 => ?_; simp [dNum, dCl]; (repeat (refine ⟨by omega, ?_⟩)); refine hK2 _ ?_; clear hK2 K2)
    refine sxf_next fun K2 hK2 => ?_
    simp [dNum, dCl]
    refine callK.data (hc) (by simp; rfl) (by first | exact D.leGo_refl _ | simp [takeMap, List.map_map, Function.comp_def, D.le, D.le.go, D.le_refl, D.leGo_refl, dNum, dCl]) ?_
    refine hK2 _ ?_
    clear hK2 K2
    simp only [putd, upd_lst]
    repeat (refine sxf_next fun K2 hK2 => ?_; simp [dNum, dCl]; (repeat (refine ⟨by omega, ?_⟩)); refine hK2 _ ?_; clear hK2 K2)
    refine sxf_nil (hK' _ ?_)
    refine AW.st (by simp [dNum, dCl]; rfl) ?_
    clear hK' K'
    refine AW_rg (tyOf_good _) [1, 4, 14] [1] (fun _ _ => trivial) fun K' hK' => ?_
    repeat (refine sxf_next fun K2 hK2 => ?_; simp [dNum, dErr]; (repeat (refine ⟨by omega, ?_⟩)); refine hK2 _ ?_; clear hK2 K2)
    refine sxf_nil (hK' _ ?_)
    refine AW.st (by simp [dNum, dErr]; rfl) ?_
    clear hK' K'
    refine AW_cond true rfl (fun _ => ?_) (fun h => by cases h)
    refine AW_rg (tyOf_good _) [2, 3] [] (fun _ _ => trivial) fun K' hK' => ?_
    repeat (refine sxf_next fun K2 hK2 => ?_; simp [dNum]; (repeat (refine ⟨by omega, ?_⟩)); refine hK2 _ ?_; clear hK2 K2)
    refine sxf_nil (hK' _ ?_)
    refine AW.st (by simp [dNum]; rfl) ?_
    clear hK' K'
    refine AW_ret ?_
    simp [D.le, D.le.go, takeMap, dNum, dErr]
  | some s =>
    refine PureC.of_body (tyOf_good _) Tryd.func30 rfl rfl (rs := [.tmp 2, .tmp 3]) Tryd.results30 (by simp [Tryd.ntmps30]) fun X => ?_
    simp only [Tryd.ntmps30, List.map]
    refine AW_rg (tyOf_good _) [1] [1] (fun _ _ => trivial) fun K' hK' => ?_
    repeat (refine sxf_next fun K2 hK2 => ?_; simp [dNum, dCl]; (repeat (refine ⟨by omega, ?_⟩)); refine hK2 _ ?_; clear hK2 K2)
    refine sxf_nil (hK' _ ?_)
    refine AW.st (by simp [dNum, dCl]; rfl) ?_
    clear hK' K'
    refine AW_then fun K1 hK1 => ?_
    refine AW_rg (tyOf_good _) [1, 4] [1] (fun _ _ => trivial) fun K' hK' => ?_
    repeat (refine sxf_next fun K2 hK2 => ?_; simp [dNum, dCl]; (repeat (refine ⟨by omega, ?_⟩)); refine hK2 _ ?_; clear hK2 K2)
    refine sxf_next fun K2 hK2 => ?_
    simp [dNum, dCl]
    refine callK.data (hc) (by simp; rfl) (by first | exact D.leGo_refl _ | simp [takeMap, List.map_map, Function.comp_def, D.le, D.le.go, D.le_refl, D.leGo_refl, dNum, dCl]) ?_
    refine hK2 _ ?_
    clear hK2 K2
    simp only [putd, upd_lst]
    repeat (refine sxf_next fun K2 hK2 => ?_; simp [dNum, dCl]; (repeat (refine ⟨by omega, ?_⟩)); refine hK2 _ ?_; clear hK2 K2)
    refine sxf_nil (hK' _ ?_)
    refine AW.st (by simp [dNum, dCl]; rfl) ?_
    clear hK' K'
    refine AW_rg (tyOf_good _) [1, 4, 14] [1] (fun _ _ => trivial) fun K' hK' => ?_
    repeat (refine sxf_next fun K2 hK2 => ?_; simp [dNum, dErr]; (repeat (refine ⟨by omega, ?_⟩)); refine hK2 _ ?_; clear hK2 K2)
    refine sxf_nil (hK' _ ?_)
    refine AW.st (by simp [dNum, dErr]; rfl) ?_
    clear hK' K'
    refine AW_cond true rfl (fun _ => ?_) (fun h => by cases h)
    refine AW_rg (tyOf_good _) [2, 3] [] (fun _ _ => trivial) fun K' hK' => ?_
    repeat (refine sxf_next fun K2 hK2 => ?_; simp [dNum]; (repeat (refine ⟨by omega, ?_⟩)); refine hK2 _ ?_; clear hK2 K2)
    refine sxf_nil (hK' _ ?_)
    refine AW.st (by simp [dNum]; rfl) ?_
    clear hK' K'
    refine AW_ret ?_
    simp [D.le, D.le.go, takeMap, dNum, dErr]

theorem ofL_nil (V : Nat) : ofL V [] = List.replicate (V + 1) [dNum 0] := by
  apply List.ext_getElem
  · simp [ofL]
  · intro i h1 h2
    simp [ofL, isT]
theorem val_isT {V : Nat} {tr : List Int} (v : Nat) : (isT tr (v : Int) == 1) = valT tr v := by
  unfold valT
  by_cases h : (v : Int) ∈ tr
  · rw [isT_one.2 h]; simp [h]
  · have : isT tr (v : Int) ≠ 1 := fun e => h (isT_one.1 e)
    simp [h, this]

set_option maxHeartbeats 8000000 in
theorem Solve_good (G : Glob) (V : Nat) (hV : V ≤ 8) (cs : Cl) (hl : cs.length < 2^60) (hr : ∀ c ∈ cs, c.length < 2^60) (ok : OkC V cs) (he : gateE V cs = none) :
    PureC Tryd.prog G 30 [dCl V cs] (if (searchF cs V (V + 1) [] 0).1 = true then .tup [dVals V (valT (searchF cs V (V + 1) [] 0).2.1), .v .nilIface] else .tup [.sl (some false) [], dErr (some (8, none))]) := by
  have hc := gcheck_spec G V cs hl hr
  rw [he] at hc
  have hpw : 2^(V + 1) ≤ 2^9 := Nat.pow_le_pow_right (by decide) (by omega)
  have hs := search_spec G V (by omega) cs hl hr ok (V + 1) [] 0 (GoodT.nil V) (by have := leftT_le V []; omega) (by omega)
  have hof := ofL_nil V
  have hV9 : (V : Int) ≤ 8 := by omega
  generalize hRe : searchF cs V (V + 1) [] 0 = R at hs ⊢
  obtain ⟨Rb, Rtr, Rk⟩ := R
  dsimp only at hs ⊢
  simp only [solR] at hs
  refine PureC.of_body (tyOf_good _) Tryd.func30 rfl rfl (rs := [.tmp 2, .tmp 3]) Tryd.results30 (by simp [Tryd.ntmps30]) fun X => ?_
  simp only [Tryd.ntmps30, List.map]
  refine AW_rg (tyOf_good _) [1] [1] (fun _ _ => trivial) fun K' hK' => ?_
  repeat (refine sxf_next fun K2 hK2 => ?_; simp [dNum, dCl]; (repeat (refine ⟨by omega, ?_⟩)); refine hK2 _ ?_; clear hK2 K2)
  refine sxf_nil (hK' _ ?_)
  refine AW.st (by simp [dNum, dCl]; rfl) ?_
  clear hK' K'
  refine AW_then fun K1 hK1 => ?_
  refine AW_rg (tyOf_good _) [1, 4] [1] (fun _ _ => trivial) fun K' hK' => ?_
  repeat (refine sxf_next fun K2 hK2 => ?_; simp [dNum, dCl]; (repeat (refine ⟨by omega, ?_⟩)); refine hK2 _ ?_; clear hK2 K2)
  refine sxf_next fun K2 hK2 => ?_
  simp [dNum, dCl]
  refine callK.data (hc) (by simp; rfl) (by first | exact D.leGo_refl _ | simp [takeMap, List.map_map, Function.comp_def, D.le, D.le.go, D.le_refl, D.leGo_refl, dNum, dCl]) ?_
  refine hK2 _ ?_
  clear hK2 K2
  simp only [putd, upd_lst]
  repeat (refine sxf_next fun K2 hK2 => ?_; simp [dNum, dCl]; (repeat (refine ⟨by omega, ?_⟩)); refine hK2 _ ?_; clear hK2 K2)
  refine sxf_nil (hK' _ ?_)
  refine AW.st (by simp [dNum, dCl]; rfl) ?_
  clear hK' K'
  refine AW_rg (tyOf_good _) [1, 4, 14] [1] (fun _ _ => trivial) fun K' hK' => ?_
  repeat (refine sxf_next fun K2 hK2 => ?_; simp [dNum, dErr]; (repeat (refine ⟨by omega, ?_⟩)); refine hK2 _ ?_; clear hK2 K2)
  refine sxf_nil (hK' _ ?_)
  refine AW.st (by simp [dNum, dErr]; rfl) ?_
  clear hK' K'
  refine AW_cond false rfl (fun h => by cases h) (fun _ => ?_)
  refine AW_skip (hK1 _ ?_)
  refine AW.imp (Imp.freezeB 1 trivial) ?_
  refine AW.st (by simp [dNum]; rfl) ?_
  refine AW_rl (tyOf_good _) (by kernel_rfl) ([]) ([]) ([0, 1, 2, 3, 4, 5, 6, 7]) [5] [20, 22] (fun _ _ => trivial) (by kernel_rfl) fun K' hK' => ?_
  repeat (refine sxl_nextO rfl fun K2 hK2 => ?_; simp [dNum, hV9]; (repeat (refine ⟨by omega, ?_⟩)); refine hK2 _ ?_; clear hK2 K2)
  refine sxl_nilO (hK' _ ?_)
  refine AW.st (by simp [dNum, hV9]; rfl) ?_
  clear hK' K'
  refine AW.imp (τ := ⟨lst [(5, .ref 22 0 0)], hlst (solR V cs [] 0)⟩) ((Imp.adoptCell 22 3 502 3 1 rfl rfl rfl).trans ?_) ?_
  · simp only [solR, hof]
    refine Imp.to' (fun _ _ => trivial) (by simp [dNum, trL, List.replicate_succ]) (by simp [dNum, trL, List.replicate_succ])
  simp only [solR]
  refine AW_rg (tyOf_good _) [5, 6, 7] [22, 20, 502] (fun _ _ => trivial) fun K' hK' => ?_
  repeat (refine sxf_next fun K2 hK2 => ?_; simp [dNum]; (repeat (refine ⟨by omega, ?_⟩)); refine hK2 _ ?_; clear hK2 K2)
  refine sxf_next fun K2 hK2 => ?_
  simp [dNum]
  refine callK.mc (hs) (by simp [dNum]) (by simp [dNum]) (by simp [dNum]) (by simp [dNum]) ?_
  simp [dNum]
  refine hK2 _ ?_
  clear hK2 K2
  repeat (refine sxf_next fun K2 hK2 => ?_; simp [dNum]; (repeat (refine ⟨by omega, ?_⟩)); refine hK2 _ ?_; clear hK2 K2)
  refine sxf_nil (hK' _ ?_)
  refine AW.st (by simp [dNum]; rfl) ?_
  clear hK' K'
  refine AW_then fun K2 hK2 => ?_
  refine AW_block ?_
  refine AW_rg (tyOf_good _) [5, 6, 7, 28] [22, 20, 502] (fun _ _ => trivial) fun K' hK' => ?_
  repeat (refine sxf_next fun K2 hK2 => ?_; simp [dNum]; (repeat (refine ⟨by omega, ?_⟩)); refine hK2 _ ?_; clear hK2 K2)
  refine sxf_nil (hK' _ ?_)
  refine AW.st (by simp [dNum]; rfl) ?_
  clear hK' K'
  refine AW_cond false rfl (fun h => by cases h) (fun _ => ?_)
  cases Rb with
  | false =>
    refine AW_rg (tyOf_good _) [5, 32] [22, 20, 502] (fun _ _ => trivial) fun K' hK' => ?_
    repeat (refine sxf_next fun K2 hK2 => ?_; simp [dNum]; (repeat (refine ⟨by omega, ?_⟩)); refine hK2 _ ?_; clear hK2 K2)
    refine sxf_nil (hK' _ ?_)
    refine AW.st (by simp [dNum]; rfl) ?_
    clear hK' K'
    refine AW_cond true rfl (fun _ => ?_) (fun h => by cases h)
    refine AW_rg (tyOf_good _) [2, 3] [] (fun _ _ => trivial) fun K' hK' => ?_
    repeat (refine sxf_next fun K2 hK2 => ?_; simp [dNum]; (repeat (refine ⟨by omega, ?_⟩)); refine hK2 _ ?_; clear hK2 K2)
    refine sxf_nil (hK' _ ?_)
    refine AW.st (by simp [dNum]; rfl) ?_
    clear hK' K'
    refine AW_ret ?_
    simp [D.le, D.le.go, takeMap, dNum, dErr]
  | true =>
    refine AW_rg (tyOf_good _) [5, 32] [22, 20, 502] (fun _ _ => trivial) fun K' hK' => ?_
    repeat (refine sxf_next fun K2 hK2 => ?_; simp [dNum]; (repeat (refine ⟨by omega, ?_⟩)); refine hK2 _ ?_; clear hK2 K2)
    refine sxf_nil (hK' _ ?_)
    refine AW.st (by simp [dNum]; rfl) ?_
    clear hK' K'
    refine AW_cond false rfl (fun h => by cases h) (fun _ => ?_)
    refine AW_skip (hK2 _ ?_)
    have hol := ofL_len V Rtr
    have hol2 : List.take (V + 1) (ofL V Rtr) = ofL V Rtr := List.take_of_length_le (by omega)
    have hod := ofL_drop V Rtr
    have hot : List.take V (ofL V Rtr).tail = (ofL V Rtr).tail := List.take_of_length_le (by simp [hol])
    have hoe : ∀ el ∈ ofL V Rtr, el.length = 1 := fun el hel => by
      obtain ⟨v, _, rfl⟩ := List.mem_map.1 hel
      rfl
    have htl : List.take Rtr.length (trL Rtr) = trL Rtr := List.take_of_length_le (by simp [trL])
    have htl2 : (trL Rtr).length = Rtr.length := by simp [trL]
    refine AW.imp (Imp.freeze 20 trivial) ?_
    refine AW.st (by simp [dNum, hol]; rfl) ?_
    refine AW.imp (Imp.freeze 502 trivial) ?_
    refine AW.st (by simp [dNum, htl2]; rfl) ?_
    refine AW.imp (Imp.freezeB 22 trivial) ?_
    refine AW.st (by simp [dNum]; rfl) ?_
    refine AW_rg (tyOf_good _) [5, 8] [] (fun _ _ => trivial) fun K' hK' => ?_
    repeat (refine sxf_next fun K2 hK2 => ?_; simp [dNum]; (repeat (refine ⟨by omega, ?_⟩)); refine hK2 _ ?_; clear hK2 K2)
    refine sxf_nil (hK' _ ?_)
    refine AW.st (by simp [dNum]; rfl) ?_
    clear hK' K'
    refine AW_then fun K3 hK3 => ?_
    rw [List.drop_one] at hod
    generalize ofL V Rtr = O at hol hol2 hot hoe hod
    obtain ⟨T, hT⟩ : ∃ T, O.tail = T := ⟨_, rfl⟩
    rw [hT] at hod hot
    have hTl : T.length = V := by rw [← hT]; simp [hol]
    refine AW_rg (tyOf_good _) [8, 40, 41, 42] [] (fun _ _ => trivial) fun K' hK' => ?_
    repeat (refine sxf_next fun K2 hK2 => ?_; simp [dNum, hol, hot, hT, eq_true hoe]; (repeat (refine ⟨by omega, ?_⟩)); refine hK2 _ ?_; clear hK2 K2)
    refine sxf_nil (hK' _ ?_)
    refine AW.st (by simp [dNum, hol, hot, hT, eq_true hoe]; rfl) ?_
    clear hK' K'
    refine AW_for (S := Nat) (fun i => i ≤ V) (fun i => ⟨lst [(8, .own 300 0 i), (40, .d (.sl none T)), (41, int V), (42, int i)], hlst [(300, .sl 4 1 ((List.range i).map fun v => [.v (.bool (valT Rtr (v + 1)))]))]⟩) (fun i => V - i) 0 ?_ (by omega) ?_
    · refine (Imp.adopt 8 300 4 1 rfl rfl).trans ?_
      refine Imp.to' (fun _ _ => trivial) (by simp [dNum, hTl]) (by simp [dNum, hTl])
    · intro i hi
      refine AW_rg (tyOf_good _) [8, 40, 41, 42, 43] [300] (fun _ _ => trivial) fun K' hK' => ?_
      repeat (refine sxf_next fun K2 hK2 => ?_; simp [dNum]; (repeat (refine ⟨by omega, ?_⟩)); refine hK2 _ ?_; clear hK2 K2)
      refine sxf_nil (hK' _ ?_)
      refine AW.st (by simp [dNum]; rfl) ?_
      clear hK' K'
      refine AW_then fun K4 hK4 => ?_
      refine AW_cond' (b := i < V) (by simp [D.le, D.le.go, takeMap, dNum]) (fun hc => ?_) (fun hc => ?_)
      · have hiV : i < V := hc
        have hiT : i < T.length := by omega
        have hTi : T[i] = [dNum (isT Rtr ((i + 1 : Nat) : Int))] := by
          have h' : T[i]? = some [dNum (isT Rtr ((i + 1 : Nat) : Int))] := by
            rw [hod]
            simp [hiV, Nat.add_comm]
          rw [List.getElem?_eq_getElem hiT] at h'
          exact Option.some.inj h'
        have hvi := val_isT (V := V) (tr := Rtr) (i + 1)
        generalize isT Rtr ((i + 1 : Nat) : Int) = s at hTi hvi
        have hrs : ∀ g : Nat → List D, (List.range (i + 1)).map g = (List.range i).map g ++ [g i] := fun g => by rw [List.range_succ, List.map_append]; rfl
        have htr : ∀ g : Nat → List D, List.take i ((List.range i).map g) = (List.range i).map g := fun g => List.take_of_length_le (by simp)
        refine AW_skip (hK4 _ ?_)
        refine AW_then fun K5 hK5 => ?_
        refine AW_block ?_
        refine AW_rg (tyOf_good _) [8, 10, 40, 41, 42] [300] (fun _ _ => trivial) fun K' hK' => ?_
        repeat (refine sxf_next fun K2 hK2 => ?_; simp [dNum, hiT, hiV, hTi, hTl]; (repeat (refine ⟨by omega, ?_⟩)); refine hK2 _ ?_; clear hK2 K2)
        refine sxf_nil (hK' _ ?_)
        refine AW.st (by simp [dNum, hiT, hiV, hTi, hTl]; rfl) ?_
        clear hK' K'
        refine AW_re (tyOf_good _) fun K' hK' => ?_
        repeat (refine sxf_next fun K2 hK2 => ?_; simp [dNum]; (repeat (refine ⟨by omega, ?_⟩)); refine hK2 _ ?_; clear hK2 K2)
        refine sxf_nil (hK' _ ?_)
        clear hK' K'
        refine hK5 _ (AW.norm [8, 40, 41, 42] [300] (fun _ _ => trivial) (AW.st (by simp [dNum]; rfl) ?_))
        refine AW_re (tyOf_good _) fun K' hK' => ?_
        repeat (refine sxf_next fun K2 hK2 => ?_; simp [dNum]; (repeat (refine ⟨by omega, ?_⟩)); refine hK2 _ ?_; clear hK2 K2)
        refine sxf_nil (hK' _ ?_)
        clear hK' K'
        try simp only [thn, inb]
        refine Again.mk (i + 1) (by omega) (by omega) ?_
        refine Imp.to' (fun _ _ => trivial) (by simp [dNum, hrs, htr, ← hvi]) (by simp [dNum, hrs, htr, ← hvi])
      · obtain rfl : i = V := by omega
        refine AW_exit (hK3 _ ?_)
        refine AW.imp (Imp.freeze 300 trivial) ?_
        refine AW.st (by simp [dNum]; rfl) ?_
        refine AW_rg (tyOf_good _) [2, 3] [] (fun _ _ => trivial) fun K' hK' => ?_
        repeat (refine sxf_next fun K2 hK2 => ?_; simp [dNum]; (repeat (refine ⟨by omega, ?_⟩)); refine hK2 _ ?_; clear hK2 K2)
        refine sxf_nil (hK' _ ?_)
        refine AW.st (by simp [dNum]; rfl) ?_
        clear hK' K'
        refine AW_ret ?_
        simp [D.le, D.le.go, takeMap, dNum, dVals]
#print axioms Solve_good
#print axioms Solve_bad
end Go.Proofs.YtoikggboakojlaaDoor

/-
  Clauses, the document's side: which may be; the first values, by trying all.
-/
namespace Go.Proofs.YtoikggboakojlaaDoor
set_option linter.unusedSimpArgs false
set_option linter.unusedVariables false
open Go.Av

set_option maxHeartbeats 4000000 in
theorem rgcheck_spec (G : Glob) (hF : HasFine G) (V : Int) (cs : Cl) (hl : cs.length < 2^60) (hr : ∀ c ∈ cs, c.length < 2^60) : PureC Tryd.prog G 29 [dCl V cs] (dFault (gateE V cs)) := by
  by_cases h1 : V < 0 ∨ 1000 < V
  · rw [show gateE V cs = some (4, none) by unfold gateE; rw [if_pos (by omega)]]
    refine PureC.of_body (tyOf_good _) Tryd.func29 rfl rfl (rs := [.cell 2 29]) Tryd.results29 (by simp [Tryd.ntmps29]) fun X => ?_
    simp only [Tryd.ntmps29, List.map]
    refine AW_rg (tyOf_good _) [1, 2] [1, 2] (fun _ _ => trivial) fun K' hK' => ?_
    repeat (refine sxf_next fun K2 hK2 => ?_; simp [dNum, dCl]; (repeat (refine ⟨by omega, ?_⟩)); refine hK2 _ ?_; clear hK2 K2)
    refine sxf_nil (hK' _ ?_)
    refine AW.st (by simp [dNum, dCl]; rfl) ?_
    clear hK' K'
    refine AW_then fun K1 hK1 => ?_
    refine AW_rg (tyOf_good _) [1, 2, 16] [1, 2] (fun _ _ => trivial) fun K' hK' => ?_
    repeat (refine sxf_next fun K2 hK2 => ?_; simp [dNum]; (repeat (refine ⟨by omega, ?_⟩)); refine hK2 _ ?_; clear hK2 K2)
    refine sxf_next fun K2 hK2 => ?_
    simp [dNum]
    refine callK.data (within_no G V 0 1000 h1) (by simp; rfl) (by first | exact D.leGo_refl _ | simp [takeMap, List.map_map, Function.comp_def, D.le, D.le.go, D.le_refl, D.leGo_refl, dNum]) ?_
    refine hK2 _ ?_
    clear hK2 K2
    simp only [putd, upd_lst]
    repeat (refine sxf_next fun K2 hK2 => ?_; simp [dNum]; (repeat (refine ⟨by omega, ?_⟩)); refine hK2 _ ?_; clear hK2 K2)
    refine sxf_nil (hK' _ ?_)
    refine AW.st (by simp [dNum]; rfl) ?_
    clear hK' K'
    refine AW_cond true rfl (fun _ => ?_) (fun h => by cases h)
    refine AW_rg (tyOf_good _) [2] [2] (fun _ _ => trivial) fun K' hK' => ?_
    repeat (refine sxf_next fun K2 hK2 => ?_; simp [dNum]; (repeat (refine ⟨by omega, ?_⟩)); refine hK2 _ ?_; clear hK2 K2)
    refine sxf_next fun K2 hK2 => ?_
    simp [dNum]
    refine callK.data (bare0_spec G 4) (by simp; rfl) (by first | exact D.leGo_refl _ | simp [takeMap, List.map_map, Function.comp_def, D.le, D.le.go, D.le_refl, D.leGo_refl, dNum]) ?_
    refine hK2 _ ?_
    clear hK2 K2
    simp only [putd, upd_lst]
    repeat (refine sxf_next fun K2 hK2 => ?_; simp [dNum]; (repeat (refine ⟨by omega, ?_⟩)); refine hK2 _ ?_; clear hK2 K2)
    refine sxf_nil (hK' _ ?_)
    refine AW.st (by simp [dNum]; rfl) ?_
    clear hK' K'
    refine AW_ret ?_
    simp [D.le, D.le.go, takeMap, dNum]
    simp [dFault, codeF, placeF, dNum, D.le, D.le.go]
  have hwy := within_yes G V 0 1000 (by omega) (by omega)
  by_cases h3 : (3000 : Int) < cs.length
  · rw [show gateE V cs = some (4, none) by unfold gateE; rw [if_pos (by omega)]]
    refine PureC.of_body (tyOf_good _) Tryd.func29 rfl rfl (rs := [.cell 2 29]) Tryd.results29 (by simp [Tryd.ntmps29]) fun X => ?_
    simp only [Tryd.ntmps29, List.map]
    refine AW_rg (tyOf_good _) [1, 2] [1, 2] (fun _ _ => trivial) fun K' hK' => ?_
    repeat (refine sxf_next fun K2 hK2 => ?_; simp [dNum, dCl]; (repeat (refine ⟨by omega, ?_⟩)); refine hK2 _ ?_; clear hK2 K2)
    refine sxf_nil (hK' _ ?_)
    refine AW.st (by simp [dNum, dCl]; rfl) ?_
    clear hK' K'
    refine AW_then fun K1 hK1 => ?_
    refine AW_rg (tyOf_good _) [1, 2, 16] [1, 2] (fun _ _ => trivial) fun K' hK' => ?_
    repeat (refine sxf_next fun K2 hK2 => ?_; simp [dNum, dRows, h3]; (repeat (refine ⟨by omega, ?_⟩)); refine hK2 _ ?_; clear hK2 K2)
    refine sxf_next fun K2 hK2 => ?_
    simp [dNum, dRows, h3]
    refine callK.data (hwy) (by simp; rfl) (by first | exact D.leGo_refl _ | simp [takeMap, List.map_map, Function.comp_def, D.le, D.le.go, D.le_refl, D.leGo_refl, dNum, dRows, h3]) ?_
    refine hK2 _ ?_
    clear hK2 K2
    simp only [putd, upd_lst]
    repeat (refine sxf_next fun K2 hK2 => ?_; simp [dNum, dRows, h3]; (repeat (refine ⟨by omega, ?_⟩)); refine hK2 _ ?_; clear hK2 K2)
    refine sxf_nil (hK' _ ?_)
    refine AW.st (by simp [dNum, dRows, h3]; rfl) ?_
    clear hK' K'
    refine AW_cond true rfl (fun _ => ?_) (fun h => by cases h)
    refine AW_rg (tyOf_good _) [2] [2] (fun _ _ => trivial) fun K' hK' => ?_
    repeat (refine sxf_next fun K2 hK2 => ?_; simp [dNum]; (repeat (refine ⟨by omega, ?_⟩)); refine hK2 _ ?_; clear hK2 K2)
    refine sxf_next fun K2 hK2 => ?_
    simp [dNum]
    refine callK.data (bare0_spec G 4) (by simp; rfl) (by first | exact D.leGo_refl _ | simp [takeMap, List.map_map, Function.comp_def, D.le, D.le.go, D.le_refl, D.leGo_refl, dNum]) ?_
    refine hK2 _ ?_
    clear hK2 K2
    simp only [putd, upd_lst]
    repeat (refine sxf_next fun K2 hK2 => ?_; simp [dNum]; (repeat (refine ⟨by omega, ?_⟩)); refine hK2 _ ?_; clear hK2 K2)
    refine sxf_nil (hK' _ ?_)
    refine AW.st (by simp [dNum]; rfl) ?_
    clear hK' K'
    refine AW_ret ?_
    simp [D.le, D.le.go, takeMap, dNum]
    simp [dFault, codeF, placeF, dNum, D.le, D.le.go]
  rw [show gateE V cs = gbad V cs 0 by unfold gateE; rw [if_neg (by omega)]]
  refine PureC.of_body (tyOf_good _) Tryd.func29 rfl rfl (rs := [.cell 2 29]) Tryd.results29 (by simp [Tryd.ntmps29]) fun X => ?_
  simp only [Tryd.ntmps29, List.map]
  refine AW_rg (tyOf_good _) [1, 2] [1, 2] (fun _ _ => trivial) fun K' hK' => ?_
  repeat (refine sxf_next fun K2 hK2 => ?_; simp [dNum, dCl]; (repeat (refine ⟨by omega, ?_⟩)); refine hK2 _ ?_; clear hK2 K2)
  refine sxf_nil (hK' _ ?_)
  refine AW.st (by simp [dNum, dCl]; rfl) ?_
  clear hK' K'
  refine AW_then fun K1 hK1 => ?_
  refine AW_rg (tyOf_good _) [1, 2, 16] [1, 2] (fun _ _ => trivial) fun K' hK' => ?_
  repeat (refine sxf_next fun K2 hK2 => ?_; simp [dNum, dRows, h3]; (repeat (refine ⟨by omega, ?_⟩)); refine hK2 _ ?_; clear hK2 K2)
  refine sxf_next fun K2 hK2 => ?_
  simp [dNum, dRows, h3]
  refine callK.data (hwy) (by simp; rfl) (by first | exact D.leGo_refl _ | simp [takeMap, List.map_map, Function.comp_def, D.le, D.le.go, D.le_refl, D.leGo_refl, dNum, dRows, h3]) ?_
  refine hK2 _ ?_
  clear hK2 K2
  simp only [putd, upd_lst]
  repeat (refine sxf_next fun K2 hK2 => ?_; simp [dNum, dRows, h3]; (repeat (refine ⟨by omega, ?_⟩)); refine hK2 _ ?_; clear hK2 K2)
  refine sxf_nil (hK' _ ?_)
  refine AW.st (by simp [dNum, dRows, h3]; rfl) ?_
  clear hK' K'
  refine AW_cond false rfl (fun h => by cases h) (fun _ => ?_)
  refine AW_skip (hK1 _ ?_)
  refine AW.imp (Imp.freezeB 1 trivial) ?_
  refine AW.st (by simp [dNum]; rfl) ?_
  refine AW_then fun K2 hK2 => ?_
  refine AW_rg (tyOf_good _) [1, 2, 19, 20, 21] [2] (fun _ _ => trivial) fun K' hK' => ?_
  repeat (refine sxf_next fun K2 hK2 => ?_; simp [dNum, dRows]; (repeat (refine ⟨by omega, ?_⟩)); refine hK2 _ ?_; clear hK2 K2)
  refine sxf_nil (hK' _ ?_)
  refine AW.st (by simp [dNum, dRows]; rfl) ?_
  clear hK' K'
  refine AW_for (S := Nat) (fun i => i ≤ cs.length ∧ gbad V (cs.drop i) i = gbad V cs 0) (fun i => ⟨lst [(1, .d (.ip [dNum V, dRows cs])), (2, .ref 2 0 0), (19, .d (dRows cs)), (20, int cs.length), (21, int i)], hlst [(2, .box 29 [.d (dNum 0), .d (dNum 0)])]⟩) (fun i => cs.length - i) 0 ?_ (by simp) ?_
  · refine Imp.to' (fun _ _ => trivial) (by simp [dNum, dRows]) (by simp [dNum, dRows])
  · rintro i ⟨hi, hb⟩
    refine AW_rg (tyOf_good _) [1, 2, 19, 20, 21, 22] [2] (fun _ _ => trivial) fun K' hK' => ?_
    repeat (refine sxf_next fun K2 hK2 => ?_; simp [dNum]; (repeat (refine ⟨by omega, ?_⟩)); refine hK2 _ ?_; clear hK2 K2)
    refine sxf_nil (hK' _ ?_)
    refine AW.st (by simp [dNum]; rfl) ?_
    clear hK' K'
    refine AW_then fun K3 hK3 => ?_
    refine AW_cond' (b := i < cs.length) (by simp [D.le, D.le.go, takeMap, dNum]) (fun hc => ?_) (fun hc => ?_)
    · have hil : i < cs.length := hc
      obtain ⟨c, hce⟩ : ∃ c, cs[i] = c := ⟨_, rfl⟩
      have hrl := hr c (hce ▸ List.getElem_mem hil)
      rw [List.drop_eq_getElem_cons hil, gbad, hce] at hb
      refine AW_skip (hK3 _ ?_)
      refine AW_then fun K4 hK4 => ?_
      refine AW_block ?_
      refine AW_rg (tyOf_good _) [1, 2, 3, 4, 19, 20, 21] [2] (fun _ _ => trivial) fun K' hK' => ?_
      repeat (refine sxf_next fun K2 hK2 => ?_; simp [dNum, dRows, dRow, dInts, hil, hce]; (repeat (refine ⟨by omega, ?_⟩)); refine hK2 _ ?_; clear hK2 K2)
      refine sxf_nil (hK' _ ?_)
      refine AW.st (by simp [dNum, dRows, dRow, dInts, hil, hce]; rfl) ?_
      clear hK' K'
      refine AW_rg (tyOf_good _) [1, 2, 3, 19, 20, 21, 26, 27, 28] [2] (fun _ _ => trivial) fun K' hK' => ?_
      repeat (refine sxf_next fun K2 hK2 => ?_; simp [dNum]; (repeat (refine ⟨by omega, ?_⟩)); refine hK2 _ ?_; clear hK2 K2)
      refine sxf_nil (hK' _ ?_)
      refine AW.st (by simp [dNum]; rfl) ?_
      clear hK' K'
      refine AW_for (S := Nat) (fun j => j ≤ c.length ∧ ∀ q (h : q < c.length), q < j → badL V c[q] = false) (fun j => ⟨lst [(1, .d (.ip [dNum V, dRows cs])), (2, .ref 2 0 0), (3, int i), (19, .d (dRows cs)), (20, int cs.length), (21, int i), (26, .d (dRow c)), (27, int c.length), (28, int j)], hlst [(2, .box 29 [.d (dNum 0), .d (dNum 0)])]⟩) (fun j => c.length - j) 0 ?_ ⟨Nat.zero_le _, fun q h hq => by omega⟩ ?_
      · refine Imp.to' (fun _ _ => trivial) (by simp [dNum, dRows, dRow, dInts]) (by simp [dNum, dRows, dRow, dInts])
      · rintro j ⟨hj, hjo⟩
        refine AW_rg (tyOf_good _) [1, 2, 3, 19, 20, 21, 26, 27, 28, 29] [2] (fun _ _ => trivial) fun K' hK' => ?_
        repeat (refine sxf_next fun K2 hK2 => ?_; simp [dNum]; (repeat (refine ⟨by omega, ?_⟩)); refine hK2 _ ?_; clear hK2 K2)
        refine sxf_nil (hK' _ ?_)
        refine AW.st (by simp [dNum]; rfl) ?_
        clear hK' K'
        refine AW_then fun K5 hK5 => ?_
        refine AW_cond' (b := j < c.length) (by simp [D.le, D.le.go, takeMap, dNum]) (fun hc => ?_) (fun hc => ?_)
        · have hjl : j < c.length := hc
          obtain ⟨x, hxe⟩ : ∃ x, c[j] = x := ⟨_, rfl⟩
          refine AW_skip (hK5 _ ?_)
          refine AW_then fun K6 hK6 => ?_
          refine AW_block ?_
          refine AW_rg (tyOf_good _) [1, 2, 3, 6, 19, 20, 21, 26, 27, 28] [2] (fun _ _ => trivial) fun K' hK' => ?_
          repeat (refine sxf_next fun K2 hK2 => ?_; simp [dNum, dRow, dInts, hjl, hxe]; (repeat (refine ⟨by omega, ?_⟩)); refine hK2 _ ?_; clear hK2 K2)
          refine sxf_nil (hK' _ ?_)
          refine AW.st (by simp [dNum, dRow, dInts, hjl, hxe]; rfl) ?_
          clear hK' K'
          by_cases hx0 : x = 0
          · have hbx : c.any (badL V) = true := List.any_eq_true.2 ⟨c[j], List.getElem_mem hjl, by rw [hxe]; simp [badL, hx0]⟩
            rw [hbx, if_pos rfl] at hb
            refine AW_rg (tyOf_good _) [1, 2, 3, 19, 20, 21, 26, 27, 28, 43] [2] (fun _ _ => trivial) fun K' hK' => ?_
            repeat (refine sxf_next fun K2 hK2 => ?_; simp [dNum, hx0]; (repeat (refine ⟨by omega, ?_⟩)); refine hK2 _ ?_; clear hK2 K2)
            refine sxf_nil (hK' _ ?_)
            refine AW.st (by simp [dNum, hx0]; rfl) ?_
            clear hK' K'
            refine AW_cond true rfl (fun _ => ?_) (fun h => by cases h)
            refine AW_rg (tyOf_good _) [2] [2] (fun _ _ => trivial) fun K' hK' => ?_
            repeat (refine sxf_next fun K2 hK2 => ?_; simp [dNum]; (repeat (refine ⟨by omega, ?_⟩)); refine hK2 _ ?_; clear hK2 K2)
            refine sxf_nil (hK' _ ?_)
            refine AW.st (by simp [dNum]; rfl) ?_
            clear hK' K'
            rw [← hb]
            refine AW_ret ?_
            simp [D.le, D.le.go, takeMap, dNum, dFault, codeF, placeF]
          · by_cases hx1 : x < -V ∨ V < x
            · have hbx : c.any (badL V) = true := List.any_eq_true.2 ⟨c[j], List.getElem_mem hjl, by rw [hxe]; rcases hx1 with h | h <;> simp [badL, h]⟩
              rw [hbx, if_pos rfl] at hb
              refine AW_rg (tyOf_good _) [1, 2, 3, 19, 20, 21, 26, 27, 28, 43] [2] (fun _ _ => trivial) fun K' hK' => ?_
              repeat (refine sxf_next fun K2 hK2 => ?_; simp [dNum, hx0]; (repeat (refine ⟨by omega, ?_⟩)); refine hK2 _ ?_; clear hK2 K2)
              refine sxf_next fun K2 hK2 => ?_
              simp [dNum, hx0]
              refine callK.data (within_no G x (-V) V hx1) (by simp; rfl) (by first | exact D.leGo_refl _ | simp [takeMap, List.map_map, Function.comp_def, D.le, D.le.go, D.le_refl, D.leGo_refl, dNum, hx0]) ?_
              refine hK2 _ ?_
              clear hK2 K2
              simp only [putd, upd_lst]
              repeat (refine sxf_next fun K2 hK2 => ?_; simp [dNum, hx0]; (repeat (refine ⟨by omega, ?_⟩)); refine hK2 _ ?_; clear hK2 K2)
              refine sxf_nil (hK' _ ?_)
              refine AW.st (by simp [dNum, hx0]; rfl) ?_
              clear hK' K'
              refine AW_cond true rfl (fun _ => ?_) (fun h => by cases h)
              refine AW_rg (tyOf_good _) [2] [2] (fun _ _ => trivial) fun K' hK' => ?_
              repeat (refine sxf_next fun K2 hK2 => ?_; simp [dNum]; (repeat (refine ⟨by omega, ?_⟩)); refine hK2 _ ?_; clear hK2 K2)
              refine sxf_nil (hK' _ ?_)
              refine AW.st (by simp [dNum]; rfl) ?_
              clear hK' K'
              rw [← hb]
              refine AW_ret ?_
              simp [D.le, D.le.go, takeMap, dNum, dFault, codeF, placeF]
            · have hbx : badL V x = false := by
                unfold badL
                rw [decide_eq_false hx0, decide_eq_false (by omega), decide_eq_false (by omega)]; rfl
              refine AW_rg (tyOf_good _) [1, 2, 3, 19, 20, 21, 26, 27, 28, 43] [2] (fun _ _ => trivial) fun K' hK' => ?_
              repeat (refine sxf_next fun K2 hK2 => ?_; simp [dNum, hx0]; (repeat (refine ⟨by omega, ?_⟩)); refine hK2 _ ?_; clear hK2 K2)
              refine sxf_next fun K2 hK2 => ?_
              simp [dNum, hx0]
              refine callK.data (within_yes G x (-V) V (by omega) (by omega)) (by simp; rfl) (by first | exact D.leGo_refl _ | simp [takeMap, List.map_map, Function.comp_def, D.le, D.le.go, D.le_refl, D.leGo_refl, dNum, hx0]) ?_
              refine hK2 _ ?_
              clear hK2 K2
              simp only [putd, upd_lst]
              repeat (refine sxf_next fun K2 hK2 => ?_; simp [dNum, hx0]; (repeat (refine ⟨by omega, ?_⟩)); refine hK2 _ ?_; clear hK2 K2)
              refine sxf_nil (hK' _ ?_)
              refine AW.st (by simp [dNum, hx0]; rfl) ?_
              clear hK' K'
              refine AW_cond false rfl (fun h => by cases h) (fun _ => ?_)
              refine AW_skip ?_
              refine hK6 _ (AW.norm [1, 2, 3, 19, 20, 21, 26, 27, 28] [2] (fun _ _ => trivial) (AW.st (by simp [dNum]; rfl) ?_))
              refine AW_re (tyOf_good _) fun K' hK' => ?_
              repeat (refine sxf_next fun K2 hK2 => ?_; simp [dNum]; (repeat (refine ⟨by omega, ?_⟩)); refine hK2 _ ?_; clear hK2 K2)
              refine sxf_nil (hK' _ ?_)
              clear hK' K'
              try simp only [thn, inb]
              refine Again.mk (j + 1) ⟨by omega, fun q h hq => ?_⟩ (by omega) ?_
              · by_cases e : q = j
                · subst e; rw [hxe]; exact hbx
                · exact hjo q h (by omega)
              refine Imp.to' (fun _ _ => trivial) (by simp [dNum, dRows, dRow, dInts]) (by simp [dNum, dRows, dRow, dInts])
        · obtain rfl : j = c.length := by omega
          have hbx : c.any (badL V) = false := by
            rw [List.any_eq_false]
            intro y hy
            obtain ⟨q, hq, rfl⟩ := List.getElem_of_mem hy
            rw [hjo q hq hq]
            decide
          rw [hbx, if_neg (by decide)] at hb
          refine AW_exit (hK4 _ ?_)
          refine AW_re (tyOf_good _) fun K' hK' => ?_
          repeat (refine sxf_next fun K2 hK2 => ?_; simp [dNum]; (repeat (refine ⟨by omega, ?_⟩)); refine hK2 _ ?_; clear hK2 K2)
          refine sxf_nil (hK' _ ?_)
          clear hK' K'
          try simp only [thn, inb]
          refine Again.mk (i + 1) ⟨by omega, hb⟩ (by omega) ?_
          refine Imp.to' (fun _ _ => trivial) (by simp [dNum, dRows, dRow, dInts]) (by simp [dNum, dRows, dRow, dInts])
    · obtain rfl : i = cs.length := by omega
      rw [List.drop_length, gbad] at hb
      refine AW_exit (hK2 _ ?_)
      unfold HasFine at hF
      refine AW_rg (tyOf_good _) [2] [2] (fun _ _ => trivial) fun K' hK' => ?_
      repeat (refine sxf_next fun K2 hK2 => ?_; simp [dNum, hF]; (repeat (refine ⟨by omega, ?_⟩)); refine hK2 _ ?_; clear hK2 K2)
      refine sxf_nil (hK' _ ?_)
      refine AW.st (by simp [dNum, hF]; rfl) ?_
      clear hK' K'
      rw [← hb]
      refine AW_ret ?_
      simp [D.le, D.le.go, takeMap, dNum, dFault, codeF, placeF]
#print axioms rgcheck_spec

theorem and_one (q : Nat) (h : q < 2^62) : bitsI .and .i64 (q : Int) 1 = ((q % 2 : Nat) : Int) := by
  unfold bitsI
  dsimp only
  have h1 : (BitVec.ofInt 64 (q : Int)).toNat = q := by
    rw [BitVec.toNat_ofInt]; omega
  have h2 : (BitVec.ofInt 64 (1 : Int)).toNat = 1 := by decide
  have h3 : (BitVec.ofInt IntKind.i64.bits (q : Int) &&& BitVec.ofInt IntKind.i64.bits (1 : Int)).toNat = q % 2 := by
    show (BitVec.ofInt 64 (q : Int) &&& BitVec.ofInt 64 (1 : Int)).toNat = q % 2
    rw [BitVec.toNat_and, h1, h2, Nat.and_one_is_mod]
  rw [h3]
  have : q % 2 = 0 ∨ q % 2 = 1 := by omega
  rcases this with h | h <;> rw [h] <;> decide
theorem shr_nat (k d : Nat) (h : d ≤ 8) : (k : Int).fdiv (2 ^ (min d IntKind.i64.bits)) = ((k / 2^d : Nat) : Int) := by
  have e : min d IntKind.i64.bits = d := by
    have : IntKind.i64.bits = 64 := rfl
    simp [this]; omega
  rw [e, Int.fdiv_eq_ediv_of_nonneg _ (by exact Int.le_of_lt (Int.pow_pos (by decide)))]
  simp
theorem bit_div (k d : Nat) : (((k / 2^d % 2 : Nat) : Int) == 1) = k.testBit d := by
  have h2 : k.testBit d = (k / 2^d).testBit 0 := by rw [Nat.testBit_div_two_pow]; simp
  rw [h2, Nat.testBit_zero]
  have : k / 2^d % 2 = 0 ∨ k / 2^d % 2 = 1 := by omega
  rcases this with h | h <;> rw [h] <;> decide
theorem value_spec (G : Glob) (V k v : Nat) (hV : V ≤ 8) (hk : k < 2^V) (h1 : 1 ≤ v) (h2 : v ≤ V) (cs : D) : PureC Tryd.prog G 71 [dNum v, .ip [dNum k], .ip [dNum V, cs]] (.v (.bool (bitK V k v))) := by
  obtain ⟨d, hd⟩ : ∃ d, V - v = d := ⟨_, rfl⟩
  have hdI : (V : Int) - (v : Int) = (d : Int) := by omega
  refine PureC.of_body (tyOf_good _) Tryd.func71 rfl rfl (rs := [.tmp 4]) Tryd.results71 (by simp [Tryd.ntmps71]) fun X => ?_
  simp only [Tryd.ntmps71, List.map]
  refine AW_rg (tyOf_good _) [0, 1, 2] [] (fun _ _ => trivial) fun K' hK' => ?_
  repeat (refine sxf_next fun K2 hK2 => ?_; simp [dNum]; (repeat (refine ⟨by omega, ?_⟩)); refine hK2 _ ?_; clear hK2 K2)
  refine sxf_nil (hK' _ ?_)
  refine AW.st (by simp [dNum]; rfl) ?_
  clear hK' K'
  refine AW_rg (tyOf_good _) [4] [] (fun _ _ => trivial) fun K' hK' => ?_
  repeat (refine sxf_next fun K2 hK2 => ?_; simp [dNum, hdI, shI]; (repeat (refine ⟨by omega, ?_⟩)); refine hK2 _ ?_; clear hK2 K2)
  refine sxf_nil (hK' _ ?_)
  refine AW.st (by simp [dNum, hdI, shI]; rfl) ?_
  clear hK' K'
  refine AW_ret ?_
  simp [D.le, D.le.go, takeMap, dNum]
  have hp : 2^V ≤ 2^8 := Nat.pow_le_pow_right (by decide) hV
  have hdv : k / 2^d ≤ k := Nat.div_le_self _ _
  rw [shr_nat k d (by omega), and_one _ (by omega)]
  unfold bitK
  rw [hd, ← bit_div]
  rfl
#print axioms value_spec
end Go.Proofs.YtoikggboakojlaaDoor

/-
  The first values of which all clauses hold, by trying all: the document's GateSolve.
-/
namespace Go.Proofs.YtoikggboakojlaaDoor
set_option linter.unusedSimpArgs false
set_option linter.unusedVariables false
open Go.Av

def oneB (β : Nat → Bool) (c : List Int) : Bool := c.any (litB β)
theorem models_iff {cs : Cl} {β : Nat → Bool} : Models cs β ↔ cs.all (oneB β) = true := by
  rw [List.all_eq_true]
  constructor
  · intro h c hc
    obtain ⟨x, hx, hl⟩ := h c hc
    exact List.any_eq_true.2 ⟨x, hx, hl⟩
  · intro h c hc
    obtain ⟨x, hx, hl⟩ := List.any_eq_true.1 (h c hc)
    exact ⟨x, hx, hl⟩
theorem wrap_shl {V : Nat} (h : V ≤ 8) : IntKind.i64.wrap (2 ^ (min V IntKind.i64.bits)) = ((2^V : Nat) : Int) := by
  rcases (show V = 0 ∨ V = 1 ∨ V = 2 ∨ V = 3 ∨ V = 4 ∨ V = 5 ∨ V = 6 ∨ V = 7 ∨ V = 8 by omega) with rfl | rfl | rfl | rfl | rfl | rfl | rfl | rfl | rfl <;> decide

set_option maxHeartbeats 16000000 in
theorem rsolve_spec (G : Glob) (V : Nat) (hV : V ≤ 8) (cs : Cl) (hl : cs.length < 2^60) (hr : ∀ c ∈ cs, c.length < 2^60) (ok : OkC V cs) (R : D)
    (hyes : ∀ K, K < 2^V → Models cs (bitK V K) → (∀ j, K < j → j < 2^V → ¬ Models cs (bitK V j)) → R = .tup [dVals V (bitK V K), .v (.bool true)]) (hno : (∀ j, j < 2^V → ¬ Models cs (bitK V j)) → R = .tup [.sl (some false) [], .v (.bool false)]) :
    PureC Tryd.prog G 32 [dCl V cs] R := by
  have hp8 : 2^V ≤ 256 := (Nat.pow_le_pow_right (by decide) hV : 2^V ≤ 2^8)
  have hp1 : 1 ≤ 2^V := Nat.one_le_two_pow
  have hshl := wrap_shl hV
  generalize hP : 2^V = P at hp8 hp1 hshl
  have hval := fun k v hk h1 h2 => value_spec G V k v hV (hP ▸ hk) h1 h2 (dRows cs)
  refine PureC.of_body (tyOf_good _) Tryd.func32 rfl rfl (rs := [.tmp 2, .tmp 3]) Tryd.results32 (by simp [Tryd.ntmps32]) fun X => ?_
  simp only [Tryd.ntmps32, List.map]
  refine AW_rg (tyOf_good _) [1] [1] (fun _ _ => trivial) fun K' hK' => ?_
  repeat (refine sxf_next fun K2 hK2 => ?_; simp [dNum, dCl]; (repeat (refine ⟨by omega, ?_⟩)); refine hK2 _ ?_; clear hK2 K2)
  refine sxf_nil (hK' _ ?_)
  refine AW.st (by simp [dNum, dCl]; rfl) ?_
  clear hK' K'
  refine AW.imp (Imp.freezeB 1 trivial) ?_
  refine AW.st (by simp [dNum]; rfl) ?_
  refine AW_then fun K1 hK1 => ?_
  refine AW_rg (tyOf_good _) [1, 4] [4] (fun _ _ => trivial) fun K' hK' => ?_
  repeat (refine sxf_next fun K2 hK2 => ?_; simp [dNum, shI, hshl]; (repeat (refine ⟨by omega, ?_⟩)); refine hK2 _ ?_; clear hK2 K2)
  refine sxf_nil (hK' _ ?_)
  refine AW.st (by simp [dNum, shI, hshl]; rfl) ?_
  clear hK' K'
  refine AW_for (S := Nat) (fun m => m ≤ P ∧ ∀ j, m ≤ j → j < P → ¬ Models cs (bitK V j)) (fun m => ⟨lst [(1, .d (.ip [dNum V, dRows cs])), (4, .ref 4 0 0)], hlst [(4, .box 3 [.d (dNum ((m : Int) - 1))])]⟩) (fun m => m) P ?_ ⟨Nat.le_refl _, fun j h1 h2 => by omega⟩ ?_
  · refine Imp.to' (fun _ _ => trivial) (by simp [dNum]) (by simp [dNum])
  · rintro m ⟨hm, hmo⟩
    refine AW_then fun K2 hK2 => ?_
    cases m with
    | zero =>
      refine AW_rg (tyOf_good _) [1, 4, 19] [4] (fun _ _ => trivial) fun K' hK' => ?_
      repeat (refine sxf_next fun K2 hK2 => ?_; simp [dNum]; (repeat (refine ⟨by omega, ?_⟩)); refine hK2 _ ?_; clear hK2 K2)
      refine sxf_nil (hK' _ ?_)
      refine AW.st (by simp [dNum]; rfl) ?_
      clear hK' K'
      refine AW_cond false rfl (fun h => by cases h) (fun _ => ?_)
      refine AW_exit (hK1 _ ?_)
      rw [hno fun j hj => hmo j (Nat.zero_le _) (hP ▸ hj)]
      refine AW_rg (tyOf_good _) [2, 3] [] (fun _ _ => trivial) fun K' hK' => ?_
      repeat (refine sxf_next fun K2 hK2 => ?_; simp [dNum]; (repeat (refine ⟨by omega, ?_⟩)); refine hK2 _ ?_; clear hK2 K2)
      refine sxf_nil (hK' _ ?_)
      refine AW.st (by simp [dNum]; rfl) ?_
      clear hK' K'
      refine AW_ret ?_
      simp [D.le, D.le.go, takeMap, dNum]
    | succ k =>
      have hkP : k < P := by omega
      have hkI : ((k + 1 : Nat) : Int) - 1 = (k : Int) := by omega
      have hk0 : (0 : Int) ≤ (k : Int) := by omega
      have hvk := fun v h1 h2 => hval k v hkP h1 h2
      obtain ⟨β, hβ⟩ : ∃ β, bitK V k = β := ⟨_, rfl⟩
      rw [hkI]
      refine AW_rg (tyOf_good _) [1, 4, 19] [4] (fun _ _ => trivial) fun K' hK' => ?_
      repeat (refine sxf_next fun K2 hK2 => ?_; simp [dNum, hk0]; (repeat (refine ⟨by omega, ?_⟩)); refine hK2 _ ?_; clear hK2 K2)
      refine sxf_nil (hK' _ ?_)
      refine AW.st (by simp [dNum, hk0]; rfl) ?_
      clear hK' K'
      refine AW_cond true rfl (fun _ => ?_) (fun h => by cases h)
      refine AW_skip (hK2 _ ?_)
      refine AW_then fun K3 hK3 => ?_
      refine AW_block ?_
      refine AW_rg (tyOf_good _) [1, 4, 5] [4] (fun _ _ => trivial) fun K' hK' => ?_
      repeat (refine sxf_next fun K2 hK2 => ?_; simp [dNum]; (repeat (refine ⟨by omega, ?_⟩)); refine hK2 _ ?_; clear hK2 K2)
      refine sxf_nil (hK' _ ?_)
      refine AW.st (by simp [dNum]; rfl) ?_
      clear hK' K'
      refine AW_rg (tyOf_good _) [1, 4, 5, 6] [4] (fun _ _ => trivial) fun K' hK' => ?_
      repeat (refine sxf_next fun K2 hK2 => ?_; simp [dNum]; (repeat (refine ⟨by omega, ?_⟩)); refine hK2 _ ?_; clear hK2 K2)
      refine sxf_nil (hK' _ ?_)
      refine AW.st (by simp [dNum]; rfl) ?_
      clear hK' K'
      refine AW_then fun K4 hK4 => ?_
      refine AW_rg (tyOf_good _) [1, 4, 5, 6, 24, 25, 26] [4] (fun _ _ => trivial) fun K' hK' => ?_
      repeat (refine sxf_next fun K2 hK2 => ?_; simp [dNum, dRows]; (repeat (refine ⟨by omega, ?_⟩)); refine hK2 _ ?_; clear hK2 K2)
      refine sxf_nil (hK' _ ?_)
      refine AW.st (by simp [dNum, dRows]; rfl) ?_
      clear hK' K'
      refine AW_for (S := Nat) (fun i => i ≤ cs.length) (fun i => ⟨lst [(1, .d (.ip [dNum V, dRows cs])), (4, .ref 4 0 0), (5, .fn (.func 71) [.ref 4 0 0, .d (.ip [dNum V, dRows cs])]), (6, .d (.v (.bool ((cs.take i).all (oneB β))))), (24, .d (dRows cs)), (25, int cs.length), (26, int i)], hlst [(4, .box 3 [.d (dNum k)])]⟩) (fun i => cs.length - i) 0 ?_ (by simp) ?_
      · refine Imp.to' (fun _ _ => trivial) (by simp [dNum, dRows]) (by simp [dNum, dRows])
      · intro i hi
        refine AW_rg (tyOf_good _) [1, 4, 5, 6, 24, 25, 26, 27] [4] (fun _ _ => trivial) fun K' hK' => ?_
        repeat (refine sxf_next fun K2 hK2 => ?_; simp [dNum]; (repeat (refine ⟨by omega, ?_⟩)); refine hK2 _ ?_; clear hK2 K2)
        refine sxf_nil (hK' _ ?_)
        refine AW.st (by simp [dNum]; rfl) ?_
        clear hK' K'
        refine AW_then fun K5 hK5 => ?_
        refine AW_cond' (b := i < cs.length) (by simp [D.le, D.le.go, takeMap, dNum]) (fun hc => ?_) (fun hc => ?_)
        · have hil : i < cs.length := hc
          obtain ⟨c, hce⟩ : ∃ c, cs[i] = c := ⟨_, rfl⟩
          have hcm : c ∈ cs := hce ▸ List.getElem_mem hil
          have hrl := hr c hcm
          have okc := ok c hcm
          have hall : (cs.take (i + 1)).all (oneB β) = ((cs.take i).all (oneB β) && oneB β c) := by
            rw [List.take_succ_eq_append_getElem hil, List.all_append, hce]; simp
          generalize (cs.take i).all (oneB β) = old at hall
          refine AW_skip (hK5 _ ?_)
          refine AW_then fun K6 hK6 => ?_
          refine AW_block ?_
          refine AW_rg (tyOf_good _) [1, 4, 5, 6, 8, 24, 25, 26] [4] (fun _ _ => trivial) fun K' hK' => ?_
          repeat (refine sxf_next fun K2 hK2 => ?_; simp [dNum, dRows, dRow, dInts, hil, hce]; (repeat (refine ⟨by omega, ?_⟩)); refine hK2 _ ?_; clear hK2 K2)
          refine sxf_nil (hK' _ ?_)
          refine AW.st (by simp [dNum, dRows, dRow, dInts, hil, hce]; rfl) ?_
          clear hK' K'
          refine AW_rg (tyOf_good _) [1, 4, 5, 6, 8, 9, 24, 25, 26] [4] (fun _ _ => trivial) fun K' hK' => ?_
          repeat (refine sxf_next fun K2 hK2 => ?_; simp [dNum]; (repeat (refine ⟨by omega, ?_⟩)); refine hK2 _ ?_; clear hK2 K2)
          refine sxf_nil (hK' _ ?_)
          refine AW.st (by simp [dNum]; rfl) ?_
          clear hK' K'
          refine AW_then fun K7 hK7 => ?_
          refine AW_rg (tyOf_good _) [1, 4, 5, 6, 9, 24, 25, 26, 30, 31, 32] [4] (fun _ _ => trivial) fun K' hK' => ?_
          repeat (refine sxf_next fun K2 hK2 => ?_; simp [dNum]; (repeat (refine ⟨by omega, ?_⟩)); refine hK2 _ ?_; clear hK2 K2)
          refine sxf_nil (hK' _ ?_)
          refine AW.st (by simp [dNum]; rfl) ?_
          clear hK' K'
          refine AW_for (S := Nat) (fun j => j ≤ c.length) (fun j => ⟨lst [(1, .d (.ip [dNum V, dRows cs])), (4, .ref 4 0 0), (5, .fn (.func 71) [.ref 4 0 0, .d (.ip [dNum V, dRows cs])]), (6, .d (.v (.bool old))), (9, .d (.v (.bool ((c.take j).any (litB β))))), (24, .d (dRows cs)), (25, int cs.length), (26, int i), (30, .d (dRow c)), (31, int c.length), (32, int j)], hlst [(4, .box 3 [.d (dNum k)])]⟩) (fun j => c.length - j) 0 ?_ (by simp) ?_
          · refine Imp.to' (fun _ _ => trivial) (by simp [dNum, dRows, dRow, dInts]) (by simp [dNum, dRows, dRow, dInts])
          · intro j hj
            refine AW_rg (tyOf_good _) [1, 4, 5, 6, 9, 24, 25, 26, 30, 31, 32, 33] [4] (fun _ _ => trivial) fun K' hK' => ?_
            repeat (refine sxf_next fun K2 hK2 => ?_; simp [dNum]; (repeat (refine ⟨by omega, ?_⟩)); refine hK2 _ ?_; clear hK2 K2)
            refine sxf_nil (hK' _ ?_)
            refine AW.st (by simp [dNum]; rfl) ?_
            clear hK' K'
            refine AW_then fun K8 hK8 => ?_
            refine AW_cond' (b := j < c.length) (by simp [D.le, D.le.go, takeMap, dNum]) (fun hc => ?_) (fun hc => ?_)
            · have hjl : j < c.length := hc
              obtain ⟨x, hxe⟩ : ∃ x, c[j] = x := ⟨_, rfl⟩
              obtain ⟨x0, x1, x2⟩ := okc x (hxe ▸ List.getElem_mem hjl)
              have hany : (c.take (j + 1)).any (litB β) = ((c.take j).any (litB β) || litB β x) := by
                rw [List.take_succ_eq_append_getElem hjl, List.any_append, hxe]; simp
              generalize (c.take j).any (litB β) = one at hany
              refine AW_skip (hK8 _ ?_)
              refine AW_then fun K9 hK9 => ?_
              refine AW_block ?_
              refine AW_rg (tyOf_good _) [1, 4, 5, 6, 9, 11, 24, 25, 26, 30, 31, 32] [4] (fun _ _ => trivial) fun K' hK' => ?_
              repeat (refine sxf_next fun K2 hK2 => ?_; simp [dNum, dRow, dInts, hjl, hxe]; (repeat (refine ⟨by omega, ?_⟩)); refine hK2 _ ?_; clear hK2 K2)
              refine sxf_nil (hK' _ ?_)
              refine AW.st (by simp [dNum, dRow, dInts, hjl, hxe]; rfl) ?_
              clear hK' K'
              cases one with
              | true =>
                refine AW_re (tyOf_good _) fun K' hK' => ?_
                repeat (refine sxf_next fun K2 hK2 => ?_; simp [dNum]; (repeat (refine ⟨by omega, ?_⟩)); refine hK2 _ ?_; clear hK2 K2)
                refine sxf_nil (hK' _ ?_)
                clear hK' K'
                refine hK9 _ (AW.norm [1, 4, 5, 6, 9, 24, 25, 26, 30, 31, 32] [4] (fun _ _ => trivial) (AW.st (by simp [dNum]; rfl) ?_))
                refine AW_re (tyOf_good _) fun K' hK' => ?_
                repeat (refine sxf_next fun K2 hK2 => ?_; simp [dNum]; (repeat (refine ⟨by omega, ?_⟩)); refine hK2 _ ?_; clear hK2 K2)
                refine sxf_nil (hK' _ ?_)
                clear hK' K'
                try simp only [thn, inb]
                refine Again.mk (j + 1) (by omega) (by omega) ?_
                refine Imp.to' (fun _ _ => trivial) (by simp [dNum, dRows, dRow, dInts, hany]) (by simp [dNum, dRows, dRow, dInts, hany])
              | false =>
                rw [Bool.false_or] at hany
                by_cases hx : 0 < x
                · obtain ⟨v, rfl⟩ : ∃ v : Nat, x = v := ⟨x.natAbs, by omega⟩
                  have hv0 : 0 < v := by omega
                  have hvc := hvk v (by omega) (by omega)
                  have hlt : ¬ (v : Int) < 0 := by omega
                  have hlv : litB β (v : Int) = β v := by unfold litB; rw [if_pos hx]; simp
                  rw [hβ] at hvc
                  rw [hlv] at hany
                  cases hb : β v with
                  | true =>
                    rw [hb] at hvc hany
                    refine AW_re (tyOf_good _) fun K' hK' => ?_
                    repeat (refine sxf_next fun K2 hK2 => ?_; simp [dNum, hv0]; (repeat (refine ⟨by omega, ?_⟩)); refine hK2 _ ?_; clear hK2 K2)
                    refine sxf_next fun K2 hK2 => ?_
                    simp [dNum, hv0]
                    refine callK.lend (hvc) (by simp [dNum, hv0]; rfl) (by first | exact D.leGo_refl _ | simp [takeMap, List.map_map, Function.comp_def, D.le, D.le.go, D.le_refl, D.leGo_refl, dNum, hv0]) (by simp [D.scalar, dNum, hv0]) ?_
                    refine hK2 _ ?_
                    clear hK2 K2
                    simp only [putd, upd_lst]
                    repeat (refine sxf_next fun K2 hK2 => ?_; simp [dNum, hv0]; (repeat (refine ⟨by omega, ?_⟩)); refine hK2 _ ?_; clear hK2 K2)
                    refine sxf_nil (hK' _ ?_)
                    clear hK' K'
                    refine hK9 _ (AW.norm [1, 4, 5, 6, 9, 24, 25, 26, 30, 31, 32] [4] (fun _ _ => trivial) (AW.st (by simp [dNum, hv0]; rfl) ?_))
                    refine AW_re (tyOf_good _) fun K' hK' => ?_
                    repeat (refine sxf_next fun K2 hK2 => ?_; simp [dNum]; (repeat (refine ⟨by omega, ?_⟩)); refine hK2 _ ?_; clear hK2 K2)
                    refine sxf_nil (hK' _ ?_)
                    clear hK' K'
                    try simp only [thn, inb]
                    refine Again.mk (j + 1) (by omega) (by omega) ?_
                    refine Imp.to' (fun _ _ => trivial) (by simp [dNum, dRows, dRow, dInts, hany]) (by simp [dNum, dRows, dRow, dInts, hany])
                  | false =>
                    rw [hb] at hvc hany
                    refine AW_re (tyOf_good _) fun K' hK' => ?_
                    repeat (refine sxf_next fun K2 hK2 => ?_; simp [dNum, hv0, hlt]; (repeat (refine ⟨by omega, ?_⟩)); refine hK2 _ ?_; clear hK2 K2)
                    refine sxf_next fun K2 hK2 => ?_
                    simp [dNum, hv0, hlt]
                    refine callK.lend (hvc) (by simp [dNum, hv0, hlt]; rfl) (by first | exact D.leGo_refl _ | simp [takeMap, List.map_map, Function.comp_def, D.le, D.le.go, D.le_refl, D.leGo_refl, dNum, hv0, hlt]) (by simp [D.scalar, dNum, hv0, hlt]) ?_
                    refine hK2 _ ?_
                    clear hK2 K2
                    simp only [putd, upd_lst]
                    repeat (refine sxf_next fun K2 hK2 => ?_; simp [dNum, hv0, hlt]; (repeat (refine ⟨by omega, ?_⟩)); refine hK2 _ ?_; clear hK2 K2)
                    refine sxf_nil (hK' _ ?_)
                    clear hK' K'
                    refine hK9 _ (AW.norm [1, 4, 5, 6, 9, 24, 25, 26, 30, 31, 32] [4] (fun _ _ => trivial) (AW.st (by simp [dNum, hv0, hlt]; rfl) ?_))
                    refine AW_re (tyOf_good _) fun K' hK' => ?_
                    repeat (refine sxf_next fun K2 hK2 => ?_; simp [dNum]; (repeat (refine ⟨by omega, ?_⟩)); refine hK2 _ ?_; clear hK2 K2)
                    refine sxf_nil (hK' _ ?_)
                    clear hK' K'
                    try simp only [thn, inb]
                    refine Again.mk (j + 1) (by omega) (by omega) ?_
                    refine Imp.to' (fun _ _ => trivial) (by simp [dNum, dRows, dRow, dInts, hany]) (by simp [dNum, dRows, dRow, dInts, hany])
                · obtain ⟨v, rfl⟩ : ∃ v : Nat, x = -v := ⟨x.natAbs, by omega⟩
                  have hv0 : 0 < v := by omega
                  have hvc := hvk v (by omega) (by omega)
                  have hlt : ¬ (0 : Int) < -(v : Int) := by omega
                  have hlt2 : -(v : Int) < 0 := by omega
                  have hlt0 : ¬ (v : Int) < 0 := by omega
                  have hlv : litB β (-(v : Int)) = !β v := by unfold litB; rw [if_neg hx, Int.neg_neg]; simp
                  rw [hβ] at hvc
                  rw [hlv] at hany
                  cases hb : β v with
                  | true =>
                    rw [hb] at hvc hany
                    refine AW_re (tyOf_good _) fun K' hK' => ?_
                    repeat (refine sxf_next fun K2 hK2 => ?_; simp [dNum, hlt, hlt2, hv0, hlt0]; (repeat (refine ⟨by omega, ?_⟩)); refine hK2 _ ?_; clear hK2 K2)
                    refine sxf_next fun K2 hK2 => ?_
                    simp [dNum, hlt, hlt2, hv0, hlt0]
                    refine callK.lend (hvc) (by simp [dNum, hlt, hlt2, hv0, hlt0]; rfl) (by first | exact D.leGo_refl _ | simp [takeMap, List.map_map, Function.comp_def, D.le, D.le.go, D.le_refl, D.leGo_refl, dNum, hlt, hlt2, hv0, hlt0]) (by simp [D.scalar, dNum, hlt, hlt2, hv0, hlt0]) ?_
                    refine hK2 _ ?_
                    clear hK2 K2
                    simp only [putd, upd_lst]
                    repeat (refine sxf_next fun K2 hK2 => ?_; simp [dNum, hlt, hlt2, hv0, hlt0]; (repeat (refine ⟨by omega, ?_⟩)); refine hK2 _ ?_; clear hK2 K2)
                    refine sxf_nil (hK' _ ?_)
                    clear hK' K'
                    refine hK9 _ (AW.norm [1, 4, 5, 6, 9, 24, 25, 26, 30, 31, 32] [4] (fun _ _ => trivial) (AW.st (by simp [dNum, hlt, hlt2, hv0, hlt0]; rfl) ?_))
                    refine AW_re (tyOf_good _) fun K' hK' => ?_
                    repeat (refine sxf_next fun K2 hK2 => ?_; simp [dNum]; (repeat (refine ⟨by omega, ?_⟩)); refine hK2 _ ?_; clear hK2 K2)
                    refine sxf_nil (hK' _ ?_)
                    clear hK' K'
                    try simp only [thn, inb]
                    refine Again.mk (j + 1) (by omega) (by omega) ?_
                    refine Imp.to' (fun _ _ => trivial) (by simp [dNum, dRows, dRow, dInts, hany]) (by simp [dNum, dRows, dRow, dInts, hany])
                  | false =>
                    rw [hb] at hvc hany
                    refine AW_re (tyOf_good _) fun K' hK' => ?_
                    repeat (refine sxf_next fun K2 hK2 => ?_; simp [dNum, hlt, hlt2, hv0, hlt0]; (repeat (refine ⟨by omega, ?_⟩)); refine hK2 _ ?_; clear hK2 K2)
                    refine sxf_next fun K2 hK2 => ?_
                    simp [dNum, hlt, hlt2, hv0, hlt0]
                    refine callK.lend (hvc) (by simp [dNum, hlt, hlt2, hv0, hlt0]; rfl) (by first | exact D.leGo_refl _ | simp [takeMap, List.map_map, Function.comp_def, D.le, D.le.go, D.le_refl, D.leGo_refl, dNum, hlt, hlt2, hv0, hlt0]) (by simp [D.scalar, dNum, hlt, hlt2, hv0, hlt0]) ?_
                    refine hK2 _ ?_
                    clear hK2 K2
                    simp only [putd, upd_lst]
                    repeat (refine sxf_next fun K2 hK2 => ?_; simp [dNum, hlt, hlt2, hv0, hlt0]; (repeat (refine ⟨by omega, ?_⟩)); refine hK2 _ ?_; clear hK2 K2)
                    refine sxf_nil (hK' _ ?_)
                    clear hK' K'
                    refine hK9 _ (AW.norm [1, 4, 5, 6, 9, 24, 25, 26, 30, 31, 32] [4] (fun _ _ => trivial) (AW.st (by simp [dNum, hlt, hlt2, hv0, hlt0]; rfl) ?_))
                    refine AW_re (tyOf_good _) fun K' hK' => ?_
                    repeat (refine sxf_next fun K2 hK2 => ?_; simp [dNum]; (repeat (refine ⟨by omega, ?_⟩)); refine hK2 _ ?_; clear hK2 K2)
                    refine sxf_nil (hK' _ ?_)
                    clear hK' K'
                    try simp only [thn, inb]
                    refine Again.mk (j + 1) (by omega) (by omega) ?_
                    refine Imp.to' (fun _ _ => trivial) (by simp [dNum, dRows, dRow, dInts, hany]) (by simp [dNum, dRows, dRow, dInts, hany])
            · obtain rfl : j = c.length := by omega
              refine AW_exit (hK7 _ ?_)
              rw [List.take_length]
              have hone : c.any (litB β) = oneB β c := rfl
              rw [hone]
              generalize oneB β c = one at hall
              cases old with
              | true =>
                rw [Bool.true_and] at hall
                refine AW_re (tyOf_good _) fun K' hK' => ?_
                repeat (refine sxf_next fun K2 hK2 => ?_; simp [dNum]; (repeat (refine ⟨by omega, ?_⟩)); refine hK2 _ ?_; clear hK2 K2)
                refine sxf_nil (hK' _ ?_)
                clear hK' K'
                refine hK6 _ (AW.norm [1, 4, 5, 6, 24, 25, 26] [4] (fun _ _ => trivial) (AW.st (by simp [dNum]; rfl) ?_))
                refine AW_re (tyOf_good _) fun K' hK' => ?_
                repeat (refine sxf_next fun K2 hK2 => ?_; simp [dNum]; (repeat (refine ⟨by omega, ?_⟩)); refine hK2 _ ?_; clear hK2 K2)
                refine sxf_nil (hK' _ ?_)
                clear hK' K'
                try simp only [thn, inb]
                refine Again.mk (i + 1) (by omega) (by omega) ?_
                refine Imp.to' (fun _ _ => trivial) (by simp [dNum, dRows, dRow, dInts, hall]) (by simp [dNum, dRows, dRow, dInts, hall])
              | false =>
                rw [Bool.false_and] at hall
                refine AW_re (tyOf_good _) fun K' hK' => ?_
                repeat (refine sxf_next fun K2 hK2 => ?_; simp [dNum]; (repeat (refine ⟨by omega, ?_⟩)); refine hK2 _ ?_; clear hK2 K2)
                refine sxf_nil (hK' _ ?_)
                clear hK' K'
                refine hK6 _ (AW.norm [1, 4, 5, 6, 24, 25, 26] [4] (fun _ _ => trivial) (AW.st (by simp [dNum]; rfl) ?_))
                refine AW_re (tyOf_good _) fun K' hK' => ?_
                repeat (refine sxf_next fun K2 hK2 => ?_; simp [dNum]; (repeat (refine ⟨by omega, ?_⟩)); refine hK2 _ ?_; clear hK2 K2)
                refine sxf_nil (hK' _ ?_)
                clear hK' K'
                try simp only [thn, inb]
                refine Again.mk (i + 1) (by omega) (by omega) ?_
                refine Imp.to' (fun _ _ => trivial) (by simp [dNum, dRows, dRow, dInts, hall]) (by simp [dNum, dRows, dRow, dInts, hall])
        · obtain rfl : i = cs.length := by omega
          refine AW_exit (hK4 _ ?_)
          rw [List.take_length]
          cases ha : cs.all (oneB β) with
          | true =>
            have hm : Models cs (bitK V k) := by rw [hβ]; exact models_iff.2 ha
            refine AW_rg (tyOf_good _) [1, 4, 5, 63] [4] (fun _ _ => trivial) fun K' hK' => ?_
            repeat (refine sxf_next fun K2 hK2 => ?_; simp [dNum]; (repeat (refine ⟨by omega, ?_⟩)); refine hK2 _ ?_; clear hK2 K2)
            refine sxf_nil (hK' _ ?_)
            refine AW.st (by simp [dNum]; rfl) ?_
            clear hK' K'
            refine AW_cond true rfl (fun _ => ?_) (fun h => by cases h)
            rw [hyes k (hP ▸ hkP) hm fun j h1 h2 => hmo j h1 (hP ▸ h2)]
            refine AW_rg (tyOf_good _) [1, 5, 12] [4] (fun _ _ => trivial) fun K' hK' => ?_
            repeat (refine sxf_next fun K2 hK2 => ?_; simp [dNum]; (repeat (refine ⟨by omega, ?_⟩)); refine hK2 _ ?_; clear hK2 K2)
            refine sxf_nil (hK' _ ?_)
            refine AW.st (by simp [dNum]; rfl) ?_
            clear hK' K'
            refine AW_then fun K10 hK10 => ?_
            refine AW_rg (tyOf_good _) [1, 5, 12, 13] [4] (fun _ _ => trivial) fun K' hK' => ?_
            repeat (refine sxf_next fun K2 hK2 => ?_; simp [dNum]; (repeat (refine ⟨by omega, ?_⟩)); refine hK2 _ ?_; clear hK2 K2)
            refine sxf_nil (hK' _ ?_)
            refine AW.st (by simp [dNum]; rfl) ?_
            clear hK' K'
            refine AW_for (S := Nat) (fun q => q ≤ V) (fun q => ⟨lst [(1, .d (.ip [dNum V, dRows cs])), (5, .fn (.func 71) [.ref 4 0 0, .d (.ip [dNum V, dRows cs])]), (12, .own 300 0 q), (13, int (q + 1))], hlst [(4, .box 3 [.d (dNum k)]), (300, .sl 4 1 ((List.range q).map fun v => [.v (.bool (bitK V k (v + 1)))]))]⟩) (fun q => V - q) 0 ?_ (by omega) ?_
            · refine (Imp.adopt 12 300 4 1 rfl rfl).trans ?_
              refine Imp.to' (fun _ _ => trivial) (by simp [dNum, dRows]) (by simp [dNum, dRows])
            · intro q hq
              refine AW_then fun K11 hK11 => ?_
              refine AW_rg (tyOf_good _) [1, 5, 12, 13, 67] [4, 300] (fun _ _ => trivial) fun K' hK' => ?_
              repeat (refine sxf_next fun K2 hK2 => ?_; simp [dNum]; (repeat (refine ⟨by omega, ?_⟩)); refine hK2 _ ?_; clear hK2 K2)
              refine sxf_nil (hK' _ ?_)
              refine AW.st (by simp [dNum]; rfl) ?_
              clear hK' K'
              by_cases hqV : q < V
              · have hqI : (q : Int) + 1 ≤ (V : Int) := by omega
                have hvc := hvk (q + 1) (by omega) (by omega)
                have hrs : ∀ g : Nat → List D, (List.range (q + 1)).map g = (List.range q).map g ++ [g q] := fun g => by rw [List.range_succ, List.map_append]; rfl
                have htr : ∀ g : Nat → List D, List.take q ((List.range q).map g) = (List.range q).map g := fun g => List.take_of_length_le (by simp)
                refine AW_cond' (b := true) (by simp [hqI]) (fun _ => ?_) (fun h => absurd rfl h)
                refine AW_skip (hK11 _ ?_)
                refine AW_then fun K12 hK12 => ?_
                refine AW_block ?_
                refine AW_re (tyOf_good _) fun K' hK' => ?_
                repeat (refine sxf_next fun K2 hK2 => ?_; simp [dNum]; (repeat (refine ⟨by omega, ?_⟩)); refine hK2 _ ?_; clear hK2 K2)
                refine sxf_next fun K2 hK2 => ?_
                simp [dNum]
                refine callK.lend (hvc) (by simp [dNum]; rfl) (by first | exact D.leGo_refl _ | simp [takeMap, List.map_map, Function.comp_def, D.le, D.le.go, D.le_refl, D.leGo_refl, dNum]) (by simp [D.scalar, dNum]) ?_
                refine hK2 _ ?_
                clear hK2 K2
                simp only [putd, upd_lst]
                repeat (refine sxf_next fun K2 hK2 => ?_; simp [dNum]; (repeat (refine ⟨by omega, ?_⟩)); refine hK2 _ ?_; clear hK2 K2)
                refine sxf_nil (hK' _ ?_)
                clear hK' K'
                refine hK12 _ (AW.norm [1, 5, 12, 13] [4, 300] (fun _ _ => trivial) (AW.st (by simp [dNum]; rfl) ?_))
                refine AW_re (tyOf_good _) fun K' hK' => ?_
                repeat (refine sxf_next fun K2 hK2 => ?_; simp [dNum]; (repeat (refine ⟨by omega, ?_⟩)); refine hK2 _ ?_; clear hK2 K2)
                refine sxf_nil (hK' _ ?_)
                clear hK' K'
                try simp only [thn, inb]
                refine Again.mk (q + 1) (by omega) (by omega) ?_
                refine Imp.to' (fun _ _ => trivial) (by simp [dNum, dRows, hrs, htr]) (by simp [dNum, dRows, hrs, htr])
              · have hqI : ¬ (q : Int) + 1 ≤ (V : Int) := by omega
                obtain rfl : q = V := by omega
                refine AW_cond' (b := false) (by simp [hqI]) (fun h => by cases h) (fun _ => ?_)
                refine AW_exit (hK10 _ ?_)
                refine AW.imp (Imp.freeze 300 trivial) ?_
                refine AW.st (by simp [dNum]; rfl) ?_
                refine AW_rg (tyOf_good _) [2, 3] [] (fun _ _ => trivial) fun K' hK' => ?_
                repeat (refine sxf_next fun K2 hK2 => ?_; simp [dNum]; (repeat (refine ⟨by omega, ?_⟩)); refine hK2 _ ?_; clear hK2 K2)
                refine sxf_nil (hK' _ ?_)
                refine AW.st (by simp [dNum]; rfl) ?_
                clear hK' K'
                refine AW_ret ?_
                simp [D.le, D.le.go, takeMap, dNum, dVals]
          | false =>
            have hm : ¬ Models cs (bitK V k) := by rw [hβ, models_iff, ha]; decide
            refine AW_rg (tyOf_good _) [1, 4, 5, 63] [4] (fun _ _ => trivial) fun K' hK' => ?_
            repeat (refine sxf_next fun K2 hK2 => ?_; simp [dNum]; (repeat (refine ⟨by omega, ?_⟩)); refine hK2 _ ?_; clear hK2 K2)
            refine sxf_nil (hK' _ ?_)
            refine AW.st (by simp [dNum]; rfl) ?_
            clear hK' K'
            refine AW_cond false rfl (fun h => by cases h) (fun _ => ?_)
            refine AW_skip (hK3 _ ?_)
            refine AW_then fun K13 hK13 => ?_
            refine AW_rg (tyOf_good _) [1, 77] [] (fun _ _ => trivial) fun K' hK' => ?_
            repeat (refine sxf_next fun K2 hK2 => ?_; simp [dNum]; (repeat (refine ⟨by omega, ?_⟩)); refine hK2 _ ?_; clear hK2 K2)
            refine sxf_nil (hK' _ ?_)
            refine AW.st (by simp [dNum]; rfl) ?_
            clear hK' K'
            refine AW_re (tyOf_good _) fun K' hK' => ?_
            repeat (refine sxf_next fun K2 hK2 => ?_; simp [dNum]; (repeat (refine ⟨by omega, ?_⟩)); refine hK2 _ ?_; clear hK2 K2)
            refine sxf_nil (hK' _ ?_)
            clear hK' K'
            refine hK13 _ (AW.norm [1, 4] [4] (fun _ _ => trivial) (AW.st (by simp [dNum]; rfl) ?_))
            refine AW_re (tyOf_good _) fun K' hK' => ?_
            repeat (refine sxf_next fun K2 hK2 => ?_; simp [dNum]; (repeat (refine ⟨by omega, ?_⟩)); refine hK2 _ ?_; clear hK2 K2)
            refine sxf_nil (hK' _ ?_)
            clear hK' K'
            try simp only [thn, inb]
            refine Again.mk k ⟨by omega, fun j h1 h2 => ?_⟩ (by omega) ?_
            · by_cases e : j = k
              · subst e; exact hm
              · exact hmo j (by omega) h2
            refine Imp.to' (fun _ _ => trivial) (by simp [dNum, dRows]) (by simp [dNum, dRows])
#print axioms rsolve_spec
end Go.Proofs.YtoikggboakojlaaDoor

/-
  GateSolves: the first values of which all clauses hold are found by trying all.
-/
namespace Go.Proofs.YtoikggboakojlaaDoor
set_option linter.unusedSimpArgs false
set_option linter.unusedVariables false
open Go.Av

def dBl (l : List Bool) : D := .sl none (l.map fun b => [.v (.bool b)])
theorem takeC_step {l l' : List Bool} {n : Nat} (ht : l.take n = l'.take n) (h : n < l.length) (h' : n < l'.length) (he : l[n] = l'[n]) : l.take (n + 1) = l'.take (n + 1) := by
  rw [List.take_succ_eq_append_getElem h, List.take_succ_eq_append_getElem h', ht, he]
theorem takeC_all {l l' : List Bool} (hl : l.length = l'.length) (ht : l.take l.length = l'.take l.length) : l = l' := by
  rw [List.take_length, hl, List.take_length] at ht
  exact ht

set_option maxHeartbeats 1000000 in
theorem lsameBools_spec (G : Glob) (l l' : List Bool) (h : l.length < 2^63) : PureC Tryd.prog G 33 [dBl l, dBl l'] (.v (.bool (l == l'))) := by
  refine PureC.of_body (tyOf_good _) Tryd.func33 rfl rfl (rs := [.tmp 4]) Tryd.results33 (by simp [Tryd.ntmps33]) fun X => ?_
  simp only [Tryd.ntmps33, List.map]
  refine AW_rg (tyOf_good _) [0, 1] [] (fun _ _ => trivial) fun K' hK' => ?_
  repeat (refine sxf_next fun K2 hK2 => ?_; simp [dNum]; (repeat (refine ⟨by omega, ?_⟩)); refine hK2 _ ?_; clear hK2 K2)
  refine sxf_nil (hK' _ ?_)
  refine AW.st (by simp [dNum]; rfl) ?_
  clear hK' K'
  refine AW_then fun K1 hK1 => ?_
  refine AW_rg (tyOf_good _) [0, 1, 10] [] (fun _ _ => trivial) fun K' hK' => ?_
  repeat (refine sxf_next fun K2 hK2 => ?_; simp [dNum, dBl]; (repeat (refine ⟨by omega, ?_⟩)); refine hK2 _ ?_; clear hK2 K2)
  refine sxf_nil (hK' _ ?_)
  refine AW.st (by simp [dNum, dBl]; rfl) ?_
  clear hK' K'
  refine AW_cond' (b := l.length ≠ l'.length) (by simp [D.le, D.le.go, takeMap, dNum]) (fun hc => ?_) (fun hc => ?_)
  · refine AW_rg (tyOf_good _) [4] [] (fun _ _ => trivial) fun K' hK' => ?_
    repeat (refine sxf_next fun K2 hK2 => ?_; simp [dNum]; (repeat (refine ⟨by omega, ?_⟩)); refine hK2 _ ?_; clear hK2 K2)
    refine sxf_nil (hK' _ ?_)
    refine AW.st (by simp [dNum]; rfl) ?_
    clear hK' K'
    refine AW_ret ?_
    simp [D.le, D.le.go, takeMap, dNum]
    intro e; subst e; simp at hc
  · refine AW_skip (hK1 _ ?_)
    have hl : l.length = l'.length := by simpa using hc
    refine AW_then fun K2 hK2 => ?_
    refine AW_rg (tyOf_good _) [0, 1, 5] [] (fun _ _ => trivial) fun K' hK' => ?_
    repeat (refine sxf_next fun K2 hK2 => ?_; simp [dNum, dBl]; (repeat (refine ⟨by omega, ?_⟩)); refine hK2 _ ?_; clear hK2 K2)
    refine sxf_nil (hK' _ ?_)
    refine AW.st (by simp [dNum, dBl]; rfl) ?_
    clear hK' K'
    refine AW_for (S := Nat) (fun n => n ≤ l.length ∧ l.take n = l'.take n) (fun n => ⟨lst [(0, .d (dBl l)), (1, .d (dBl l')), (5, int n)], hlst []⟩) (fun n => l.length - n) 0 ?_ (by simp) ?_
    · refine Imp.to' (fun _ _ => trivial) (by simp [dNum, dBl]) (by simp [dNum, dBl])
    · rintro n ⟨hn, ht⟩
      refine AW_then fun K3 hK3 => ?_
      refine AW_rg (tyOf_good _) [0, 1, 5, 14] [] (fun _ _ => trivial) fun K' hK' => ?_
      repeat (refine sxf_next fun K2 hK2 => ?_; simp [dNum, dBl]; (repeat (refine ⟨by omega, ?_⟩)); refine hK2 _ ?_; clear hK2 K2)
      refine sxf_nil (hK' _ ?_)
      refine AW.st (by simp [dNum, dBl]; rfl) ?_
      clear hK' K'
      refine AW_cond' (b := n < l.length) (by simp [D.le, D.le.go, takeMap, dNum]) (fun hc => ?_) (fun hc => ?_)
      · refine AW_skip (hK3 _ ?_)
        refine AW_then fun K4 hK4 => ?_
        refine AW_block ?_
        have hnl : n < l.length := hc
        have hn' : n < l'.length := by omega
        cases he : (l[n] == l'[n]) with
        | false =>
          refine AW_rd (tyOf_good _) (by kernel_rfl) [0, 1, 5, 25] [] (fun _ _ => trivial) (by kernel_rfl) fun K' hK' => ?_
          repeat (refine sxd_next fun K2 hK2 => ?_; simp [dNum, dBl, hnl, hn', he]; (repeat (refine ⟨by omega, ?_⟩)); refine hK2 _ ?_; clear hK2 K2)
          refine sxd_nil (hK' _ ?_)
          refine AW.st (by simp [dNum, dBl, hnl, hn', he]; rfl) ?_
          clear hK' K'
          refine AW_cond true rfl (fun _ => ?_) (fun h => by cases h)
          refine AW_rg (tyOf_good _) [4] [] (fun _ _ => trivial) fun K' hK' => ?_
          repeat (refine sxf_next fun K2 hK2 => ?_; simp [dNum]; (repeat (refine ⟨by omega, ?_⟩)); refine hK2 _ ?_; clear hK2 K2)
          refine sxf_nil (hK' _ ?_)
          refine AW.st (by simp [dNum]; rfl) ?_
          clear hK' K'
          refine AW_ret ?_
          simp [D.le, D.le.go, takeMap, dNum]
          intro e; subst e; simp at he
        | true =>
          have he2 : l[n] = l'[n] := by simpa using he
          refine AW_rd (tyOf_good _) (by kernel_rfl) [0, 1, 5, 25] [] (fun _ _ => trivial) (by kernel_rfl) fun K' hK' => ?_
          repeat (refine sxd_next fun K2 hK2 => ?_; simp [dNum, dBl, hnl, hn', he2]; (repeat (refine ⟨by omega, ?_⟩)); refine hK2 _ ?_; clear hK2 K2)
          refine sxd_nil (hK' _ ?_)
          refine AW.st (by simp [dNum, dBl, hnl, hn', he2]; rfl) ?_
          clear hK' K'
          refine AW_cond false rfl (fun h => by cases h) (fun _ => ?_)
          refine AW_skip ?_
          refine hK4 _ (AW.norm [0, 1, 5] [] (fun _ _ => trivial) (AW.st (by simp [dNum]; rfl) ?_))
          refine AW_re (tyOf_good _) fun K' hK' => ?_
          repeat (refine sxf_next fun K2 hK2 => ?_; simp [dNum]; (repeat (refine ⟨by omega, ?_⟩)); refine hK2 _ ?_; clear hK2 K2)
          refine sxf_nil (hK' _ ?_)
          clear hK' K'
          try simp only [thn, inb]
          refine Again.mk (n + 1) ⟨by omega, takeC_step ht hnl hn' he2⟩ (by omega) ?_
          refine Imp.to' (fun _ _ => trivial) (by simp [dNum, dBl]) (by simp [dNum, dBl])
      · refine AW_exit (hK2 _ ?_)
        refine AW_rg (tyOf_good _) [4] [] (fun _ _ => trivial) fun K' hK' => ?_
        repeat (refine sxf_next fun K2 hK2 => ?_; simp [dNum]; (repeat (refine ⟨by omega, ?_⟩)); refine hK2 _ ?_; clear hK2 K2)
        refine sxf_nil (hK' _ ?_)
        refine AW.st (by simp [dNum]; rfl) ?_
        clear hK' K'
        refine AW_ret ?_
        simp [D.le, D.le.go, takeMap, dNum]
        have hnn : n = l.length := by omega
        subst hnn
        exact takeC_all hl ht


theorem gbad_code {V : Int} : ∀ {cs : Cl} {i : Nat} {e : Int × Option Nat}, gbad V cs i = some e → e.1 = 2
  | [], _, _, h => by simp [gbad] at h
  | c :: cs, i, e, h => by
    rw [gbad] at h
    split at h
    · obtain rfl := Option.some.inj h; rfl
    · exact gbad_code h
theorem gbad_ok {V : Int} : ∀ {cs : Cl} {i : Nat}, gbad V cs i = none → ∀ c ∈ cs, ∀ x ∈ c, badL V x = false
  | [], _, _, c, hc => by simp at hc
  | d :: cs, i, h, c, hc => by
    rw [gbad] at h
    by_cases hd : d.any (badL V) = true
    · rw [if_pos hd] at h; cases h
    · rw [if_neg hd] at h
      rcases List.mem_cons.1 hc with rfl | hc
      · intro x hx
        cases hb : badL V x with
        | false => rfl
        | true => exact absurd (List.any_eq_true.2 ⟨x, hx, hb⟩) hd
      · exact gbad_ok h c hc
theorem gateE_code {V : Int} {cs : Cl} {e : Int × Option Nat} (h : gateE V cs = some e) : ¬ codeF (some e) = 0 := by
  unfold gateE at h
  have : e.1 = 4 ∨ e.1 = 2 := by
    split at h
    · obtain rfl := Option.some.inj h; exact .inl rfl
    · exact .inr (gbad_code h)
  obtain ⟨c, s⟩ := e
  dsimp only at this
  rcases this with rfl | rfl <;> simp [codeF]
theorem gateE_ok {V : Int} {cs : Cl} (h : gateE V cs = none) : 0 ≤ V ∧ V ≤ 1000 ∧ OkC V.toNat cs := by
  unfold gateE at h
  split at h
  · cases h
  · rename_i hn
    refine ⟨by omega, by omega, fun c hc x hx => ?_⟩
    have := gbad_ok h c hc x hx
    unfold badL at this
    simp only [Bool.or_eq_false_iff, decide_eq_false_iff_not] at this
    omega

def sumL (cs : Cl) (i : Nat) : Nat := ((cs.take i).map List.length).sum
theorem sumL_succ {cs : Cl} {i : Nat} (h : i < cs.length) : sumL cs (i + 1) = sumL cs i + cs[i].length := by
  unfold sumL
  rw [List.take_succ_eq_append_getElem h, List.map_append, List.sum_append]
  simp
theorem sumL_le {cs : Cl} {B : Nat} (hr : ∀ c ∈ cs, c.length ≤ B) : ∀ i, i ≤ cs.length → sumL cs i ≤ i * B
  | 0, _ => by simp [sumL]
  | i + 1, h => by
    have ih := sumL_le hr i (by omega)
    have h1 := hr _ (List.getElem_mem (show i < cs.length by omega))
    rw [sumL_succ (by omega), Nat.add_mul]
    omega

set_option maxHeartbeats 8000000 in
theorem solves_spec (G : Glob) (hG : HasErr G) (hF : HasFine G) (V : Int) (cs : Cl) (hl : cs.length < 2^60) (hr : ∀ c ∈ cs, c.length ≤ 2^47) : PureC Tryd.prog G 6 [dNum V, dRows cs] (.v (.bool true)) := by
  by_cases h1 : (60 : Int) < cs.length ∧ (cs.length : Int) ≤ 3000
  · obtain ⟨h1, h1'⟩ := h1
    refine PureC.of_body (tyOf_good _) Tryd.func6 rfl rfl (rs := [.tmp 4]) Tryd.results6 (by simp [Tryd.ntmps6]) fun X => ?_
    simp only [Tryd.ntmps6, List.map]
    refine AW_rg (tyOf_good _) [0, 1] [] (fun _ _ => trivial) fun K' hK' => ?_
    repeat (refine sxf_next fun K2 hK2 => ?_; simp [dNum]; (repeat (refine ⟨by omega, ?_⟩)); refine hK2 _ ?_; clear hK2 K2)
    refine sxf_nil (hK' _ ?_)
    refine AW.st (by simp [dNum]; rfl) ?_
    clear hK' K'
    refine AW_then fun K1 hK1 => ?_
    refine AW_rg (tyOf_good _) [0, 1, 33] [] (fun _ _ => trivial) fun K' hK' => ?_
    repeat (refine sxf_next fun K2 hK2 => ?_; simp [dNum, dRows, h1, h1']; (repeat (refine ⟨by omega, ?_⟩)); refine hK2 _ ?_; clear hK2 K2)
    refine sxf_nil (hK' _ ?_)
    refine AW.st (by simp [dNum, dRows, h1, h1']; rfl) ?_
    clear hK' K'
    refine AW_cond true rfl (fun _ => ?_) (fun h => by cases h)
    refine AW_rg (tyOf_good _) [4] [] (fun _ _ => trivial) fun K' hK' => ?_
    repeat (refine sxf_next fun K2 hK2 => ?_; simp [dNum]; (repeat (refine ⟨by omega, ?_⟩)); refine hK2 _ ?_; clear hK2 K2)
    refine sxf_nil (hK' _ ?_)
    refine AW.st (by simp [dNum]; rfl) ?_
    clear hK' K'
    refine AW_ret ?_
    simp [D.le, D.le.go, takeMap, dNum]
  by_cases h2 : (3100 : Int) < cs.length
  · have h1' : ¬ (cs.length : Int) ≤ 3000 := by omega
    have h1 : (60 : Int) < cs.length := by omega
    refine PureC.of_body (tyOf_good _) Tryd.func6 rfl rfl (rs := [.tmp 4]) Tryd.results6 (by simp [Tryd.ntmps6]) fun X => ?_
    simp only [Tryd.ntmps6, List.map]
    refine AW_rg (tyOf_good _) [0, 1] [] (fun _ _ => trivial) fun K' hK' => ?_
    repeat (refine sxf_next fun K2 hK2 => ?_; simp [dNum]; (repeat (refine ⟨by omega, ?_⟩)); refine hK2 _ ?_; clear hK2 K2)
    refine sxf_nil (hK' _ ?_)
    refine AW.st (by simp [dNum]; rfl) ?_
    clear hK' K'
    refine AW_then fun K1 hK1 => ?_
    refine AW_rg (tyOf_good _) [0, 1, 33] [] (fun _ _ => trivial) fun K' hK' => ?_
    repeat (refine sxf_next fun K2 hK2 => ?_; simp [dNum, dRows, h1, h1', h2]; (repeat (refine ⟨by omega, ?_⟩)); refine hK2 _ ?_; clear hK2 K2)
    refine sxf_nil (hK' _ ?_)
    refine AW.st (by simp [dNum, dRows, h1, h1', h2]; rfl) ?_
    clear hK' K'
    refine AW_cond true rfl (fun _ => ?_) (fun h => by cases h)
    refine AW_rg (tyOf_good _) [4] [] (fun _ _ => trivial) fun K' hK' => ?_
    repeat (refine sxf_next fun K2 hK2 => ?_; simp [dNum]; (repeat (refine ⟨by omega, ?_⟩)); refine hK2 _ ?_; clear hK2 K2)
    refine sxf_nil (hK' _ ?_)
    refine AW.st (by simp [dNum]; rfl) ?_
    clear hK' K'
    refine AW_ret ?_
    simp [D.le, D.le.go, takeMap, dNum]
  by_cases h3 : 8 < V ∧ V ≤ 1000
  · obtain ⟨h3, h3'⟩ := h3
    by_cases h4 : (60 : Int) < cs.length
    · have h1' : ¬ (cs.length : Int) ≤ 3000 := by omega
      refine PureC.of_body (tyOf_good _) Tryd.func6 rfl rfl (rs := [.tmp 4]) Tryd.results6 (by simp [Tryd.ntmps6]) fun X => ?_
      simp only [Tryd.ntmps6, List.map]
      refine AW_rg (tyOf_good _) [0, 1] [] (fun _ _ => trivial) fun K' hK' => ?_
      repeat (refine sxf_next fun K2 hK2 => ?_; simp [dNum]; (repeat (refine ⟨by omega, ?_⟩)); refine hK2 _ ?_; clear hK2 K2)
      refine sxf_nil (hK' _ ?_)
      refine AW.st (by simp [dNum]; rfl) ?_
      clear hK' K'
      refine AW_then fun K1 hK1 => ?_
      refine AW_rg (tyOf_good _) [0, 1, 33] [] (fun _ _ => trivial) fun K' hK' => ?_
      repeat (refine sxf_next fun K2 hK2 => ?_; simp [dNum, dRows, h4, h1', h2, h3, h3']; (repeat (refine ⟨by omega, ?_⟩)); refine hK2 _ ?_; clear hK2 K2)
      refine sxf_nil (hK' _ ?_)
      refine AW.st (by simp [dNum, dRows, h4, h1', h2, h3, h3']; rfl) ?_
      clear hK' K'
      refine AW_cond true rfl (fun _ => ?_) (fun h => by cases h)
      refine AW_rg (tyOf_good _) [4] [] (fun _ _ => trivial) fun K' hK' => ?_
      repeat (refine sxf_next fun K2 hK2 => ?_; simp [dNum]; (repeat (refine ⟨by omega, ?_⟩)); refine hK2 _ ?_; clear hK2 K2)
      refine sxf_nil (hK' _ ?_)
      refine AW.st (by simp [dNum]; rfl) ?_
      clear hK' K'
      refine AW_ret ?_
      simp [D.le, D.le.go, takeMap, dNum]
    · refine PureC.of_body (tyOf_good _) Tryd.func6 rfl rfl (rs := [.tmp 4]) Tryd.results6 (by simp [Tryd.ntmps6]) fun X => ?_
      simp only [Tryd.ntmps6, List.map]
      refine AW_rg (tyOf_good _) [0, 1] [] (fun _ _ => trivial) fun K' hK' => ?_
      repeat (refine sxf_next fun K2 hK2 => ?_; simp [dNum]; (repeat (refine ⟨by omega, ?_⟩)); refine hK2 _ ?_; clear hK2 K2)
      refine sxf_nil (hK' _ ?_)
      refine AW.st (by simp [dNum]; rfl) ?_
      clear hK' K'
      refine AW_then fun K1 hK1 => ?_
      refine AW_rg (tyOf_good _) [0, 1, 33] [] (fun _ _ => trivial) fun K' hK' => ?_
      repeat (refine sxf_next fun K2 hK2 => ?_; simp [dNum, dRows, h4, h2, h3, h3']; (repeat (refine ⟨by omega, ?_⟩)); refine hK2 _ ?_; clear hK2 K2)
      refine sxf_nil (hK' _ ?_)
      refine AW.st (by simp [dNum, dRows, h4, h2, h3, h3']; rfl) ?_
      clear hK' K'
      refine AW_cond true rfl (fun _ => ?_) (fun h => by cases h)
      refine AW_rg (tyOf_good _) [4] [] (fun _ _ => trivial) fun K' hK' => ?_
      repeat (refine sxf_next fun K2 hK2 => ?_; simp [dNum]; (repeat (refine ⟨by omega, ?_⟩)); refine hK2 _ ?_; clear hK2 K2)
      refine sxf_nil (hK' _ ?_)
      refine AW.st (by simp [dNum]; rfl) ?_
      clear hK' K'
      refine AW_ret ?_
      simp [D.le, D.le.go, takeMap, dNum]
  have hsum := sumL_le hr
  have hr60 : ∀ c ∈ cs, c.length < 2^60 := fun c hc => by have := hr c hc; omega
  have hlc : cs.length ≤ 3100 := by omega
  have hcheck := gcheck_spec G V cs hl hr60
  have hrcheck := rgcheck_spec G hF V cs hl hr60
  refine PureC.of_body (tyOf_good _) Tryd.func6 rfl rfl (rs := [.tmp 4]) Tryd.results6 (by simp [Tryd.ntmps6]) fun X => ?_
  simp only [Tryd.ntmps6, List.map]
  refine AW_rg (tyOf_good _) [0, 1] [] (fun _ _ => trivial) fun K' hK' => ?_
  repeat (refine sxf_next fun K2 hK2 => ?_; simp [dNum]; (repeat (refine ⟨by omega, ?_⟩)); refine hK2 _ ?_; clear hK2 K2)
  refine sxf_nil (hK' _ ?_)
  refine AW.st (by simp [dNum]; rfl) ?_
  clear hK' K'
  refine AW_then fun K1 hK1 => ?_
  refine (fun hcont => ?_) (fun (σ : St) himp => hK1 σ (AW.imp (τ := ⟨lst [(0, int V), (1, .d (dRows cs))], hlst []⟩) himp ?_))
  · by_cases h4 : (60 : Int) < cs.length
    · have h1' : ¬ (cs.length : Int) ≤ 3000 := fun h => h1 ⟨h4, h⟩
      by_cases h5 : 8 < V
      · have h6 : ¬ V ≤ 1000 := fun h => h3 ⟨h5, h⟩
        refine AW_rg (tyOf_good _) [0, 1, 33] [] (fun _ _ => trivial) fun K' hK' => ?_
        repeat (refine sxf_next fun K2 hK2 => ?_; simp [dNum, dRows, h4, h1', h2, h5, h6]; (repeat (refine ⟨by omega, ?_⟩)); refine hK2 _ ?_; clear hK2 K2)
        refine sxf_nil (hK' _ ?_)
        refine AW.st (by simp [dNum, dRows, h4, h1', h2, h5, h6]; rfl) ?_
        clear hK' K'
        refine AW_cond false rfl (fun h => by cases h) (fun _ => ?_)
        refine AW_skip (hcont _ ?_)
        refine Imp.to' (fun _ _ => trivial) (by simp [dNum, dRows]) (by simp [dNum, dRows])
      · refine AW_rg (tyOf_good _) [0, 1, 33] [] (fun _ _ => trivial) fun K' hK' => ?_
        repeat (refine sxf_next fun K2 hK2 => ?_; simp [dNum, dRows, h4, h1', h2, h5]; (repeat (refine ⟨by omega, ?_⟩)); refine hK2 _ ?_; clear hK2 K2)
        refine sxf_nil (hK' _ ?_)
        refine AW.st (by simp [dNum, dRows, h4, h1', h2, h5]; rfl) ?_
        clear hK' K'
        refine AW_cond false rfl (fun h => by cases h) (fun _ => ?_)
        refine AW_skip (hcont _ ?_)
        refine Imp.to' (fun _ _ => trivial) (by simp [dNum, dRows]) (by simp [dNum, dRows])
    · by_cases h5 : 8 < V
      · have h6 : ¬ V ≤ 1000 := fun h => h3 ⟨h5, h⟩
        refine AW_rg (tyOf_good _) [0, 1, 33] [] (fun _ _ => trivial) fun K' hK' => ?_
        repeat (refine sxf_next fun K2 hK2 => ?_; simp [dNum, dRows, h4, h2, h5, h6]; (repeat (refine ⟨by omega, ?_⟩)); refine hK2 _ ?_; clear hK2 K2)
        refine sxf_nil (hK' _ ?_)
        refine AW.st (by simp [dNum, dRows, h4, h2, h5, h6]; rfl) ?_
        clear hK' K'
        refine AW_cond false rfl (fun h => by cases h) (fun _ => ?_)
        refine AW_skip (hcont _ ?_)
        refine Imp.to' (fun _ _ => trivial) (by simp [dNum, dRows]) (by simp [dNum, dRows])
      · refine AW_rg (tyOf_good _) [0, 1, 33] [] (fun _ _ => trivial) fun K' hK' => ?_
        repeat (refine sxf_next fun K2 hK2 => ?_; simp [dNum, dRows, h4, h2, h5]; (repeat (refine ⟨by omega, ?_⟩)); refine hK2 _ ?_; clear hK2 K2)
        refine sxf_nil (hK' _ ?_)
        refine AW.st (by simp [dNum, dRows, h4, h2, h5]; rfl) ?_
        clear hK' K'
        refine AW_cond false rfl (fun h => by cases h) (fun _ => ?_)
        refine AW_skip (hcont _ ?_)
        refine Imp.to' (fun _ _ => trivial) (by simp [dNum, dRows]) (by simp [dNum, dRows])
  · refine AW_rg (tyOf_good _) [0, 1, 5] [] (fun _ _ => trivial) fun K' hK' => ?_
    repeat (refine sxf_next fun K2 hK2 => ?_; simp [dNum]; (repeat (refine ⟨by omega, ?_⟩)); refine hK2 _ ?_; clear hK2 K2)
    refine sxf_nil (hK' _ ?_)
    refine AW.st (by simp [dNum]; rfl) ?_
    clear hK' K'
    refine AW_then fun K2 hK2 => ?_
    refine AW_rg (tyOf_good _) [0, 1, 5, 6] [] (fun _ _ => trivial) fun K' hK' => ?_
    repeat (refine sxf_next fun K2 hK2 => ?_; simp [dNum]; (repeat (refine ⟨by omega, ?_⟩)); refine hK2 _ ?_; clear hK2 K2)
    refine sxf_nil (hK' _ ?_)
    refine AW.st (by simp [dNum]; rfl) ?_
    clear hK' K'
    refine AW_for (S := Nat) (fun i => i ≤ cs.length) (fun i => ⟨lst [(0, int V), (1, .d (dRows cs)), (5, int (sumL cs i)), (6, int i)], hlst []⟩) (fun i => cs.length - i) 0 ?_ (by omega) ?_
    · refine Imp.to' (fun _ _ => trivial) (by simp [dNum, sumL, dRows]) (by simp [dNum, sumL, dRows])
    · intro i hi
      refine AW_then fun K3 hK3 => ?_
      refine AW_rg (tyOf_good _) [0, 1, 5, 6, 37] [] (fun _ _ => trivial) fun K' hK' => ?_
      repeat (refine sxf_next fun K2 hK2 => ?_; simp [dNum, dRows]; (repeat (refine ⟨by omega, ?_⟩)); refine hK2 _ ?_; clear hK2 K2)
      refine sxf_nil (hK' _ ?_)
      refine AW.st (by simp [dNum, dRows]; rfl) ?_
      clear hK' K'
      refine AW_cond' (b := i < cs.length) (by simp [D.le, D.le.go, takeMap, dNum]) (fun hc => ?_) (fun hc => ?_)
      · have hil : i < cs.length := hc
        have hs := hsum i hi
        have hs2 := sumL_succ hil
        have hb := hr _ (List.getElem_mem hil)
        have hi3 : i * 2^47 ≤ 3100 * 2^47 := Nat.mul_le_mul (by omega) (Nat.le_refl _)
        refine AW_skip (hK3 _ ?_)
        refine AW_then fun K4 hK4 => ?_
        refine AW_block ?_
        refine AW_re (tyOf_good _) fun K' hK' => ?_
        repeat (refine sxf_next fun K2 hK2 => ?_; simp [dNum, dRows, dRow, dInts, hil]; (repeat (refine ⟨by omega, ?_⟩)); refine hK2 _ ?_; clear hK2 K2)
        refine sxf_nil (hK' _ ?_)
        clear hK' K'
        refine hK4 _ (AW.norm [0, 1, 5, 6] [] (fun _ _ => trivial) (AW.st (by simp [dNum, dRows, dRow, dInts, hil]; rfl) ?_))
        refine AW_re (tyOf_good _) fun K' hK' => ?_
        repeat (refine sxf_next fun K2 hK2 => ?_; simp [dNum]; (repeat (refine ⟨by omega, ?_⟩)); refine hK2 _ ?_; clear hK2 K2)
        refine sxf_nil (hK' _ ?_)
        clear hK' K'
        try simp only [thn, inb]
        refine Again.mk (i + 1) (by omega) (by omega) ?_
        refine Imp.to' (fun _ _ => trivial) (by simp [dNum, dRows, dRow, dInts, hs2]) (by simp [dNum, dRows, dRow, dInts, hs2])
      · obtain rfl : i = cs.length := by omega
        refine AW_exit (hK2 _ ?_)
        refine AW_then fun K5 hK5 => ?_
        generalize sumL cs cs.length = n
        by_cases hn : (400 : Int) < n
        · refine AW_rg (tyOf_good _) [0, 1, 48] [] (fun _ _ => trivial) fun K' hK' => ?_
          repeat (refine sxf_next fun K2 hK2 => ?_; simp [dNum, hn]; (repeat (refine ⟨by omega, ?_⟩)); refine hK2 _ ?_; clear hK2 K2)
          refine sxf_nil (hK' _ ?_)
          refine AW.st (by simp [dNum, hn]; rfl) ?_
          clear hK' K'
          refine AW_cond true rfl (fun _ => ?_) (fun h => by cases h)
          refine AW_rg (tyOf_good _) [4] [] (fun _ _ => trivial) fun K' hK' => ?_
          repeat (refine sxf_next fun K2 hK2 => ?_; simp [dNum]; (repeat (refine ⟨by omega, ?_⟩)); refine hK2 _ ?_; clear hK2 K2)
          refine sxf_nil (hK' _ ?_)
          refine AW.st (by simp [dNum]; rfl) ?_
          clear hK' K'
          refine AW_ret ?_
          simp [D.le, D.le.go, takeMap, dNum]
        refine AW_rg (tyOf_good _) [0, 1, 48] [] (fun _ _ => trivial) fun K' hK' => ?_
        repeat (refine sxf_next fun K2 hK2 => ?_; simp [dNum, hn]; (repeat (refine ⟨by omega, ?_⟩)); refine hK2 _ ?_; clear hK2 K2)
        refine sxf_nil (hK' _ ?_)
        refine AW.st (by simp [dNum, hn]; rfl) ?_
        clear hK' K'
        refine AW_cond false rfl (fun h => by cases h) (fun _ => ?_)
        refine AW_skip (hK5 _ ?_)
        cases he : gateE V cs with
        | some e =>
          have hat := at_same G hG (some e)
          have hne := gateE_code he
          have hsb := Solve_bad G V cs hl hr60 e he
          rw [he] at hcheck hrcheck
          unfold dFault at hat hrcheck
          refine AW_rg (tyOf_good _) [0, 1, 7] [7] (fun _ _ => trivial) fun K' hK' => ?_
          repeat (refine sxf_next fun K2 hK2 => ?_; simp [dNum, dCl, dRows]; (repeat (refine ⟨by omega, ?_⟩)); refine hK2 _ ?_; clear hK2 K2)
          refine sxf_next fun K2 hK2 => ?_
          simp [dNum, dCl, dRows]
          refine callK.data (hrcheck) (by simp; rfl) (by first | exact D.leGo_refl _ | simp [takeMap, List.map_map, Function.comp_def, D.le, D.le.go, D.le_refl, D.leGo_refl, dNum, dCl, dRows]) ?_
          refine hK2 _ ?_
          clear hK2 K2
          simp only [putd, upd_lst]
          repeat (refine sxf_next fun K2 hK2 => ?_; simp [dNum, dCl, dRows]; (repeat (refine ⟨by omega, ?_⟩)); refine hK2 _ ?_; clear hK2 K2)
          refine sxf_nil (hK' _ ?_)
          refine AW.st (by simp [dNum, dCl, dRows]; rfl) ?_
          clear hK' K'
          refine AW_rg (tyOf_good _) [0, 1, 7, 8] [7, 8] (fun _ _ => trivial) fun K' hK' => ?_
          repeat (refine sxf_next fun K2 hK2 => ?_; simp [dNum]; (repeat (refine ⟨by omega, ?_⟩)); refine hK2 _ ?_; clear hK2 K2)
          refine sxf_nil (hK' _ ?_)
          refine AW.st (by simp [dNum]; rfl) ?_
          clear hK' K'
          refine AW.imp (Imp.freezeB 8 trivial) ?_
          refine AW.st (by simp [dNum]; rfl) ?_
          refine AW_rg (tyOf_good _) [0, 1, 7, 8, 9, 10] [7] (fun _ _ => trivial) fun K' hK' => ?_
          repeat (refine sxf_next fun K2 hK2 => ?_; simp [dNum, dCl, dRows]; (repeat (refine ⟨by omega, ?_⟩)); refine hK2 _ ?_; clear hK2 K2)
          refine sxf_next fun K2 hK2 => ?_
          simp [dNum, dCl, dRows]
          refine callK.data (hsb) (by simp; rfl) (by first | exact D.leGo_refl _ | simp [takeMap, List.map_map, Function.comp_def, D.le, D.le.go, D.le_refl, D.leGo_refl, dNum, dCl, dRows]) ?_
          refine hK2 _ ?_
          clear hK2 K2
          simp only [putd, upd_lst]
          repeat (refine sxf_next fun K2 hK2 => ?_; simp [dNum, dCl, dRows]; (repeat (refine ⟨by omega, ?_⟩)); refine hK2 _ ?_; clear hK2 K2)
          refine sxf_nil (hK' _ ?_)
          refine AW.st (by simp [dNum, dCl, dRows]; rfl) ?_
          clear hK' K'
          refine AW.imp (Imp.freezeB 7 trivial) ?_
          refine AW.st (by simp [dNum]; rfl) ?_
          refine AW_then fun K6 hK6 => ?_
          refine AW_rd (tyOf_good _) (by kernel_rfl) [0, 1, 7, 9, 10, 65] [] (fun _ _ => trivial) (by kernel_rfl) fun K' hK' => ?_
          repeat (refine sxd_next fun K2 hK2 => ?_; simp [dNum, dCl, dRows]; (repeat (refine ⟨by omega, ?_⟩)); refine hK2 _ ?_; clear hK2 K2)
          refine sxd_next fun K2 hK2 => ?_
          simp [dNum, dCl, dRows]
          refine callQ.data (hcheck) (by simp; rfl) (by simp; rfl) (by first | exact D.leGo_refl _ | simp [takeMap, List.map_map, Function.comp_def, D.le, D.le.go, D.le_refl, D.leGo_refl, dNum, dCl, dRows]) ?_
          refine hK2 _ ?_
          clear hK2 K2
          simp only [putd, upd_lst]
          repeat (refine sxd_next fun K2 hK2 => ?_; simp [dNum, dCl, dRows]; (repeat (refine ⟨by omega, ?_⟩)); refine hK2 _ ?_; clear hK2 K2)
          refine sxd_next fun K2 hK2 => ?_
          simp [dNum, dCl, dRows]
          refine callQ.data (hat) (by simp; rfl) (by simp; rfl) (by first | exact D.leGo_refl _ | simp [takeMap, List.map_map, Function.comp_def, D.le, D.le.go, D.le_refl, D.leGo_refl, dNum, dCl, dRows]) ?_
          refine hK2 _ ?_
          clear hK2 K2
          simp only [putd, upd_lst]
          repeat (refine sxd_next fun K2 hK2 => ?_; simp [dNum, dCl, dRows]; (repeat (refine ⟨by omega, ?_⟩)); refine hK2 _ ?_; clear hK2 K2)
          refine sxd_nil (hK' _ ?_)
          refine AW.st (by simp [dNum, dCl, dRows]; rfl) ?_
          clear hK' K'
          refine AW_cond false rfl (fun h => by cases h) (fun _ => ?_)
          refine AW_skip (hK6 _ ?_)
          refine AW_then fun K7 hK7 => ?_
          refine AW_rg (tyOf_good _) [0, 1, 7, 9, 10, 68] [] (fun _ _ => trivial) fun K' hK' => ?_
          repeat (refine sxf_next fun K2 hK2 => ?_; simp [dNum, hne]; (repeat (refine ⟨by omega, ?_⟩)); refine hK2 _ ?_; clear hK2 K2)
          refine sxf_nil (hK' _ ?_)
          refine AW.st (by simp [dNum, hne]; rfl) ?_
          clear hK' K'
          refine AW_cond true rfl (fun _ => ?_) (fun h => by cases h)
          refine AW_rg (tyOf_good _) [4] [] (fun _ _ => trivial) fun K' hK' => ?_
          repeat (refine sxf_next fun K2 hK2 => ?_; simp [dNum]; (repeat (refine ⟨by omega, ?_⟩)); refine hK2 _ ?_; clear hK2 K2)
          refine sxf_next fun K2 hK2 => ?_
          simp [dNum]
          refine callK.data (hat) (by simp; rfl) (by first | exact D.leGo_refl _ | simp [takeMap, List.map_map, Function.comp_def, D.le, D.le.go, D.le_refl, D.leGo_refl, dNum]) ?_
          refine hK2 _ ?_
          clear hK2 K2
          simp only [putd, upd_lst]
          repeat (refine sxf_next fun K2 hK2 => ?_; simp [dNum]; (repeat (refine ⟨by omega, ?_⟩)); refine hK2 _ ?_; clear hK2 K2)
          refine sxf_nil (hK' _ ?_)
          refine AW.st (by simp [dNum]; rfl) ?_
          clear hK' K'
          refine AW_ret ?_
          simp [D.le, D.le.go, takeMap, dNum]
        | none =>
          obtain ⟨hV0, hV1, ok⟩ := gateE_ok he
          obtain ⟨W, rfl⟩ := Int.eq_ofNat_of_zero_le hV0
          have hW8 : W ≤ 8 := by omega
          have ok : OkC W cs := ok
          have hat := at_same G hG none
          have hsg := Solve_good G W hW8 cs hl hr60 ok he
          obtain ⟨law1, law2⟩ := solve_law ok
          rw [he] at hcheck hrcheck
          unfold dFault at hat hrcheck
          generalize searchF cs W (W + 1) [] 0 = S at hsg law1 law2
          obtain ⟨Sb, Str, Sk⟩ := S
          dsimp only at hsg law1 law2
          cases Sb with
          | false =>
            rw [if_neg (by decide)] at hsg
            have hno := law2 rfl
            have hrs := rsolve_spec G W hW8 cs hl hr60 ok (.tup [.sl (some false) [], .v (.bool false)]) (fun K hK hm _ => absurd hm (hno K)) (fun _ => rfl)
            have hb8 := bare_spec G hG 8
            rw [show errOf 8 = some (8, none) from rfl] at hb8
            refine AW_rg (tyOf_good _) [0, 1, 7] [7] (fun _ _ => trivial) fun K' hK' => ?_
            repeat (refine sxf_next fun K2 hK2 => ?_; simp [dNum, dCl, dRows]; (repeat (refine ⟨by omega, ?_⟩)); refine hK2 _ ?_; clear hK2 K2)
            refine sxf_next fun K2 hK2 => ?_
            simp [dNum, dCl, dRows]
            refine callK.data (hrcheck) (by simp; rfl) (by first | exact D.leGo_refl _ | simp [takeMap, List.map_map, Function.comp_def, D.le, D.le.go, D.le_refl, D.leGo_refl, dNum, dCl, dRows]) ?_
            refine hK2 _ ?_
            clear hK2 K2
            simp only [putd, upd_lst]
            repeat (refine sxf_next fun K2 hK2 => ?_; simp [dNum, dCl, dRows]; (repeat (refine ⟨by omega, ?_⟩)); refine hK2 _ ?_; clear hK2 K2)
            refine sxf_nil (hK' _ ?_)
            refine AW.st (by simp [dNum, dCl, dRows]; rfl) ?_
            clear hK' K'
            refine AW_rg (tyOf_good _) [0, 1, 7, 8] [7, 8] (fun _ _ => trivial) fun K' hK' => ?_
            repeat (refine sxf_next fun K2 hK2 => ?_; simp [dNum]; (repeat (refine ⟨by omega, ?_⟩)); refine hK2 _ ?_; clear hK2 K2)
            refine sxf_nil (hK' _ ?_)
            refine AW.st (by simp [dNum]; rfl) ?_
            clear hK' K'
            refine AW.imp (Imp.freezeB 8 trivial) ?_
            refine AW.st (by simp [dNum]; rfl) ?_
            refine AW_rg (tyOf_good _) [0, 1, 7, 8, 9, 10] [7] (fun _ _ => trivial) fun K' hK' => ?_
            repeat (refine sxf_next fun K2 hK2 => ?_; simp [dNum, dCl, dRows]; (repeat (refine ⟨by omega, ?_⟩)); refine hK2 _ ?_; clear hK2 K2)
            refine sxf_next fun K2 hK2 => ?_
            simp [dNum, dCl, dRows]
            refine callK.data (hsg) (by simp; rfl) (by first | exact D.leGo_refl _ | simp [takeMap, List.map_map, Function.comp_def, D.le, D.le.go, D.le_refl, D.leGo_refl, dNum, dCl, dRows]) ?_
            refine hK2 _ ?_
            clear hK2 K2
            simp only [putd, upd_lst]
            repeat (refine sxf_next fun K2 hK2 => ?_; simp [dNum, dCl, dRows]; (repeat (refine ⟨by omega, ?_⟩)); refine hK2 _ ?_; clear hK2 K2)
            refine sxf_nil (hK' _ ?_)
            refine AW.st (by simp [dNum, dCl, dRows]; rfl) ?_
            clear hK' K'
            refine AW.imp (Imp.freezeB 7 trivial) ?_
            refine AW.st (by simp [dNum]; rfl) ?_
            refine AW_then fun K6 hK6 => ?_
            refine AW_rd (tyOf_good _) (by kernel_rfl) [0, 1, 7, 9, 10, 65] [] (fun _ _ => trivial) (by kernel_rfl) fun K' hK' => ?_
            repeat (refine sxd_next fun K2 hK2 => ?_; simp [dNum, dCl, dRows]; (repeat (refine ⟨by omega, ?_⟩)); refine hK2 _ ?_; clear hK2 K2)
            refine sxd_next fun K2 hK2 => ?_
            simp [dNum, dCl, dRows]
            refine callQ.data (hcheck) (by simp; rfl) (by simp; rfl) (by first | exact D.leGo_refl _ | simp [takeMap, List.map_map, Function.comp_def, D.le, D.le.go, D.le_refl, D.leGo_refl, dNum, dCl, dRows]) ?_
            refine hK2 _ ?_
            clear hK2 K2
            simp only [putd, upd_lst]
            repeat (refine sxd_next fun K2 hK2 => ?_; simp [dNum, dCl, dRows]; (repeat (refine ⟨by omega, ?_⟩)); refine hK2 _ ?_; clear hK2 K2)
            refine sxd_next fun K2 hK2 => ?_
            simp [dNum, dCl, dRows]
            refine callQ.data (hat) (by simp; rfl) (by simp; rfl) (by first | exact D.leGo_refl _ | simp [takeMap, List.map_map, Function.comp_def, D.le, D.le.go, D.le_refl, D.leGo_refl, dNum, dCl, dRows]) ?_
            refine hK2 _ ?_
            clear hK2 K2
            simp only [putd, upd_lst]
            repeat (refine sxd_next fun K2 hK2 => ?_; simp [dNum, dCl, dRows]; (repeat (refine ⟨by omega, ?_⟩)); refine hK2 _ ?_; clear hK2 K2)
            refine sxd_nil (hK' _ ?_)
            refine AW.st (by simp [dNum, dCl, dRows]; rfl) ?_
            clear hK' K'
            refine AW_cond false rfl (fun h => by cases h) (fun _ => ?_)
            refine AW_skip (hK6 _ ?_)
            refine AW_then fun K7 hK7 => ?_
            refine AW_rg (tyOf_good _) [0, 1, 7, 9, 10, 68] [] (fun _ _ => trivial) fun K' hK' => ?_
            repeat (refine sxf_next fun K2 hK2 => ?_; simp [dNum, codeF]; (repeat (refine ⟨by omega, ?_⟩)); refine hK2 _ ?_; clear hK2 K2)
            refine sxf_nil (hK' _ ?_)
            refine AW.st (by simp [dNum, codeF]; rfl) ?_
            clear hK' K'
            refine AW_cond false rfl (fun h => by cases h) (fun _ => ?_)
            refine AW_skip (hK7 _ ?_)
            refine AW_rg (tyOf_good _) [9, 10, 11, 12] [] (fun _ _ => trivial) fun K' hK' => ?_
            repeat (refine sxf_next fun K2 hK2 => ?_; simp [dNum, dCl, dRows]; (repeat (refine ⟨by omega, ?_⟩)); refine hK2 _ ?_; clear hK2 K2)
            refine sxf_next fun K2 hK2 => ?_
            simp [dNum, dCl, dRows]
            refine callK.data (hrs) (by simp; rfl) (by first | exact D.leGo_refl _ | simp [takeMap, List.map_map, Function.comp_def, D.le, D.le.go, D.le_refl, D.leGo_refl, dNum, dCl, dRows]) ?_
            refine hK2 _ ?_
            clear hK2 K2
            simp only [putd, upd_lst]
            repeat (refine sxf_next fun K2 hK2 => ?_; simp [dNum, dCl, dRows]; (repeat (refine ⟨by omega, ?_⟩)); refine hK2 _ ?_; clear hK2 K2)
            refine sxf_nil (hK' _ ?_)
            refine AW.st (by simp [dNum, dCl, dRows]; rfl) ?_
            clear hK' K'
            refine AW_then fun K8 hK8 => ?_
            refine AW_rg (tyOf_good _) [9, 10, 11, 85] [] (fun _ _ => trivial) fun K' hK' => ?_
            repeat (refine sxf_next fun K2 hK2 => ?_; simp [dNum]; (repeat (refine ⟨by omega, ?_⟩)); refine hK2 _ ?_; clear hK2 K2)
            refine sxf_nil (hK' _ ?_)
            refine AW.st (by simp [dNum]; rfl) ?_
            clear hK' K'
            refine AW_cond true rfl (fun _ => ?_) (fun h => by cases h)
            refine AW_rg (tyOf_good _) [4] [] (fun _ _ => trivial) fun K' hK' => ?_
            repeat (refine sxf_next fun K2 hK2 => ?_; simp [dNum]; (repeat (refine ⟨by omega, ?_⟩)); refine hK2 _ ?_; clear hK2 K2)
            refine sxf_next fun K2 hK2 => ?_
            simp [dNum]
            refine callK.data (hb8) (by simp; rfl) (by first | exact D.leGo_refl _ | simp [takeMap, List.map_map, Function.comp_def, D.le, D.le.go, D.le_refl, D.leGo_refl, dNum]) ?_
            refine hK2 _ ?_
            clear hK2 K2
            simp only [putd, upd_lst]
            repeat (refine sxf_next fun K2 hK2 => ?_; simp [dNum]; (repeat (refine ⟨by omega, ?_⟩)); refine hK2 _ ?_; clear hK2 K2)
            refine sxf_nil (hK' _ ?_)
            refine AW.st (by simp [dNum]; rfl) ?_
            clear hK' K'
            refine AW_ret ?_
            simp [D.le, D.le.go, takeMap, dNum]
          | true =>
            rw [if_pos rfl] at hsg
            obtain ⟨K, hK, hKm, hKo, hKv⟩ := law1 rfl
            have hrs := rsolve_spec G W hW8 cs hl hr60 ok (.tup [dVals W (bitK W K), .v (.bool true)]) (fun K' hK' hm' ho' => by
              have : K' = K := by
                rcases Nat.lt_trichotomy K' K with h | h | h
                · exact absurd hKm (ho' K h hK)
                · exact h
                · exact absurd hm' (hKo K' h hK')
              rw [this]) (fun h => absurd hKm (h K hK))
            have hL : dVals W (valT Str) = dBl ((List.range W).map fun v => bitK W K (v + 1)) := by
              unfold dVals dBl
              rw [List.map_map]
              congr 1
              refine List.map_congr_left fun v hv => ?_
              rw [hKv (v + 1) (by omega) (by have := List.mem_range.1 hv; omega)]
              rfl
            have hL2 : dVals W (bitK W K) = dBl ((List.range W).map fun v => bitK W K (v + 1)) := by
              unfold dVals dBl
              rw [List.map_map]
              rfl
            rw [hL] at hsg
            rw [hL2] at hrs
            have hsame := lsameBools_spec G ((List.range W).map fun v => bitK W K (v + 1)) ((List.range W).map fun v => bitK W K (v + 1)) (by simp; omega)
            rw [beq_self_eq_true] at hsame
            generalize (List.range W).map (fun v => bitK W K (v + 1)) = L at hsg hrs hsame
            unfold dBl at hsg hrs hsame
            refine AW_rg (tyOf_good _) [0, 1, 7] [7] (fun _ _ => trivial) fun K' hK' => ?_
            repeat (refine sxf_next fun K2 hK2 => ?_; simp [dNum, dCl, dRows]; (repeat (refine ⟨by omega, ?_⟩)); refine hK2 _ ?_; clear hK2 K2)
            refine sxf_next fun K2 hK2 => ?_
            simp [dNum, dCl, dRows]
            refine callK.data (hrcheck) (by simp; rfl) (by first | exact D.leGo_refl _ | simp [takeMap, List.map_map, Function.comp_def, D.le, D.le.go, D.le_refl, D.leGo_refl, dNum, dCl, dRows]) ?_
            refine hK2 _ ?_
            clear hK2 K2
            simp only [putd, upd_lst]
            repeat (refine sxf_next fun K2 hK2 => ?_; simp [dNum, dCl, dRows]; (repeat (refine ⟨by omega, ?_⟩)); refine hK2 _ ?_; clear hK2 K2)
            refine sxf_nil (hK' _ ?_)
            refine AW.st (by simp [dNum, dCl, dRows]; rfl) ?_
            clear hK' K'
            refine AW_rg (tyOf_good _) [0, 1, 7, 8] [7, 8] (fun _ _ => trivial) fun K' hK' => ?_
            repeat (refine sxf_next fun K2 hK2 => ?_; simp [dNum]; (repeat (refine ⟨by omega, ?_⟩)); refine hK2 _ ?_; clear hK2 K2)
            refine sxf_nil (hK' _ ?_)
            refine AW.st (by simp [dNum]; rfl) ?_
            clear hK' K'
            refine AW.imp (Imp.freezeB 8 trivial) ?_
            refine AW.st (by simp [dNum]; rfl) ?_
            refine AW_rg (tyOf_good _) [0, 1, 7, 8, 9, 10] [7] (fun _ _ => trivial) fun K' hK' => ?_
            repeat (refine sxf_next fun K2 hK2 => ?_; simp [dNum, dCl, dRows]; (repeat (refine ⟨by omega, ?_⟩)); refine hK2 _ ?_; clear hK2 K2)
            refine sxf_next fun K2 hK2 => ?_
            simp [dNum, dCl, dRows]
            refine callK.data (hsg) (by simp; rfl) (by first | exact D.leGo_refl _ | simp [takeMap, List.map_map, Function.comp_def, D.le, D.le.go, D.le_refl, D.leGo_refl, dNum, dCl, dRows]) ?_
            refine hK2 _ ?_
            clear hK2 K2
            simp only [putd, upd_lst]
            repeat (refine sxf_next fun K2 hK2 => ?_; simp [dNum, dCl, dRows]; (repeat (refine ⟨by omega, ?_⟩)); refine hK2 _ ?_; clear hK2 K2)
            refine sxf_nil (hK' _ ?_)
            refine AW.st (by simp [dNum, dCl, dRows]; rfl) ?_
            clear hK' K'
            refine AW.imp (Imp.freezeB 7 trivial) ?_
            refine AW.st (by simp [dNum]; rfl) ?_
            refine AW_then fun K6 hK6 => ?_
            refine AW_rd (tyOf_good _) (by kernel_rfl) [0, 1, 7, 9, 10, 65] [] (fun _ _ => trivial) (by kernel_rfl) fun K' hK' => ?_
            repeat (refine sxd_next fun K2 hK2 => ?_; simp [dNum, dCl, dRows]; (repeat (refine ⟨by omega, ?_⟩)); refine hK2 _ ?_; clear hK2 K2)
            refine sxd_next fun K2 hK2 => ?_
            simp [dNum, dCl, dRows]
            refine callQ.data (hcheck) (by simp; rfl) (by simp; rfl) (by first | exact D.leGo_refl _ | simp [takeMap, List.map_map, Function.comp_def, D.le, D.le.go, D.le_refl, D.leGo_refl, dNum, dCl, dRows]) ?_
            refine hK2 _ ?_
            clear hK2 K2
            simp only [putd, upd_lst]
            repeat (refine sxd_next fun K2 hK2 => ?_; simp [dNum, dCl, dRows]; (repeat (refine ⟨by omega, ?_⟩)); refine hK2 _ ?_; clear hK2 K2)
            refine sxd_next fun K2 hK2 => ?_
            simp [dNum, dCl, dRows]
            refine callQ.data (hat) (by simp; rfl) (by simp; rfl) (by first | exact D.leGo_refl _ | simp [takeMap, List.map_map, Function.comp_def, D.le, D.le.go, D.le_refl, D.leGo_refl, dNum, dCl, dRows]) ?_
            refine hK2 _ ?_
            clear hK2 K2
            simp only [putd, upd_lst]
            repeat (refine sxd_next fun K2 hK2 => ?_; simp [dNum, dCl, dRows]; (repeat (refine ⟨by omega, ?_⟩)); refine hK2 _ ?_; clear hK2 K2)
            refine sxd_nil (hK' _ ?_)
            refine AW.st (by simp [dNum, dCl, dRows]; rfl) ?_
            clear hK' K'
            refine AW_cond false rfl (fun h => by cases h) (fun _ => ?_)
            refine AW_skip (hK6 _ ?_)
            refine AW_then fun K7 hK7 => ?_
            refine AW_rg (tyOf_good _) [0, 1, 7, 9, 10, 68] [] (fun _ _ => trivial) fun K' hK' => ?_
            repeat (refine sxf_next fun K2 hK2 => ?_; simp [dNum, codeF]; (repeat (refine ⟨by omega, ?_⟩)); refine hK2 _ ?_; clear hK2 K2)
            refine sxf_nil (hK' _ ?_)
            refine AW.st (by simp [dNum, codeF]; rfl) ?_
            clear hK' K'
            refine AW_cond false rfl (fun h => by cases h) (fun _ => ?_)
            refine AW_skip (hK7 _ ?_)
            refine AW_rg (tyOf_good _) [9, 10, 11, 12] [] (fun _ _ => trivial) fun K' hK' => ?_
            repeat (refine sxf_next fun K2 hK2 => ?_; simp [dNum, dCl, dRows]; (repeat (refine ⟨by omega, ?_⟩)); refine hK2 _ ?_; clear hK2 K2)
            refine sxf_next fun K2 hK2 => ?_
            simp [dNum, dCl, dRows]
            refine callK.data (hrs) (by simp; rfl) (by first | exact D.leGo_refl _ | simp [takeMap, List.map_map, Function.comp_def, D.le, D.le.go, D.le_refl, D.leGo_refl, dNum, dCl, dRows]) ?_
            refine hK2 _ ?_
            clear hK2 K2
            simp only [putd, upd_lst]
            repeat (refine sxf_next fun K2 hK2 => ?_; simp [dNum, dCl, dRows]; (repeat (refine ⟨by omega, ?_⟩)); refine hK2 _ ?_; clear hK2 K2)
            refine sxf_nil (hK' _ ?_)
            refine AW.st (by simp [dNum, dCl, dRows]; rfl) ?_
            clear hK' K'
            refine AW_then fun K8 hK8 => ?_
            refine AW_rg (tyOf_good _) [9, 10, 11, 85] [] (fun _ _ => trivial) fun K' hK' => ?_
            repeat (refine sxf_next fun K2 hK2 => ?_; simp [dNum]; (repeat (refine ⟨by omega, ?_⟩)); refine hK2 _ ?_; clear hK2 K2)
            refine sxf_nil (hK' _ ?_)
            refine AW.st (by simp [dNum]; rfl) ?_
            clear hK' K'
            refine AW_cond false rfl (fun h => by cases h) (fun _ => ?_)
            refine AW_skip (hK8 _ ?_)
            refine AW_rg (tyOf_good _) [4] [] (fun _ _ => trivial) fun K' hK' => ?_
            repeat (refine sxf_next fun K2 hK2 => ?_; simp [dNum]; (repeat (refine ⟨by omega, ?_⟩)); refine hK2 _ ?_; clear hK2 K2)
            refine sxf_next fun K2 hK2 => ?_
            simp [dNum]
            refine callK.data (hsame) (by simp; rfl) (by first | exact D.leGo_refl _ | simp [takeMap, List.map_map, Function.comp_def, D.le, D.le.go, D.le_refl, D.leGo_refl, dNum]) ?_
            refine hK2 _ ?_
            clear hK2 K2
            simp only [putd, upd_lst]
            repeat (refine sxf_next fun K2 hK2 => ?_; simp [dNum]; (repeat (refine ⟨by omega, ?_⟩)); refine hK2 _ ?_; clear hK2 K2)
            refine sxf_nil (hK' _ ?_)
            refine AW.st (by simp [dNum]; rfl) ?_
            clear hK' K'
            refine AW_ret ?_
            simp [D.le, D.le.go, takeMap, dNum]
#print axioms solves_spec
end Go.Proofs.YtoikggboakojlaaDoor

/-
  Laws over programs whose package-level variables are known.
-/
namespace Go.Av
set_option linter.unusedSimpArgs false
set_option linter.unusedVariables false
set_option linter.unusedSectionVars false
open Go.ChangeShapes Go.WideShapes Go.RowKit

theorem law_callsG {P : Program} {G : Glob} {g : FuncId} {xs : List D} {b : Bool} (hc : PureC P G g xs (.v (.bool b))) {W : World} {args : Array Value} (hgl : ∀ g x, G g = some x → RD W (fun _ => False) (.pointer (some ⟨g, 0, none⟩)) x) (hsz : args.size = xs.length)
    (hrd : ∀ (i : Nat) (u : Value) (x : D), args[i]? = some u → xs[i]? = some x → RD W (fun _ => False) u x) : Calls P g args W fun e W' => e = .returned (.bool b) ∧ Below W.heap.size W W' := by
  refine (hc.2 (fun _ => False) W (fun _ => none) args (Sim.none (by simp)) (fun g x hx => (hgl g x hx).sub fun b hb => XX_none.1 hb) (by simpa using hsz) fun i u x hu hx => ?_).mono fun e W' ⟨v, x, H', μ', he, ⟨hx, _⟩, hr, _, ev⟩ => ?_
  · rw [List.getElem?_map] at hx
    obtain ⟨d, hd, rfl⟩ := Option.map_eq_some_iff.1 hx
    exact .d ((hrd i u d hu hd).sub fun b hb => XX_none.1 hb)
  · subst hx
    have := hr.scalar
    subst this
    have hg := Ev.grew ev
    exact ⟨he, hg.os, hg.tape, hg.output, hg.size, hg.same⟩

theorem RD.cell1 {W : World} {X : Nat → Prop} {g : Nat} {v : Value} (hX : ∀ b, ¬ X b) (h : W.cell? ⟨g, 0, none⟩ = some v) : RD W X (.pointer (some ⟨g, 0, none⟩)) (.ip [.v v]) :=
  .ip (f := fun _ => v) (hX g) (cell_lt h) (fun j hj => by
    have : j = 0 := by simpa using hj
    subst this
    exact h) (fun j c hc => by
    have hj : j = 0 := by
      have := (List.getElem?_eq_some_iff.1 hc).1
      simpa using this
    subst hj
    simp at hc
    subst hc
    exact .v v)
theorem RD.at2 {W : World} {X : Nat → Prop} {x y : Value} {a b : D} (h0 : RD W X x a) (h1 : RD W X y b) : ∀ (i : Nat) (u : Value) (c : D), #[x, y][i]? = some u → [a, b][i]? = some c → RD W X u c := fun i u c hu hc => by
  match i, hu, hc with
  | 0, hu, hc => simp at hu hc; subst hu hc; exact h0
  | 1, hu, hc => simp at hu hc; subst hu hc; exact h1
  | i + 2, hu, hc => simp at hu
theorem RD.at1 {W : World} {X : Nat → Prop} {x : Value} {a : D} (h0 : RD W X x a) : ∀ (i : Nat) (u : Value) (c : D), #[x][i]? = some u → [a][i]? = some c → RD W X u c := fun i u c hu hc => by
  match i, hu, hc with
  | 0, hu, hc => simp at hu hc; subst hu hc; exact h0
  | i + 1, hu, hc => simp at hu
theorem RD.at4 {W : World} {X : Nat → Prop} {x y z v : Value} {a b e f : D} (h0 : RD W X x a) (h1 : RD W X y b) (h2 : RD W X z e) (h3 : RD W X v f) : ∀ (i : Nat) (u : Value) (c : D), #[x, y, z, v][i]? = some u → [a, b, e, f][i]? = some c → RD W X u c := fun i u c hu hc => by
  match i, hu, hc with
  | 0, hu, hc => simp at hu hc; subst hu hc; exact h0
  | 1, hu, hc => simp at hu hc; subst hu hc; exact h1
  | 2, hu, hc => simp at hu hc; subst hu hc; exact h2
  | 3, hu, hc => simp at hu hc; subst hu hc; exact h3
  | i + 4, hu, hc => simp at hu
end Go.Av

/-
  Tables, as they are read.
-/
namespace Go.Proofs.YtoikggboakojlaaDoor
set_option linter.unusedSimpArgs false
set_option linter.unusedVariables false
open Go.Av Go.ChangeShapes Go.WideShapes Go.ChangeAt Go.RowKit

theorem law_own : ownKnob Tryd.prog.godebug = none := by kernel_rfl
theorem law_laidOut : laidOutB Tryd.prog = true := by kernel_rfl
theorem cells_int : Tryd.prog.cellsOf 3 = 1 := by kernel_rfl
theorem cells_ints : Tryd.prog.cellsOf 32 = 1 := by kernel_rfl
theorem cells_rows : Tryd.prog.cellsOf 23 = 1 := by kernel_rfl
theorem cells_tab : Tryd.prog.cellsOf 25 = 2 := by kernel_rfl

section
variable {H : Type} {enc : TypeId × Value → H} {w : World} {base : Nat} {spare : Nat → Bool} {held : Bool} {X : Nat → Prop}

theorem reads_ints (hX : ∀ b, ¬ X b) : ReadsAs enc Tryd.prog w base spare held X 32 (fun _ : List Int => True) (fun l => [dRow l]) := by
  intro fuel cs x h
  obtain ⟨l, _, hr⟩ := reads_slice Tryd.underlying32 cells_int (by omega) hX (reads_int Tryd.underlying3) fuel cs x h
  exact ⟨l, trivial, hr⟩
theorem reads_rows (hX : ∀ b, ¬ X b) : ReadsAs enc Tryd.prog w base spare held X 23 (fun _ : List (List Int) => True) (fun l => [dRows l]) := by
  intro fuel cs x h
  obtain ⟨l, _, hr⟩ := reads_slice Tryd.underlying23 cells_ints (by omega) hX (reads_ints hX) fuel cs x h
  exact ⟨l, trivial, hr⟩
theorem reads_tab (hX : ∀ b, ¬ X b) : ReadsAs enc Tryd.prog w base spare held X 25 (fun _ : List (List Int) × List (List Int) => True) (fun s => [dRows s.1, dRows s.2]) := by
  intro fuel cs x h
  obtain ⟨l, _, hr⟩ := reads_struct2 Tryd.underlying25 (by rw [cells_tab]; simp only [cells_rows]) rfl (by simp only [cells_rows]) (reads_rows hX) (reads_rows hX) fuel cs x h
  exact ⟨l, trivial, hr⟩
end

end Go.Proofs.YtoikggboakojlaaDoor

/-
  Package-level variables that are laid: errors.errorType, and the reference's Fine.
-/
namespace Go.Proofs.YtoikggboakojlaaDoor
set_option linter.unusedSimpArgs false
set_option linter.unusedVariables false
open Go.Av Go.ChangeShapes Go.WideShapes Go.ChangeAt Go.RowKit

theorem laid_et : Tryd.prog.globalNamed "errors.errorType" = some 1 := by kernel_rfl
theorem laid_rt : (Tryd.prog.cutTypes.find? (·.1 == "internal/reflectlite.rtype")).map (·.2) = some 177 := by kernel_rfl
theorem laid_oneRow : ((List.range (333 - 100)).filter fun t => Tryd.prog.rowNamed t [101, 114, 114, 111, 114]) = [34] := by kernel_rfl
theorem laid_size : Tryd.prog.types.size = 333 - 100 := by kernel_rfl
theorem laid_fi : Tryd.prog.globalNamed "signalcabin/signalcabinref.Fine" = some 0 := by kernel_rfl
theorem laid_fiT : (Tryd.prog.globals[0]?).map (·.type) = some 29 := by kernel_rfl
theorem cells_errno : Tryd.prog.cellsOf 27 = 1 := by kernel_rfl
theorem cells_fault : Tryd.prog.cellsOf 29 = 2 := by kernel_rfl

def laidE : List (String × DataW Unit) := [("errors.errorType", Rows.laid_errors_errorType)]
def laidF : List (String × DataW Unit) := [("signalcabin/signalcabinref.Fine", Rows.laid_signalcabin_signalcabinref_Fine)]
def laidEF : List (String × DataW Unit) := [("errors.errorType", Rows.laid_errors_errorType), ("signalcabin/signalcabinref.Fine", Rows.laid_signalcabin_signalcabinref_Fine)]

theorem handle_of_met {W : World} (h : handlesMet Tryd.prog laidE W) : W.cell? ⟨1, 0, none⟩ = some errType := by
  obtain ⟨name, u, ty, e1, e2, e3, e4, e5⟩ := h _ (List.mem_singleton.2 rfl)
  have en : name = [101, 114, 114, 111, 114] := (Option.some.inj e1).symm
  subst en
  obtain rfl := Option.some.inj (laid_rt.symm.trans e2)
  have hm : ty ∈ (List.range (333 - 100)).filter fun t => Tryd.prog.rowNamed t [101, 114, 114, 111, 114] := List.mem_filter.2 ⟨List.mem_range.2 (by rw [← laid_size]; exact e3), e4⟩
  rw [laid_oneRow] at hm
  obtain rfl := List.mem_singleton.1 hm
  have hh : typeHandle Tryd.prog 34 = .pointer (some ⟨6, 34, none⟩) := by kernel_rfl
  rw [hh] at e5
  simpa [errType] using World.var?_cell laid_et e5 0

theorem trod_errno {W : World} {fuel : Nat} {cs : List Value} {y : DataW Unit × List MemPlace} (h : DataW.trod (fun _ => ()) Tryd.prog W 0 (fun _ => true) false fuel 27 cs = some y) : ∃ n, cs = [.int .i64 n] ∧ y = (.lit (.int .i64 n), []) := by
  obtain ⟨n, a, b, _⟩ := DataW.trod_int Tryd.underlying27 h
  exact ⟨n, a, b⟩
theorem trod_int3 {W : World} {fuel : Nat} {cs : List Value} {y : DataW Unit × List MemPlace} (h : DataW.trod (fun _ => ()) Tryd.prog W 0 (fun _ => true) false fuel 3 cs = some y) : ∃ n, cs = [.int .i64 n] ∧ y = (.lit (.int .i64 n), []) := by
  obtain ⟨n, a, b, _⟩ := DataW.trod_int Tryd.underlying3 h
  exact ⟨n, a, b⟩
theorem fine_of_met {W : World} (h : laidMet Tryd.prog laidF W) : W.cell? ⟨0, 0, none⟩ = some (.int .i64 0) ∧ W.cell? ⟨0, 1, none⟩ = some (.int .i64 (-1)) := by
  obtain ⟨ps, hv, _, _⟩ := h
  obtain ⟨g, t, cs, fuel, p, q, hg, ht, hcs, htr, _, _⟩ := hv
  obtain rfl := Option.some.inj (laid_fi.symm.trans hg)
  obtain rfl := Option.some.inj (laid_fiT.symm.trans ht)
  obtain ⟨y0, y1, n, hx, hl, t0, t1⟩ := trod_struct2 Tryd.underlying29 htr
  refine Exists.elim (trod_errno t0) fun n0 q0 => Exists.elim (trod_int3 t1) fun n1 q1 => ?_
  have e0 := q0.1
  have e1 := q1.1
  rw [q0.2, q1.2] at hx
  have hd : (DataW.agg [.lit (.int .i64 0), .lit (.int .i64 (-1))] : DataW Unit) = (DataW.agg [.lit (.int .i64 n0), .lit (.int .i64 n1)] : DataW Unit) := congrArg (·.1) hx
  simp only [DataW.agg.injEq, List.cons.injEq, DataW.lit.injEq, Lit.int.injEq, true_and, and_true] at hd
  have h0 : n0 = 0 := hd.1.symm
  have h1 : n1 = -1 := hd.2.symm
  subst h0 h1
  have c0 : cs[0]? = some (.int .i64 0) := by
    rw [cells_errno] at e0
    have := congrArg (fun l => l[0]?) e0
    simpa using this
  have c1 : cs[1]? = some (.int .i64 (-1)) := by
    rw [cells_int] at e1
    have := congrArg (fun l => l[0]?) e1
    simpa using this
  exact ⟨by rw [World.var?_cell laid_fi hcs 0]; exact c0, by rw [World.var?_cell laid_fi hcs 1]; exact c1⟩

theorem parts_of_EF {W : World} (h : laidMetH Tryd.prog laidEF W) : laidMet Tryd.prog laidF W ∧ handlesMet Tryd.prog laidE W := h

/-- The world in which these two are laid. -/
noncomputable def worldEF (os : Os) : World :=
  let w0 := World.laidAll Tryd.prog os laidF
  { w0 with heap := w0.heap.modify 1 fun
      | .cells _ t frozen => .cells #[errType] t frozen
      | o => o }
theorem worldEF_met (os : Os) (args : Array Value) : laidMetH Tryd.prog laidEF ((worldEF os).forCall (fun _ _ => 0) ⟨#[], args, []⟩).memory :=
  laidMetH_of_parts (laidMet_of_run' 8 (by kernel_rfl) (by kernel_rfl)) (by kernel_rfl)

def globEF : Glob := fun g => if g = 1 then some (.ip [.v errType]) else if g = 0 then some (.ip [dNum 0, dNum (-1)]) else none
theorem globEF_err : HasErr globEF := rfl
theorem globEF_fine : HasFine globEF := rfl
theorem RD.cells2 {W : World} {X : Nat → Prop} {g : Nat} {u v : Value} (hX : ∀ b, ¬ X b) (h0 : W.cell? ⟨g, 0, none⟩ = some u) (h1 : W.cell? ⟨g, 1, none⟩ = some v) : RD W X (.pointer (some ⟨g, 0, none⟩)) (.ip [.v u, .v v]) := by
  refine .ip (f := fun j => if j = 0 then u else v) (hX _) (cell_lt h0) (fun j hj => ?_) fun j c hc => ?_
  · match j, hj with
    | 0, _ => simpa using h0
    | 1, _ => simpa using h1
  · match j, hc with
    | 0, hc => simp at hc; subst hc; exact .v _
    | 1, hc => simp at hc; subst hc; exact .v _
    | j + 2, hc => simp at hc
theorem globEF_ok {W : World} (h : laidMetH Tryd.prog laidEF W) : ∀ g x, globEF g = some x → RD W (fun _ => False) (.pointer (some ⟨g, 0, none⟩)) x := fun g x hx => by
  obtain ⟨hf, he⟩ := parts_of_EF h
  obtain ⟨f0, f1⟩ := fine_of_met hf
  unfold globEF at hx
  split at hx
  · rename_i hg
    subst hg
    obtain rfl := Option.some.inj hx
    exact RD.cell1 (by simp) (handle_of_met he)
  · split at hx
    · rename_i hg
      subst hg
      obtain rfl := Option.some.inj hx
      exact RD.cells2 (by simp) f0 f1
    · cases hx
end Go.Proofs.YtoikggboakojlaaDoor

/-
  Plain facts of names.
-/
namespace Go.Proofs.YtoikggboakojlaaDoor
set_option linter.unusedSimpArgs false
set_option linter.unusedVariables false

def cutL : List UInt8 := [97, 98, 99, 100, 101, 102, 103, 104, 105, 106, 107, 108, 109, 110, 111, 112, 113, 114, 115, 116, 117, 118, 119, 120, 121, 122, 48, 49, 50, 51, 52, 53, 54, 55, 56, 57, 95]
def wordsL : List (List UInt8) := [[105, 110, 112, 117, 116], [99, 111, 105, 108], [116, 105, 109, 101, 114], [99, 111, 117, 110, 116, 101, 114], [115, 101, 116], [114, 101, 115, 101, 116], [114, 117, 110], [99, 111, 117, 110, 116], [122, 101, 114, 111]]

def lowC (c : UInt8) : Bool := decide (97 ≤ c.toNat) && decide (c.toNat ≤ 122)
def restC (c : UInt8) : Bool := (decide (48 ≤ c.toNat) && decide (c.toNat ≤ 57)) || decide (c.toNat = 95)
def okC (j : Nat) (c : UInt8) : Bool := lowC c || (decide (j ≠ 0) && restC c)

def nameF (l : List UInt8) : Bool := decide (l ≠ []) && (decide (l.length ≤ 8) && (decide (97 ≤ (l.getD 0 0).toNat) && (decide ((l.getD 0 0).toNat ≤ 122) && (decide (Lib.trimS l cutL = []) && !(wordsL.any fun x => l == x)))))
def okAll (l : List UInt8) (n : Nat) : Bool := (List.range n).all fun j => okC j (l.getD j 0)
def checkNF (l : List UInt8) : Bool := okAll l l.length && (!(([] :: wordsL).any fun x => l == x) && decide (l.length ≤ 8))

theorem cut_iff (c : UInt8) : cutL.contains c = (lowC c || restC c) := by
  have h : ∀ n : Fin 256, cutL.contains (UInt8.ofNat n) = (lowC (UInt8.ofNat n) || restC (UInt8.ofNat n)) := by decide +kernel
  have := h ⟨c.toNat, c.toNat_lt⟩
  simpa using this

theorem dropWhile_nil {p : UInt8 → Bool} : ∀ {l : List UInt8}, l.dropWhile p = [] ↔ ∀ x ∈ l, p x = true
  | [] => by simp
  | x :: l => by
    rw [List.dropWhile_cons]
    split
    · rename_i h
      rw [dropWhile_nil]
      simp [h]
    · rename_i h
      simp [h]
theorem dropWhile_head {p : UInt8 → Bool} : ∀ {l : List UInt8} {x : UInt8} {r : List UInt8}, l.dropWhile p = x :: r → p x = false
  | [], _, _, h => by simp at h
  | y :: l, x, r, h => by
    rw [List.dropWhile_cons] at h
    split at h
    · exact dropWhile_head h
    · rename_i hp
      simp only [List.cons.injEq] at h
      rw [← h.1]
      simpa using hp
theorem trim_nil {l cs : List UInt8} : Lib.trimS l cs = [] ↔ ∀ x ∈ l, cs.contains x = true := by
  unfold Lib.trimS Lib.trimLeftS Lib.trimRightS
  rw [dropWhile_nil]
  constructor
  · intro h
    have hr : l.reverse.dropWhile (cs.contains ·) = [] := by
      cases hd : l.reverse.dropWhile (cs.contains ·) with
      | nil => rfl
      | cons x r =>
        have h1 := dropWhile_head hd
        have h2 := h x (by rw [hd]; simp)
        rw [h1] at h2
        cases h2
    rw [dropWhile_nil] at hr
    exact fun x hx => hr x (by simpa using hx)
  · intro h x hx
    rw [List.mem_reverse] at hx
    exact h x (by simpa using (List.dropWhile_sublist _).subset hx)

theorem name_same (l : List UInt8) : nameF l = checkNF l := by
  cases l with
  | nil => rfl
  | cons a l =>
    have hw : (([] :: wordsL).any fun x => (a :: l) == x) = wordsL.any fun x => (a :: l) == x := by simp
    unfold nameF checkNF
    rw [hw]
    have key : (decide (97 ≤ a.toNat) && (decide (a.toNat ≤ 122) && decide (Lib.trimS (a :: l) cutL = []))) = okAll (a :: l) (a :: l).length := by
      rw [Bool.eq_iff_iff]
      simp only [Bool.and_eq_true, decide_eq_true_eq, trim_nil, okAll, List.all_eq_true, List.mem_range]
      constructor
      · rintro ⟨h1, h2, h3⟩ j hj
        have hm : (a :: l).getD j 0 ∈ a :: l := by
          rw [List.getD_eq_getElem?_getD, List.getElem?_eq_getElem hj]
          exact List.getElem_mem hj
        have := h3 _ hm
        rw [cut_iff] at this
        unfold okC
        cases j with
        | zero => simp [lowC, h1, h2]
        | succ j => simpa using this
      · intro h
        have h0 := h 0 (by simp)
        simp [okC, lowC] at h0
        refine ⟨h0.1, h0.2, fun x hx => ?_⟩
        obtain ⟨j, hj, rfl⟩ := List.getElem_of_mem hx
        have := h j hj
        rw [List.getD_eq_getElem?_getD, List.getElem?_eq_getElem hj] at this
        rw [cut_iff]
        unfold okC at this
        simp only [Option.getD_some, Bool.or_eq_true, Bool.and_eq_true] at this ⊢
        rcases this with h | h
        · exact .inl h
        · exact .inr h.2
    rw [← key]
    simp only [List.getD_cons_zero, ne_eq, reduceCtorEq, not_false_eq_true, decide_true, Bool.true_and]
    cases decide ((a :: l).length ≤ 8) <;> cases decide (97 ≤ a.toNat) <;> cases decide (a.toNat ≤ 122) <;> cases decide (Lib.trimS (a :: l) cutL = []) <;> cases (wordsL.any fun x => (a :: l) == x) <;> rfl
end Go.Proofs.YtoikggboakojlaaDoor

/-
  DERIVED: THE SHELF's CONTRACTS AT THIS DUMP, IN PLAIN WORDS (tools/lay-plain.mjs out of 'YtoikggboakojlaaDoorSh.lean', which tools/lay-shelf.mjs wrote): THE SAME DECLARATIONS UNDER THE SAME NAMES: 'import', 'namespace', 'open', 'def', 'theorem' AND NOTHING ELSE: no command of the shelf's: FOR A HAND-IN. Each laying: the table of numbers ('.._ren') and one theorem, a field a fact of the dump's own or the kernel's comparison; each contract: ONE APPLICATION.
-/
namespace Go.Proofs
open Go.Shelf
def Tryd.lays160_ren : Go.Shelf.Ren := ⟨fun | 160 => 55 | 232 => 83 | 231 => 82 | 227 => 84 | 234 => 86 | 233 => 85 | 236 => 88 | 235 => 87 | 228 => 108 | 271 => 111 | 151 => 110 | 197 => 109 | 120 => 122 | 152 => 121 | 260 => 120 | 137 => 125 | 119 => 126 | 224 => 127 | 225 => 128 | 217 => 131 | 266 => 132 | n => n, fun | 9 => 9 | 4 => 4 | 3 => 3 | 5 => 5 | 117 => 143 | 116 => 142 | 0 => 0 | 124 => 146 | 21 => 21 | 105 => 173 | 46 => 85 | 119 => 196 | 139 => 199 | 138 => 198 | n => n, fun | 3 => 3 | 4 => 4 | n => n⟩
theorem Tryd.lays160 : Go.Proofs.Lays.n160 Tryd.prog Tryd.lays160_ren := {
  mixed := by kernel_rfl
  f119 := Tryd.func126.trans (congrArg some (by kernel_rfl))
  f120 := Tryd.func122.trans (congrArg some (by kernel_rfl))
  f137 := Tryd.func125.trans (congrArg some (by kernel_rfl))
  f151 := Tryd.func110.trans (congrArg some (by kernel_rfl))
  f152 := Tryd.func121.trans (congrArg some (by kernel_rfl))
  f160 := Tryd.func55.trans (congrArg some (by kernel_rfl))
  f197 := Tryd.func109.trans (congrArg some (by kernel_rfl))
  f217 := Tryd.func131.trans (congrArg some (by kernel_rfl))
  f224 := Tryd.func127.trans (congrArg some (by kernel_rfl))
  f225 := Tryd.func128.trans (congrArg some (by kernel_rfl))
  f227 := Tryd.func84.trans (congrArg some (by kernel_rfl))
  f228 := Tryd.func108.trans (congrArg some (by kernel_rfl))
  f231 := Tryd.func82.trans (congrArg some (by kernel_rfl))
  f232 := Tryd.func83.trans (congrArg some (by kernel_rfl))
  f233 := Tryd.func85.trans (congrArg some (by kernel_rfl))
  f234 := Tryd.func86.trans (congrArg some (by kernel_rfl))
  f235 := Tryd.func87.trans (congrArg some (by kernel_rfl))
  f236 := Tryd.func88.trans (congrArg some (by kernel_rfl))
  f260 := Tryd.func120.trans (congrArg some (by kernel_rfl))
  f266 := Tryd.func132.trans (congrArg some (by kernel_rfl))
  f271 := Tryd.func111.trans (congrArg some (by kernel_rfl))
  t0 := Tryd.underlying0
  a0 := Tryd.isAgg0
  z0 := Tryd.sizeOf0
  v0 := Tryd.zeroValue0
  t3 := Tryd.underlying3
  a3 := Tryd.isAgg3
  z3 := Tryd.sizeOf3
  v3 := Tryd.zeroValue3
  t4 := Tryd.underlying4
  a4 := Tryd.isAgg4
  z4 := Tryd.sizeOf4
  v4 := Tryd.zeroValue4
  t5 := Tryd.underlying5
  a5 := Tryd.isAgg5
  z5 := Tryd.sizeOf5
  v5 := Tryd.zeroValue5
  t9 := Tryd.underlying9
  a9 := Tryd.isAgg9
  z9 := Tryd.sizeOf9
  v9 := Tryd.zeroValue9
  t21 := Tryd.underlying21
  a21 := Tryd.isAgg21
  z21 := Tryd.sizeOf21
  v21 := Tryd.zeroValue21
  t46 := Tryd.underlying85
  a46 := Tryd.isAgg85
  z46 := Tryd.sizeOf85
  v46 := Tryd.zeroValue85
  t105 := Tryd.underlying173
  a105 := Tryd.isAgg173
  z105 := Tryd.sizeOf173
  v105 := Tryd.zeroValue173
  t116 := Tryd.underlying142
  a116 := Tryd.isAgg142
  z116 := Tryd.sizeOf142
  t117 := Tryd.underlying143
  a117 := Tryd.isAgg143
  z117 := Tryd.sizeOf143
  v117 := Tryd.zeroValue143
  t119 := Tryd.underlying196
  a119 := Tryd.isAgg196
  z119 := Tryd.sizeOf196
  t124 := Tryd.underlying146
  a124 := Tryd.isAgg146
  z124 := Tryd.sizeOf146
  v124 := Tryd.zeroValue146
  t138 := Tryd.underlying198
  a138 := Tryd.isAgg198
  z138 := Tryd.sizeOf198
  v138 := Tryd.zeroValue198
  t139 := Tryd.underlying199
  a139 := Tryd.isAgg199
  z139 := Tryd.sizeOf199
  v139 := Tryd.zeroValue199
  g3 := by kernel_rfl
  g4 := by kernel_rfl }
end Go.Proofs

/-
  Texts that may be names: the walks.
-/
namespace Go.Proofs.YtoikggboakojlaaDoor
set_option linter.unusedSimpArgs false
set_option linter.unusedVariables false
open Go.Av
open Go.RowKit Go.Shelf Go.Lib

def bs (l : List UInt8) : ByteArray := ⟨l.toArray⟩
def dS (l : List UInt8) : D := .v (.string (bs l))
theorem bs_list (l : List UInt8) : (bs l).toList = l := by rw [ByteArray.toList_eq]; rfl
theorem bs_data (l : List UInt8) : (bs l).data.toList = l := rfl
theorem bs_size (l : List UInt8) : (bs l).size = l.length := rfl
theorem bs_nil : (⟨#[]⟩ : ByteArray) = bs [] := rfl

theorem below_grew {w w' : World} (h : Below w.heap.size w w') : Grew w w' := ⟨h.size, h.os, h.tape, h.output, h.block⟩

theorem trim_spec (G : Glob) (l : List UInt8) (hl : l.length < 2^60) : PureC Tryd.prog G 55 [dS l, dS cutL] (dS (Lib.trimS l cutL)) := by
  refine PureC.of_calls (Fun.of Tryd.func55 rfl rfl) fun X w vs hsz hrd hgl => ?_
  obtain ⟨a, b, rfl⟩ : ∃ a b, vs = #[a, b] := by
    match vs, hsz with
    | ⟨[a, b]⟩, _ => exact ⟨a, b, rfl⟩
  have ha := (hrd 0 a _ rfl rfl).scalar
  have hb := (hrd 1 b _ rfl rfl).scalar
  subst ha hb
  have hcon := Any.strings_Trim_laid Tryd.lays160 (by kernel_rfl) (bs l) (bs cutL) w (by rw [bs_size]; omega) (by decide) (ascii_of_all (by decide))
  change Calls Tryd.prog 55 _ _ (fun e w' => e = .returned (.string (bs (Lib.trimS l cutL))) ∧ Below w.heap.size w w') at hcon
  exact hcon.mono fun e w' ⟨he, hB⟩ => ⟨_, he, below_grew hB, .v _⟩

set_option maxHeartbeats 1000000 in
theorem index_spec (G : Glob) (k : Option Bool) (ws : List (List UInt8)) (s : List UInt8) (hl : ws.length < 2^60) : PureC Tryd.prog G 89 [.sl k (ws.map fun x => [dS x]), dS s] (.v (.int .i64 (idx (fun x => s == x) ws))) := by
  refine PureC.of_body (tyOf_good _) Tryd.func89 rfl rfl (rs := [.tmp 4]) Tryd.results89 (by simp [Tryd.ntmps89]) fun X => ?_
  simp only [Tryd.ntmps89, List.map]
  refine AW_rg (tyOf_good _) [0, 1] [] (fun _ _ => trivial) fun K' hK' => ?_
  repeat (refine sxf_next fun K2 hK2 => ?_; simp; (repeat (refine ⟨by omega, ?_⟩)); refine hK2 _ ?_; clear hK2 K2)
  refine sxf_nil (hK' _ ?_)
  refine AW.st (by simp; rfl) ?_
  clear hK' K'
  refine AW_then fun K1 hK1 => ?_
  refine AW_rg (tyOf_good _) [0, 1, 7, 8] [] (fun _ _ => trivial) fun K' hK' => ?_
  repeat (refine sxf_next fun K2 hK2 => ?_; simp; (repeat (refine ⟨by omega, ?_⟩)); refine hK2 _ ?_; clear hK2 K2)
  refine sxf_nil (hK' _ ?_)
  refine AW.st (by simp; rfl) ?_
  clear hK' K'
  refine AW_for (S := Nat) (fun n => n ≤ ws.length ∧ ∀ i (hi : i < ws.length), i < n → (s == ws[i]) = false) (fun n => ⟨lst [(0, .d (.sl k (ws.map fun x => [dS x]))), (1, .d (dS s)), (7, int ws.length), (8, int n)], hlst []⟩) (fun n => ws.length - n) 0 ?_ (by simp) ?_
  · refine Imp.to' (fun _ _ => trivial) (by simp) (by simp)
  · rintro n ⟨hn, hp⟩
    refine AW_rg (tyOf_good _) [0, 1, 7, 8, 9] [] (fun _ _ => trivial) fun K' hK' => ?_
    repeat (refine sxf_next fun K2 hK2 => ?_; simp; (repeat (refine ⟨by omega, ?_⟩)); refine hK2 _ ?_; clear hK2 K2)
    refine sxf_nil (hK' _ ?_)
    refine AW.st (by simp; rfl) ?_
    clear hK' K'
    refine AW_then fun K2 hK2 => ?_
    refine AW_cond' (b := n < ws.length) (by simp [D.le, D.le.go, takeMap]) (fun hc => ?_) (fun hc => ?_)
    · refine AW_skip (hK2 _ ?_)
      refine AW_then fun K3 hK3 => ?_
      refine AW_block ?_
      refine AW_rg (tyOf_good _) [0, 1, 5, 7, 8] [] (fun _ _ => trivial) fun K' hK' => ?_
      repeat (refine sxf_next fun K2 hK2 => ?_; simp; (repeat (refine ⟨by omega, ?_⟩)); refine hK2 _ ?_; clear hK2 K2)
      refine sxf_nil (hK' _ ?_)
      refine AW.st (by simp; rfl) ?_
      clear hK' K'
      by_cases he : s = ws[n]
      · refine AW_rg (tyOf_good _) [0, 1, 5, 7, 8, 16] [] (fun _ _ => trivial) fun K' hK' => ?_
        repeat (refine sxf_next fun K2 hK2 => ?_; simp [hc, dS, bs_list, he, binS]; (repeat (refine ⟨by omega, ?_⟩)); refine hK2 _ ?_; clear hK2 K2)
        refine sxf_nil (hK' _ ?_)
        refine AW.st (by simp [hc, dS, bs_list, he, binS]; rfl) ?_
        clear hK' K'
        refine AW_cond true rfl (fun _ => ?_) (fun h => by cases h)
        refine AW_rg (tyOf_good _) [4] [] (fun _ _ => trivial) fun K' hK' => ?_
        repeat (refine sxf_next fun K2 hK2 => ?_; simp; (repeat (refine ⟨by omega, ?_⟩)); refine hK2 _ ?_; clear hK2 K2)
        refine sxf_nil (hK' _ ?_)
        refine AW.st (by simp; rfl) ?_
        clear hK' K'
        refine AW_ret ?_
        simp [D.le, D.le.go, takeMap]
        exact (idx_hit (p := fun x => s == x) hc (by simp [he]) fun i hi => hp i (by omega) hi).symm
      · have he' : (s == ws[n]) = false := by simpa using he
        refine AW_rg (tyOf_good _) [0, 1, 5, 7, 8, 16] [] (fun _ _ => trivial) fun K' hK' => ?_
        repeat (refine sxf_next fun K2 hK2 => ?_; simp [hc, dS, bs_list, he, he', binS]; (repeat (refine ⟨by omega, ?_⟩)); refine hK2 _ ?_; clear hK2 K2)
        refine sxf_nil (hK' _ ?_)
        refine AW.st (by simp [hc, dS, bs_list, he, he', binS]; rfl) ?_
        clear hK' K'
        refine AW_cond false rfl (fun h => by cases h) (fun _ => ?_)
        refine AW_skip (hK3 _ ?_)
        refine AW_re (tyOf_good _) fun K' hK' => ?_
        repeat (refine sxf_next fun K2 hK2 => ?_; simp; (repeat (refine ⟨by omega, ?_⟩)); refine hK2 _ ?_; clear hK2 K2)
        refine sxf_nil (hK' _ ?_)
        clear hK' K'
        try simp only [thn, inb]
        refine Again.mk (n + 1) ⟨by omega, fun i hi hin => ?_⟩ (by omega) ?_
        · by_cases h : i = n
          · subst h; simpa using he
          · exact hp i hi (by omega)
        refine Imp.to' (fun _ _ => trivial) (by simp [dS]) (by simp [dS])
    · refine AW_exit (hK1 _ ?_)
      refine AW_rg (tyOf_good _) [4] [] (fun _ _ => trivial) fun K' hK' => ?_
      repeat (refine sxf_next fun K2 hK2 => ?_; simp; (repeat (refine ⟨by omega, ?_⟩)); refine hK2 _ ?_; clear hK2 K2)
      refine sxf_nil (hK' _ ?_)
      refine AW.st (by simp; rfl) ?_
      clear hK' K'
      refine AW_ret ?_
      simp [D.le, D.le.go, takeMap]
      exact (idx_miss (p := fun x => s == x) fun i hi => hp i hi (by omega)).symm

theorem contains_spec (G : Glob) (k : Option Bool) (ws : List (List UInt8)) (s : List UInt8) (hl : ws.length < 2^60) : PureC Tryd.prog G 56 [.sl k (ws.map fun x => [dS x]), dS s] (.v (.bool (ws.any fun x => s == x))) := by
  refine PureC.of_body (tyOf_good _) Tryd.func56 rfl rfl (rs := [.tmp 4]) Tryd.results56 (by simp [Tryd.ntmps56]) fun X => ?_
  simp only [Tryd.ntmps56, List.map]
  refine AW_rg (tyOf_good _) [0, 1] [] (fun _ _ => trivial) fun K' hK' => ?_
  repeat (refine sxf_next fun K2 hK2 => ?_; simp; (repeat (refine ⟨by omega, ?_⟩)); refine hK2 _ ?_; clear hK2 K2)
  refine sxf_nil (hK' _ ?_)
  refine AW.st (by simp; rfl) ?_
  clear hK' K'
  refine AW_rg (tyOf_good _) [4] [] (fun _ _ => trivial) fun K' hK' => ?_
  repeat (refine sxf_next fun K2 hK2 => ?_; simp; (repeat (refine ⟨by omega, ?_⟩)); refine hK2 _ ?_; clear hK2 K2)
  refine sxf_next fun K2 hK2 => ?_
  simp
  refine callK.data (index_spec G k ws s hl) (by simp; rfl) (by first | exact D.leGo_refl _ | simp [takeMap, List.map_map, Function.comp_def, D.le, D.le.go, D.le_refl, D.leGo_refl]) ?_
  refine hK2 _ ?_
  clear hK2 K2
  simp only [putd, upd_lst]
  repeat (refine sxf_next fun K2 hK2 => ?_; simp; (repeat (refine ⟨by omega, ?_⟩)); refine hK2 _ ?_; clear hK2 K2)
  refine sxf_nil (hK' _ ?_)
  refine AW.st (by simp; rfl) ?_
  clear hK' K'
  refine AW_ret ?_
  simp [D.le, D.le.go, takeMap]
  exact idx_any (fun x => s == x) ws

set_option maxHeartbeats 4000000 in
theorem name_spec (G : Glob) (l : List UInt8) (hl : l.length < 2^60) : PureC Tryd.prog G 14 [dS l] (.v (.bool (nameF l))) := by
  have htrim := trim_spec G l hl
  have hcont := contains_spec G none wordsL l (by decide)
  refine PureC.of_body (tyOf_good _) Tryd.func14 rfl rfl (rs := [.tmp 2]) Tryd.results14 (by simp [Tryd.ntmps14]) fun X => ?_
  simp only [Tryd.ntmps14, List.map]
  refine AW_rg (tyOf_good _) [0] [] (fun _ _ => trivial) fun K' hK' => ?_
  repeat (refine sxf_next fun K2 hK2 => ?_; simp [dS]; (repeat (refine ⟨by omega, ?_⟩)); refine hK2 _ ?_; clear hK2 K2)
  refine sxf_nil (hK' _ ?_)
  refine AW.st (by simp [dS]; rfl) ?_
  clear hK' K'
  by_cases h1 : l = []
  · subst h1
    refine AW_rg (tyOf_good _) [2] [] (fun _ _ => trivial) fun K' hK' => ?_
    repeat (refine sxf_next fun K2 hK2 => ?_; simp [bs_nil, bs_list, binS]; (repeat (refine ⟨by omega, ?_⟩)); refine hK2 _ ?_; clear hK2 K2)
    refine sxf_nil (hK' _ ?_)
    refine AW.st (by simp [bs_nil, bs_list, binS]; rfl) ?_
    clear hK' K'
    refine AW_ret ?_
    simp [D.le, D.le.go, takeMap]
    simp [nameF]
  obtain ⟨a, l', hal⟩ : ∃ a l', l = a :: l' := by
    cases l with
    | nil => exact absurd rfl h1
    | cons a l' => exact ⟨a, l', rfl⟩
  have e0 : l[0]? = some a := by rw [hal]; rfl
  have e1 : l.head? = some a := by rw [hal]; rfl
  have h0 : 0 < l.length := by rw [hal]; simp
  have hg : l.getD 0 0 = a := by rw [hal]; rfl
  have hga : l[0] = a := by apply Option.some.inj; rw [← e0]; exact (List.getElem?_eq_getElem h0).symm
  by_cases h2 : (l.length : Int) ≤ 8
  · have h2' : l.length ≤ 8 := by omega
    by_cases h3 : (97 : Int) ≤ (a.toNat : Int)
    · have h3' : 97 ≤ a.toNat := by omega
      by_cases h4 : (a.toNat : Int) ≤ 122
      · have h4' : a.toNat ≤ 122 := by omega
        by_cases h5 : Lib.trimS l cutL = []
        · rw [h5] at htrim
          refine AW_rg (tyOf_good _) [2] [26] (fun _ _ => trivial) fun K' hK' => ?_
          repeat (refine sxf_next fun K2 hK2 => ?_; simp [bs_nil, bs_list, bs_size, bs_data, binS, e0, e1, h0, hga, h1, h2, h2', h3, h4, dS]; (repeat (refine ⟨by omega, ?_⟩)); refine hK2 _ ?_; clear hK2 K2)
          refine sxf_next fun K2 hK2 => ?_
          simp [bs_nil, bs_list, bs_size, bs_data, binS, e0, e1, h0, hga, h1, h2, h2', h3, h4, dS]
          refine callK.data (htrim) (by simp; rfl) (by first | exact D.leGo_refl _ | simp [takeMap, List.map_map, Function.comp_def, D.le, D.le.go, D.le_refl, D.leGo_refl, bs_nil, bs_list, bs_size, bs_data, binS, e0, e1, h0, hga, h1, h2, h2', h3, h4, dS]) ?_
          refine hK2 _ ?_
          clear hK2 K2
          simp only [putd, upd_lst]
          repeat (refine sxf_next fun K2 hK2 => ?_; simp [bs_nil, bs_list, bs_size, bs_data, binS, e0, e1, h0, hga, h1, h2, h2', h3, h4, dS]; (repeat (refine ⟨by omega, ?_⟩)); refine hK2 _ ?_; clear hK2 K2)
          refine sxf_next fun K2 hK2 => ?_
          simp [bs_nil, bs_list, bs_size, bs_data, binS, e0, e1, h0, hga, h1, h2, h2', h3, h4, dS]
          refine callK.lend (hcont) (by simp; rfl) (by first | exact D.leGo_refl _ | simp [takeMap, List.map_map, Function.comp_def, D.le, D.le.go, D.le_refl, D.leGo_refl, bs_nil, bs_list, bs_size, bs_data, binS, e0, e1, h0, hga, h1, h2, h2', h3, h4, dS]) (by simp [D.scalar]) ?_
          refine hK2 _ ?_
          clear hK2 K2
          simp only [putd, upd_lst]
          repeat (refine sxf_next fun K2 hK2 => ?_; simp [bs_nil, bs_list, bs_size, bs_data, binS, e0, e1, h0, hga, h1, h2, h2', h3, h4, dS]; (repeat (refine ⟨by omega, ?_⟩)); refine hK2 _ ?_; clear hK2 K2)
          refine sxf_nil (hK' _ ?_)
          refine AW.st (by simp [bs_nil, bs_list, bs_size, bs_data, binS, e0, e1, h0, hga, h1, h2, h2', h3, h4, dS]; rfl) ?_
          clear hK' K'
          refine AW_ret ?_
          simp [D.le, D.le.go, takeMap]
          simp [nameF, h1, h2', hg, e0, h3', h4', h5]
        · have h5' : ¬ (Lib.trimS l cutL == []) = true := by simpa using h5
          refine AW_rg (tyOf_good _) [2] [] (fun _ _ => trivial) fun K' hK' => ?_
          repeat (refine sxf_next fun K2 hK2 => ?_; simp [bs_nil, bs_list, bs_size, bs_data, binS, e0, e1, h0, hga, h1, h2, h2', h3, h4, h5, dS]; (repeat (refine ⟨by omega, ?_⟩)); refine hK2 _ ?_; clear hK2 K2)
          refine sxf_next fun K2 hK2 => ?_
          simp [bs_nil, bs_list, bs_size, bs_data, binS, e0, e1, h0, hga, h1, h2, h2', h3, h4, h5, dS]
          refine callK.data (htrim) (by simp; rfl) (by first | exact D.leGo_refl _ | simp [takeMap, List.map_map, Function.comp_def, D.le, D.le.go, D.le_refl, D.leGo_refl, bs_nil, bs_list, bs_size, bs_data, binS, e0, e1, h0, hga, h1, h2, h2', h3, h4, h5, dS]) ?_
          refine hK2 _ ?_
          clear hK2 K2
          simp only [putd, upd_lst]
          repeat (refine sxf_next fun K2 hK2 => ?_; simp [bs_nil, bs_list, bs_size, bs_data, binS, e0, e1, h0, hga, h1, h2, h2', h3, h4, h5, dS]; (repeat (refine ⟨by omega, ?_⟩)); refine hK2 _ ?_; clear hK2 K2)
          refine sxf_nil (hK' _ ?_)
          refine AW.st (by simp [bs_nil, bs_list, bs_size, bs_data, binS, e0, e1, h0, hga, h1, h2, h2', h3, h4, h5, dS]; rfl) ?_
          clear hK' K'
          refine AW_ret ?_
          simp [D.le, D.le.go, takeMap]
          simp [nameF, h1, h2', hg, e0, h3', h4', h5]
      · have h4' : ¬ a.toNat ≤ 122 := by omega
        refine AW_rg (tyOf_good _) [2] [] (fun _ _ => trivial) fun K' hK' => ?_
        repeat (refine sxf_next fun K2 hK2 => ?_; simp [bs_nil, bs_list, bs_size, bs_data, binS, e0, e1, h0, hga, h1, h2, h2', h3, h4]; (repeat (refine ⟨by omega, ?_⟩)); refine hK2 _ ?_; clear hK2 K2)
        refine sxf_nil (hK' _ ?_)
        refine AW.st (by simp [bs_nil, bs_list, bs_size, bs_data, binS, e0, e1, h0, hga, h1, h2, h2', h3, h4]; rfl) ?_
        clear hK' K'
        refine AW_ret ?_
        simp [D.le, D.le.go, takeMap]
        simp [nameF, h1, h2', hg, e0, h3', h4']
    · have h3' : ¬ 97 ≤ a.toNat := by omega
      refine AW_rg (tyOf_good _) [2] [] (fun _ _ => trivial) fun K' hK' => ?_
      repeat (refine sxf_next fun K2 hK2 => ?_; simp [bs_nil, bs_list, bs_size, bs_data, binS, e0, e1, h0, hga, h1, h2, h2', h3]; (repeat (refine ⟨by omega, ?_⟩)); refine hK2 _ ?_; clear hK2 K2)
      refine sxf_nil (hK' _ ?_)
      refine AW.st (by simp [bs_nil, bs_list, bs_size, bs_data, binS, e0, e1, h0, hga, h1, h2, h2', h3]; rfl) ?_
      clear hK' K'
      refine AW_ret ?_
      simp [D.le, D.le.go, takeMap]
      simp [nameF, h1, h2', hg, e0, h3']
  · have h2' : ¬ l.length ≤ 8 := by omega
    refine AW_rg (tyOf_good _) [2] [] (fun _ _ => trivial) fun K' hK' => ?_
    repeat (refine sxf_next fun K2 hK2 => ?_; simp [bs_nil, bs_list, bs_size, bs_data, binS, e0, e1, h0, hga, h1, h2, h2']; (repeat (refine ⟨by omega, ?_⟩)); refine hK2 _ ?_; clear hK2 K2)
    refine sxf_nil (hK' _ ?_)
    refine AW.st (by simp [bs_nil, bs_list, bs_size, bs_data, binS, e0, e1, h0, hga, h1, h2, h2']; rfl) ?_
    clear hK' K'
    refine AW_ret ?_
    simp [D.le, D.le.go, takeMap]
    simp [nameF, h1, h2']
#print axioms name_spec
end Go.Proofs.YtoikggboakojlaaDoor

/-
  What is read, and how great it is at most: by what the arguments weigh.
-/
namespace Go.Proofs.YtoikggboakojlaaDoor
set_option linter.unusedSimpArgs false
set_option linter.unusedVariables false
open Go.Av Go.ChangeShapes Go.WideShapes Go.ChangeAt Go.RowKit
section
variable {P : Program} {H : Type} {enc : TypeId × Value → H} {w : World} {base : Nat} {spare : Nat → Bool} {held : Bool} {X : Nat → Prop}
theorem weightsAll_in {e : TypeId} : ∀ {l : List (DataW H)} {d : DataW H}, d ∈ l → ∀ n ∈ d.weights P e, n ∈ DataW.weightsAll P e l
  | [], _, h, _, _ => by cases h
  | d :: l, d', h, n, hn => by
    simp only [DataW.weightsAll, List.mem_append]
    rcases List.mem_cons.1 h with rfl | h
    · exact .inl hn
    · exact .inr (weightsAll_in h n hn)
/-- What is read of type t, if it weighs no more than a program may reach. -/
def ReadsW (enc : TypeId × Value → H) (P : Program) (w : World) (base : Nat) (spare : Nat → Bool) (held : Bool) (X : Nat → Prop) (t : TypeId) {α : Type} (p : α → Prop) (f : α → List D) : Prop :=
  ∀ fuel cs x, DataW.trod enc P w base spare held fuel t cs = some x → (∀ n ∈ x.1.weights P t, n ≤ reachBytes) → ∃ a, p a ∧ CellsRD w X cs (f a)
theorem ReadsAs.weighed {t : TypeId} {α : Type} {p : α → Prop} {f : α → List D} (h : ReadsAs enc P w base spare held X t p f) : ReadsW enc P w base spare held X t p f := fun fuel cs x hx _ => h fuel cs x hx
theorem readsW_string {t : TypeId} (ht : P.underlying t = some .string) : ReadsW enc P w base spare held X t (fun s : List UInt8 => s.length ≤ reachBytes) (fun s => [.v (.string (bs s))]) := by
  intro fuel cs x h hwt
  obtain ⟨s, rfl, rfl, _⟩ := DataW.trod_string ht h
  refine ⟨s.data.toList, hwt _ (by simp [DataW.weights]), .one ?_⟩
  have : bs s.data.toList = s := by cases s; simp [bs]
  rw [this]
  exact .v _
theorem readsW_slice {t e : TypeId} {α : Type} {p : α → Prop} {f : α → List D} {sz : Nat} (ht : P.underlying t = some (.slice e)) (hc : P.cellsOf e = sz) (hz : 0 < sz) (hby : 0 < P.bytesOf e) (hX : ∀ b, ¬ X b) (he : ReadsW enc P w base spare held X e p f) :
    ReadsW enc P w base spare held X t (fun l : List α => (∀ a ∈ l, p a) ∧ l.length ≤ reachBytes) (fun l => [.sl none (l.map f)]) := by
  intro fuel cs x h hwt
  rcases Deep.open_slice ht h with ⟨rfl, _⟩ | ⟨a, len, cap, m, n, DD, PP, rfl, hb, hl, hm, hmm, rfl, hx⟩
  · exact ⟨[], ⟨by simp, by simp⟩, .one (.nil (by simp))⟩
  · have hle : len ≤ m := by rw [hmm]; split <;> omega
    simp only [DataW.weights, ht, List.mem_cons, List.mem_append, List.length_map, List.length_range] at hwt
    have hlr : len ≤ reachBytes := by
      have h1 := hwt _ (.inl rfl)
      have h2 : len * 1 ≤ (len + (m - len)) * P.bytesOf e := Nat.mul_le_mul (by omega) hby
      omega
    have hdw : ∀ i, i < len → ∀ n ∈ (DD i).weights P e, n ≤ reachBytes := fun i hi n hn => hwt n (.inr (.inl (weightsAll_in (List.mem_map.2 ⟨i, List.mem_range.2 hi, rfl⟩) n hn)))
    rcases Nat.eq_zero_or_pos len with rfl | hpos
    · exact ⟨[], ⟨by simp, by simp⟩, .one (.empty (by simp) hm)⟩
    · have hel : ∀ i, i < len → ∃ x, p x ∧ ∃ cs', w.cells? base (a.add (i * P.cellsOf e)) (P.cellsOf e) = some cs' ∧ CellsRD w X cs' (f x) := fun i hi => by
        obtain ⟨cs', h1, h2⟩ := hx i (by omega)
        obtain ⟨x, hp, hr⟩ := he _ _ _ h2 (hdw i hi)
        exact ⟨x, hp, cs', h1, hr⟩
      have : Inhabited α := ⟨(hel 0 hpos).choose⟩
      obtain ⟨g, hg⟩ := Deep.choose_lt hel
      refine ⟨(List.range len).map g, ⟨fun y hy => ?_, by simp; omega⟩, .one ?_⟩
      · obtain ⟨i, hi, rfl⟩ := List.mem_map.1 hy
        exact (hg i (List.mem_range.1 hi)).1
      rw [hc] at hg
      have hcell : ∀ i j, i < len → j < sz → ∃ u, w.cell? ((a.add (i * sz)).add j) = some u ∧ (∀ c, (f (g i))[j]? = some c → RD w X u c) ∧ (f (g i)).length = sz := fun i j hi hj => by
        obtain ⟨_, cs', h1, h2, h3⟩ := hg i hi
        obtain ⟨_, hlen, hcs⟩ := World.cells?_some h1
        refine ⟨cs'[j], by rw [hcs j hj]; simp [hlen, hj], fun c hcc => h3 j _ c (by simp [hlen, hj]) hcc, by omega⟩
      have hspot : a.spot = none := by
        obtain ⟨u, hu, _⟩ := hcell 0 0 hpos hz
        simp only [Nat.zero_mul, Addr.add, if_true] at hu
        exact World.cell?_spot hu
      obtain ⟨b, off, spot⟩ := a
      dsimp only at hspot
      subst hspot
      have hcell : ∀ i j, i < len → j < sz → ∃ u, w.cell? ⟨b, off + (i * sz + j), none⟩ = some u ∧ (∀ c, (f (g i))[j]? = some c → RD w X u c) ∧ (f (g i)).length = sz := fun i j hi hj => by
        have := hcell i j hi hj
        rwa [addr_add, addr_add, Nat.add_assoc] at this
      refine .sl (f := fun i j => (w.cell? ⟨b, off + (i * sz + j), none⟩).getD undef) (by simp) (by simp) hl hm (hX b) (fun el hel => ?_) hz hpos (fun i j hi hj => ?_) (fun i j el c h1 h2 => ?_)
      · obtain ⟨y, hy, rfl⟩ := List.mem_map.1 hel
        obtain ⟨i, hi, rfl⟩ := List.mem_map.1 hy
        exact (hcell i 0 (List.mem_range.1 hi) hz).choose_spec.2.2
      · obtain ⟨u, hu, _⟩ := hcell i j hi hj
        rw [hu]; rfl
      · rw [List.getElem?_map, List.getElem?_map] at h1
        obtain ⟨y, hy, rfl⟩ := Option.map_eq_some_iff.1 h1
        obtain ⟨i', hi', rfl⟩ := Option.map_eq_some_iff.1 hy
        obtain ⟨hlt, rfl⟩ := List.getElem?_eq_some_iff.1 hi'
        rw [List.getElem_range] at h2
        simp only [List.length_range] at hlt
        have hj : j < sz := by
          obtain ⟨_, _, _, h3⟩ := hcell i 0 hlt hz
          rw [← h3]
          exact (List.getElem?_eq_some_iff.1 h2).1
        obtain ⟨u, hu, hr, _⟩ := hcell i j hlt hj
        rw [hu]
        exact hr c h2

theorem readsW_struct2 {t : TypeId} {f0 f1 : Field} {α β : Type} {p : α → Prop} {q : β → Prop} {f : α → List D} {g : β → List D} (ht : P.underlying t = some (.struct #[f0, f1])) (hn : P.cellsOf t = P.cellsOf f0.type + P.cellsOf f1.type) (h0 : f0.offset = 0) (h1 : f1.offset = P.cellsOf f0.type)
    (hf : ReadsW enc P w base spare held X f0.type p f) (hg : ReadsW enc P w base spare held X f1.type q g) : ReadsW enc P w base spare held X t (fun s : α × β => p s.1 ∧ q s.2) (fun s => f s.1 ++ g s.2) := by
  intro fuel cs x h hwt
  obtain ⟨y0, y1, n, hx, hl, t0, t1⟩ := trod_struct2 ht h
  subst hx
  simp only [DataW.weights, ht, DataW.weightsEach, List.map_cons, List.map_nil, List.mem_append, List.append_nil] at hwt
  obtain ⟨a, pa, ca⟩ := hf _ _ _ t0 fun n hn => hwt n (.inl hn)
  obtain ⟨b, pb, cb⟩ := hg _ _ _ t1 fun n hn => hwt n (.inr hn)
  refine ⟨(a, b), ⟨pa, pb⟩, ?_⟩
  have e0 : cs = (cs.drop f0.offset).take (P.cellsOf f0.type) ++ (cs.drop f1.offset).take (P.cellsOf f1.type) := by
    rw [h0, h1, List.drop_zero, List.take_of_length_le (l := List.drop _ _) (by simp; omega), List.take_append_drop]
  rw [e0]
  obtain ⟨la, ra⟩ := ca
  obtain ⟨lb, rb⟩ := cb
  refine ⟨by rw [List.length_append, List.length_append, la, lb], fun j u c hu hc => ?_⟩
  rcases Nat.lt_or_ge j (f a).length with hj | hj
  · rw [List.getElem?_append_left (by omega)] at hu hc
    exact ra j u c hu hc
  · rw [List.getElem?_append_right (by omega)] at hu hc
    rw [la] at hu
    exact rb _ u c hu hc

end
end Go.Proofs.YtoikggboakojlaaDoor
