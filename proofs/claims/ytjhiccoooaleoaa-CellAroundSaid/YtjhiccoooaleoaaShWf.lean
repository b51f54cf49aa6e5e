import Derived.Test.YtjhiccoooaleoaaShWe
set_option linter.all false
set_option linter.unusedVariables false
set_option linter.unusedSimpArgs false
set_option autoImplicit false
namespace Go.Sh.T
open Go.Sh
set_option maxHeartbeats 4000000
set_option maxRecDepth 20000
theorem aroundF_cons {x y a b w h : Int} {v : List SV} {r : List (List SV)} : ∀ {n : Nat}, aroundF x y a b w h n = v :: r →
    ∃ j, j < n ∧ (∀ i, j < i → i < n → okAt x y a b w h (8 - (i + 1 : Nat)) = false) ∧ okAt x y a b w h (8 - (j + 1 : Nat)) = true ∧
      v = [.int .i64 (8 - (j + 1 : Nat)), .agg [.int .i64 (x + turnX (8 - (j + 1 : Nat))), .int .i64 (y + turnY (8 - (j + 1 : Nat)))]] ∧ r = aroundF x y a b w h j
  | 0, e => by cases e
  | n + 1, e => by
    unfold aroundF at e
    split at e
    · rename_i ho
      simp only [List.cons.injEq] at e
      exact ⟨n, by omega, fun i h1 h2 => by omega, ho, e.1.symm, e.2.symm⟩
    · rename_i ho
      obtain ⟨j, h1, h2, h3⟩ := aroundF_cons e
      refine ⟨j, by omega, fun i h4 h5 => ?_, h3⟩
      by_cases hi : i = n
      · subst hi; simpa using ho
      · exact h2 i h4 (by omega)
theorem aroundF_nil {x y a b w h : Int} : ∀ {n : Nat}, aroundF x y a b w h n = [] → ∀ i, i < n → okAt x y a b w h (8 - (i + 1 : Nat)) = false
  | 0, _, i, hi => by omega
  | n + 1, e, i, hi => by
    unfold aroundF at e
    split at e
    · cases e
    · rename_i ho
      by_cases h : i = n
      · subst h; simpa using ho
      · exact aroundF_nil e i (by omega)
abbrev aroundM (m : Mem) (x y a b w h most : Int) (next k : Int) (res : Bool) (st : LoopState) (pd : Option Jump) : Mem :=
  (m.fr [.cells true [.int .i64 x, .int .i64 y], .cells true [.int .i64 a, .int .i64 b, .int .i64 w, .int .i64 h], .cells true [.int .u8 most], .cells true [.bool res], .cells true [.int .i64 next], .cells true [.int .i64 k],
    .loop ⟨st, pd, [(3, .ptr (.st m.dep 0) 0), (4, .ptr (.st m.dep 1) 0), (5, .ptr (.st m.dep 2) 0), (6, .ptr (.st m.dep 3) 0), (8, .ptr (.st m.dep 4) 0), (9, .ptr (.st m.dep 5) 0), (23, .fn f_cell_Around_1 [] [.ptr (.hp m.hl 0) 0, .ptr (.hp (m.hl + 1) 0) 0])], [24, 25], s_law03_CellAround_p3, s_law03_CellAround_p16⟩] none).hap
      [(0, .cells true [.int .i64 x, .int .i64 y]), (0, .cells true [.int .i64 a, .int .i64 b, .int .i64 w, .int .i64 h])]
theorem r_law03_CellAround (m : Mem) (hm : m.Wf) (x y a b w hh most : Int) (hmost : 0 ≤ most ∧ most ≤ 255) : RF tb f_law03_CellAround [.agg [.int .i64 x, .int .i64 y], rect a b w hh, .int .u8 most] m = some (.bool true, m) := by
  rw [RF_go t_law03_CellAround _ _ rfl]
  simp (maxDischargeDepth := 8) only [go_sem, reduceIte, reduceCtorEq, Nat.reduceEqDiff, Nat.reduceAdd, Nat.reduceMul, Nat.reduceSub, Nat.reduceLeDiff, Nat.reduceLT, Nat.reduceBEq, Int.reduceToNat, Int.reduceEq, Int.reduceLT, Int.reduceLE, Int.reduceAdd, Int.reduceSub, Int.reduceMul, Int.reduceNeg, s_law03_CellAround, hm, r_cell_Around]
  obtain ⟨M', U, go, hR, h1, h2⟩ := rounds_of (F := tb) (.st m.dep 6) (boxes2 (m.dep + 1) m.hl (m.hl + 1) x y a b w hh) (m.hl + 2)
    (fun k m' u => ∃ j : Nat, j ≤ 8 ∧ k ≤ 8 - j ∧ (aroundF x y a b w hh 8).drop k = aroundF x y a b w hh j ∧ m' = aroundM m x y a b w hh most (8 - (j : Int)) k false .ready none ∧ u = none)
    (fun k m' u => ∃ z, m' = aroundM m x y a b w hh most z (k + 1) true .done (some .ret) ∧ u = none) (aroundF x y a b w hh 8) 0 (aroundM m x y a b w hh most 0 0 false .ready none) none ⟨8, Nat.le_refl _, Nat.le_refl _, rfl, rfl, rfl⟩ (by
      rintro k v mm u hi ⟨j, hj8, hk, hdr, rfl, rfl⟩
      simp only [Nat.zero_add] at hk hdr ⊢
      have hne : aroundF x y a b w hh j = v :: (aroundF x y a b w hh 8).drop (k + 1) := by
        rw [← hdr]
        have := List.drop_eq_getElem_cons (l := aroundF x y a b w hh 8) (i := k) (List.getElem?_eq_some_iff.1 hi).1
        rw [this, (List.getElem?_eq_some_iff.1 hi).2]
      obtain ⟨j', hj1, hno, hok, rfl, hr⟩ := aroundF_cons hne
      have q6 : IntKind.wrap .i64 ((k : Int) + 1) = (k : Int) + 1 := wrap_small (by omega) (by omega)
      have q7 : IntKind.wrap .i64 most = most := wrap_small (by omega) (by omega)
      have hso : stepOk x y (8 - (j' + 1 : Nat)) = true ∧ hasB a b w hh (x + turnX (8 - (j' + 1 : Nat))) (y + turnY (8 - (j' + 1 : Nat))) = true := by simpa [okAt] using hok
      generalize hdd : (8 : Int) - ((j' + 1 : Nat) : Int) = dd at *
      have ex : stepX x y dd = x + turnX dd := by unfold stepX; rw [if_pos hso.1]
      have ey : stepY x y dd = y + turnY dd := by unfold stepY; rw [if_pos hso.1]
      have wj : IntKind.wrap .i64 (dd + 1) = 8 - (j' : Int) := by rw [wrap_small (by omega) (by omega)]; omega
      have fin1 : (List.drop (k + 1) (aroundF x y a b w hh 8) = aroundF x y a b w hh j') := hr
      cases hst : decide ((k : Int) + 1 > most)
      · refine ⟨aroundM m x y a b w hh most (8 - (j' : Int)) (k + 1) false .ready none, none, true, ?_, ⟨rfl, by simp (maxDischargeDepth := 8) only [go_sem, reduceIte, reduceCtorEq, Nat.reduceEqDiff, Nat.reduceAdd, Nat.reduceMul, Nat.reduceSub, Nat.reduceLeDiff, Nat.reduceLT, Nat.reduceBEq, Int.reduceToNat, Int.reduceEq, Int.reduceLT, Int.reduceLE, Int.reduceAdd, Int.reduceSub, Int.reduceMul, Int.reduceNeg, aroundM, hm], by simp (maxDischargeDepth := 8) only [go_sem, reduceIte, reduceCtorEq, Nat.reduceEqDiff, Nat.reduceAdd, Nat.reduceMul, Nat.reduceSub, Nat.reduceLeDiff, Nat.reduceLT, Nat.reduceBEq, Int.reduceToNat, Int.reduceEq, Int.reduceLT, Int.reduceLE, Int.reduceAdd, Int.reduceSub, Int.reduceMul, Int.reduceNeg, aroundM], by simp (maxDischargeDepth := 8) only [go_sem, reduceIte, reduceCtorEq, Nat.reduceEqDiff, Nat.reduceAdd, Nat.reduceMul, Nat.reduceSub, Nat.reduceLeDiff, Nat.reduceLT, Nat.reduceBEq, Int.reduceToNat, Int.reduceEq, Int.reduceLT, Int.reduceLE, Int.reduceAdd, Int.reduceSub, Int.reduceMul, Int.reduceNeg, aroundM]⟩, .inl (by simp (maxDischargeDepth := 8) only [go_sem, reduceIte, reduceCtorEq, Nat.reduceEqDiff, Nat.reduceAdd, Nat.reduceMul, Nat.reduceSub, Nat.reduceLeDiff, Nat.reduceLT, Nat.reduceBEq, Int.reduceToNat, Int.reduceEq, Int.reduceLT, Int.reduceLE, Int.reduceAdd, Int.reduceSub, Int.reduceMul, Int.reduceNeg, aroundM]), fun _ => ⟨j', by omega, by omega, hr, rfl, rfl⟩, fun h => (by cases h)⟩
        intro fs e
        rw [RV_go (l := ⟨.ready, none, _, _, _, _⟩) _ _ _ (by simp (maxDischargeDepth := 8) only [go_sem, reduceIte, reduceCtorEq, Nat.reduceEqDiff, Nat.reduceAdd, Nat.reduceMul, Nat.reduceSub, Nat.reduceLeDiff, Nat.reduceLT, Nat.reduceBEq, Int.reduceToNat, Int.reduceEq, Int.reduceLT, Int.reduceLE, Int.reduceAdd, Int.reduceSub, Int.reduceMul, Int.reduceNeg, aroundM]; rfl) rfl rfl (by simp (maxDischargeDepth := 8) only [go_sem, reduceIte, reduceCtorEq, Nat.reduceEqDiff, Nat.reduceAdd, Nat.reduceMul, Nat.reduceSub, Nat.reduceLeDiff, Nat.reduceLT, Nat.reduceBEq, Int.reduceToNat, Int.reduceEq, Int.reduceLT, Int.reduceLE, Int.reduceAdd, Int.reduceSub, Int.reduceMul, Int.reduceNeg, aroundM, hm])]
        simp (maxDischargeDepth := 8) only [go_sem, reduceIte, reduceCtorEq, Nat.reduceEqDiff, Nat.reduceAdd, Nat.reduceMul, Nat.reduceSub, Nat.reduceLeDiff, Nat.reduceLT, Nat.reduceBEq, Int.reduceToNat, Int.reduceEq, Int.reduceLT, Int.reduceLE, Int.reduceAdd, Int.reduceSub, Int.reduceMul, Int.reduceNeg, aroundM, hm]
        rw [KL_keep _ _ _ (by simp (maxDischargeDepth := 8) only [go_sem, reduceIte, reduceCtorEq, Nat.reduceEqDiff, Nat.reduceAdd, Nat.reduceMul, Nat.reduceSub, Nat.reduceLeDiff, Nat.reduceLT, Nat.reduceBEq, Int.reduceToNat, Int.reduceEq, Int.reduceLT, Int.reduceLE, Int.reduceAdd, Int.reduceSub, Int.reduceMul, Int.reduceNeg])]
        simp (maxDischargeDepth := 8) only [go_sem, reduceIte, reduceCtorEq, Nat.reduceEqDiff, Nat.reduceAdd, Nat.reduceMul, Nat.reduceSub, Nat.reduceLeDiff, Nat.reduceLT, Nat.reduceBEq, Int.reduceToNat, Int.reduceEq, Int.reduceLT, Int.reduceLE, Int.reduceAdd, Int.reduceSub, Int.reduceMul, Int.reduceNeg]
        refine KL_indE (α := Nat) (fun i => i) (fun i => [(3, .ptr (.st m.dep 0) 0), (4, .ptr (.st m.dep 1) 0), (5, .ptr (.st m.dep 2) 0), (6, .ptr (.st m.dep 3) 0), (8, .ptr (.st m.dep 4) 0), (9, .ptr (.st m.dep 5) 0), (10, .int .i64 dd), (11, .ptr (.st (fs.length + (m.dep + 1)) 0) 0)])
          (fun i => (((aroundM m x y a b w hh most (8 - (i : Int)) k false .busy none).frs fs e).fr [.cells true [.int .i64 (x + turnX dd), .int .i64 (y + turnY dd)]] none)) (fun i => j' + 1 ≤ i ∧ i ≤ j) ?_ j ⟨by omega, by omega⟩
        rintro i ⟨hi1, hi2⟩ ih
        simp (maxDischargeDepth := 8) only [go_sem, reduceIte, reduceCtorEq, Nat.reduceEqDiff, Nat.reduceAdd, Nat.reduceMul, Nat.reduceSub, Nat.reduceLeDiff, Nat.reduceLT, Nat.reduceBEq, Int.reduceToNat, Int.reduceEq, Int.reduceLT, Int.reduceLE, Int.reduceAdd, Int.reduceSub, Int.reduceMul, Int.reduceNeg, aroundM, hm]
        by_cases hij : i = j' + 1
        · have c1 : decide ((8 : Int) - (i : Int) < dd) = false := decide_eq_false (by omega)
          have e8 : (8 : Int) - (i : Int) = dd := by omega
          simp (maxDischargeDepth := 8) only [go_sem, reduceIte, reduceCtorEq, Nat.reduceEqDiff, Nat.reduceAdd, Nat.reduceMul, Nat.reduceSub, Nat.reduceLeDiff, Nat.reduceLT, Nat.reduceBEq, Int.reduceToNat, Int.reduceEq, Int.reduceLT, Int.reduceLE, Int.reduceAdd, Int.reduceSub, Int.reduceMul, Int.reduceNeg, show decide (dd < dd) = false from decide_eq_false (Int.lt_irrefl _), hm, r_ref03_Step, ex, ey, hso.1, e8, r_ref03_Has, hso.2, wj, q6, q7, hst, r_law03_awake]
        · obtain ⟨i', rfl⟩ : ∃ i', i = i' + 1 := ⟨i - 1, by omega⟩
          have hno' := hno i' (by omega) (by omega)
          have c1 : decide ((8 : Int) - ((i' + 1 : Nat) : Int) < dd) = true := decide_eq_true (by omega)
          have wi : IntKind.wrap .i64 (8 - ((i' + 1 : Nat) : Int) + 1) = 8 - (i' : Int) := by rw [wrap_small (by omega) (by omega)]; omega
          generalize hde : (8 : Int) - ((i' + 1 : Nat) : Int) = de at *
          simp (maxDischargeDepth := 8) only [go_sem, reduceIte, reduceCtorEq, Nat.reduceEqDiff, Nat.reduceAdd, Nat.reduceMul, Nat.reduceSub, Nat.reduceLeDiff, Nat.reduceLT, Nat.reduceBEq, Int.reduceToNat, Int.reduceEq, Int.reduceLT, Int.reduceLE, Int.reduceAdd, Int.reduceSub, Int.reduceMul, Int.reduceNeg, c1, hm, r_ref03_Step, r_ref03_Has]
          cases hs : stepOk x y de with
          | false =>
            simp (maxDischargeDepth := 8) only [go_sem, reduceIte, reduceCtorEq, Nat.reduceEqDiff, Nat.reduceAdd, Nat.reduceMul, Nat.reduceSub, Nat.reduceLeDiff, Nat.reduceLT, Nat.reduceBEq, Int.reduceToNat, Int.reduceEq, Int.reduceLT, Int.reduceLE, Int.reduceAdd, Int.reduceSub, Int.reduceMul, Int.reduceNeg, hm, wi]
            rw [KL_keep _ _ _ (by simp (maxDischargeDepth := 8) only [go_sem, reduceIte, reduceCtorEq, Nat.reduceEqDiff, Nat.reduceAdd, Nat.reduceMul, Nat.reduceSub, Nat.reduceLeDiff, Nat.reduceLT, Nat.reduceBEq, Int.reduceToNat, Int.reduceEq, Int.reduceLT, Int.reduceLE, Int.reduceAdd, Int.reduceSub, Int.reduceMul, Int.reduceNeg])]
            simp (maxDischargeDepth := 8) only [go_sem, reduceIte, reduceCtorEq, Nat.reduceEqDiff, Nat.reduceAdd, Nat.reduceMul, Nat.reduceSub, Nat.reduceLeDiff, Nat.reduceLT, Nat.reduceBEq, Int.reduceToNat, Int.reduceEq, Int.reduceLT, Int.reduceLE, Int.reduceAdd, Int.reduceSub, Int.reduceMul, Int.reduceNeg]
            exact ih i' ⟨by omega, by omega⟩ (by omega)
          | true =>
            have e1 : stepX x y de = x + turnX de := by simp [stepX, hs]
            have e2 : stepY x y de = y + turnY de := by simp [stepY, hs]
            have e3 : hasB a b w hh (x + turnX de) (y + turnY de) = false := by simpa [okAt, hs] using hno'
            simp (maxDischargeDepth := 8) only [go_sem, reduceIte, reduceCtorEq, Nat.reduceEqDiff, Nat.reduceAdd, Nat.reduceMul, Nat.reduceSub, Nat.reduceLeDiff, Nat.reduceLT, Nat.reduceBEq, Int.reduceToNat, Int.reduceEq, Int.reduceLT, Int.reduceLE, Int.reduceAdd, Int.reduceSub, Int.reduceMul, Int.reduceNeg, hm, r_ref03_Has, e1, e2, e3, wi]
            rw [KL_keep _ _ _ (by simp (maxDischargeDepth := 8) only [go_sem, reduceIte, reduceCtorEq, Nat.reduceEqDiff, Nat.reduceAdd, Nat.reduceMul, Nat.reduceSub, Nat.reduceLeDiff, Nat.reduceLT, Nat.reduceBEq, Int.reduceToNat, Int.reduceEq, Int.reduceLT, Int.reduceLE, Int.reduceAdd, Int.reduceSub, Int.reduceMul, Int.reduceNeg])]
            simp (maxDischargeDepth := 8) only [go_sem, reduceIte, reduceCtorEq, Nat.reduceEqDiff, Nat.reduceAdd, Nat.reduceMul, Nat.reduceSub, Nat.reduceLeDiff, Nat.reduceLT, Nat.reduceBEq, Int.reduceToNat, Int.reduceEq, Int.reduceLT, Int.reduceLE, Int.reduceAdd, Int.reduceSub, Int.reduceMul, Int.reduceNeg]
            exact ih i' ⟨by omega, by omega⟩ (by omega)
      · refine ⟨aroundM m x y a b w hh most (8 - (j' : Int)) (k + 1) true .done (some .ret), none, false, ?_, ⟨rfl, by simp (maxDischargeDepth := 8) only [go_sem, reduceIte, reduceCtorEq, Nat.reduceEqDiff, Nat.reduceAdd, Nat.reduceMul, Nat.reduceSub, Nat.reduceLeDiff, Nat.reduceLT, Nat.reduceBEq, Int.reduceToNat, Int.reduceEq, Int.reduceLT, Int.reduceLE, Int.reduceAdd, Int.reduceSub, Int.reduceMul, Int.reduceNeg, aroundM, hm], by simp (maxDischargeDepth := 8) only [go_sem, reduceIte, reduceCtorEq, Nat.reduceEqDiff, Nat.reduceAdd, Nat.reduceMul, Nat.reduceSub, Nat.reduceLeDiff, Nat.reduceLT, Nat.reduceBEq, Int.reduceToNat, Int.reduceEq, Int.reduceLT, Int.reduceLE, Int.reduceAdd, Int.reduceSub, Int.reduceMul, Int.reduceNeg, aroundM], by simp (maxDischargeDepth := 8) only [go_sem, reduceIte, reduceCtorEq, Nat.reduceEqDiff, Nat.reduceAdd, Nat.reduceMul, Nat.reduceSub, Nat.reduceLeDiff, Nat.reduceLT, Nat.reduceBEq, Int.reduceToNat, Int.reduceEq, Int.reduceLT, Int.reduceLE, Int.reduceAdd, Int.reduceSub, Int.reduceMul, Int.reduceNeg, aroundM]⟩, .inl (by simp (maxDischargeDepth := 8) only [go_sem, reduceIte, reduceCtorEq, Nat.reduceEqDiff, Nat.reduceAdd, Nat.reduceMul, Nat.reduceSub, Nat.reduceLeDiff, Nat.reduceLT, Nat.reduceBEq, Int.reduceToNat, Int.reduceEq, Int.reduceLT, Int.reduceLE, Int.reduceAdd, Int.reduceSub, Int.reduceMul, Int.reduceNeg, aroundM]), fun h => (by cases h), fun _ => ⟨_, rfl, rfl⟩⟩
        intro fs e
        rw [RV_go (l := ⟨.ready, none, _, _, _, _⟩) _ _ _ (by simp (maxDischargeDepth := 8) only [go_sem, reduceIte, reduceCtorEq, Nat.reduceEqDiff, Nat.reduceAdd, Nat.reduceMul, Nat.reduceSub, Nat.reduceLeDiff, Nat.reduceLT, Nat.reduceBEq, Int.reduceToNat, Int.reduceEq, Int.reduceLT, Int.reduceLE, Int.reduceAdd, Int.reduceSub, Int.reduceMul, Int.reduceNeg, aroundM]; rfl) rfl rfl (by simp (maxDischargeDepth := 8) only [go_sem, reduceIte, reduceCtorEq, Nat.reduceEqDiff, Nat.reduceAdd, Nat.reduceMul, Nat.reduceSub, Nat.reduceLeDiff, Nat.reduceLT, Nat.reduceBEq, Int.reduceToNat, Int.reduceEq, Int.reduceLT, Int.reduceLE, Int.reduceAdd, Int.reduceSub, Int.reduceMul, Int.reduceNeg, aroundM, hm])]
        simp (maxDischargeDepth := 8) only [go_sem, reduceIte, reduceCtorEq, Nat.reduceEqDiff, Nat.reduceAdd, Nat.reduceMul, Nat.reduceSub, Nat.reduceLeDiff, Nat.reduceLT, Nat.reduceBEq, Int.reduceToNat, Int.reduceEq, Int.reduceLT, Int.reduceLE, Int.reduceAdd, Int.reduceSub, Int.reduceMul, Int.reduceNeg, aroundM, hm]
        rw [KL_keep _ _ _ (by simp (maxDischargeDepth := 8) only [go_sem, reduceIte, reduceCtorEq, Nat.reduceEqDiff, Nat.reduceAdd, Nat.reduceMul, Nat.reduceSub, Nat.reduceLeDiff, Nat.reduceLT, Nat.reduceBEq, Int.reduceToNat, Int.reduceEq, Int.reduceLT, Int.reduceLE, Int.reduceAdd, Int.reduceSub, Int.reduceMul, Int.reduceNeg])]
        simp (maxDischargeDepth := 8) only [go_sem, reduceIte, reduceCtorEq, Nat.reduceEqDiff, Nat.reduceAdd, Nat.reduceMul, Nat.reduceSub, Nat.reduceLeDiff, Nat.reduceLT, Nat.reduceBEq, Int.reduceToNat, Int.reduceEq, Int.reduceLT, Int.reduceLE, Int.reduceAdd, Int.reduceSub, Int.reduceMul, Int.reduceNeg]
        refine KL_indE (α := Nat) (fun i => i) (fun i => [(3, .ptr (.st m.dep 0) 0), (4, .ptr (.st m.dep 1) 0), (5, .ptr (.st m.dep 2) 0), (6, .ptr (.st m.dep 3) 0), (8, .ptr (.st m.dep 4) 0), (9, .ptr (.st m.dep 5) 0), (10, .int .i64 dd), (11, .ptr (.st (fs.length + (m.dep + 1)) 0) 0)])
          (fun i => (((aroundM m x y a b w hh most (8 - (i : Int)) k false .busy none).frs fs e).fr [.cells true [.int .i64 (x + turnX dd), .int .i64 (y + turnY dd)]] none)) (fun i => j' + 1 ≤ i ∧ i ≤ j) ?_ j ⟨by omega, by omega⟩
        rintro i ⟨hi1, hi2⟩ ih
        simp (maxDischargeDepth := 8) only [go_sem, reduceIte, reduceCtorEq, Nat.reduceEqDiff, Nat.reduceAdd, Nat.reduceMul, Nat.reduceSub, Nat.reduceLeDiff, Nat.reduceLT, Nat.reduceBEq, Int.reduceToNat, Int.reduceEq, Int.reduceLT, Int.reduceLE, Int.reduceAdd, Int.reduceSub, Int.reduceMul, Int.reduceNeg, aroundM, hm]
        by_cases hij : i = j' + 1
        · have c1 : decide ((8 : Int) - (i : Int) < dd) = false := decide_eq_false (by omega)
          have e8 : (8 : Int) - (i : Int) = dd := by omega
          simp (maxDischargeDepth := 8) only [go_sem, reduceIte, reduceCtorEq, Nat.reduceEqDiff, Nat.reduceAdd, Nat.reduceMul, Nat.reduceSub, Nat.reduceLeDiff, Nat.reduceLT, Nat.reduceBEq, Int.reduceToNat, Int.reduceEq, Int.reduceLT, Int.reduceLE, Int.reduceAdd, Int.reduceSub, Int.reduceMul, Int.reduceNeg, show decide (dd < dd) = false from decide_eq_false (Int.lt_irrefl _), hm, r_ref03_Step, ex, ey, hso.1, e8, r_ref03_Has, hso.2, wj, q6, q7, hst, r_law03_awake]
        · obtain ⟨i', rfl⟩ : ∃ i', i = i' + 1 := ⟨i - 1, by omega⟩
          have hno' := hno i' (by omega) (by omega)
          have c1 : decide ((8 : Int) - ((i' + 1 : Nat) : Int) < dd) = true := decide_eq_true (by omega)
          have wi : IntKind.wrap .i64 (8 - ((i' + 1 : Nat) : Int) + 1) = 8 - (i' : Int) := by rw [wrap_small (by omega) (by omega)]; omega
          generalize hde : (8 : Int) - ((i' + 1 : Nat) : Int) = de at *
          simp (maxDischargeDepth := 8) only [go_sem, reduceIte, reduceCtorEq, Nat.reduceEqDiff, Nat.reduceAdd, Nat.reduceMul, Nat.reduceSub, Nat.reduceLeDiff, Nat.reduceLT, Nat.reduceBEq, Int.reduceToNat, Int.reduceEq, Int.reduceLT, Int.reduceLE, Int.reduceAdd, Int.reduceSub, Int.reduceMul, Int.reduceNeg, c1, hm, r_ref03_Step, r_ref03_Has]
          cases hs : stepOk x y de with
          | false =>
            simp (maxDischargeDepth := 8) only [go_sem, reduceIte, reduceCtorEq, Nat.reduceEqDiff, Nat.reduceAdd, Nat.reduceMul, Nat.reduceSub, Nat.reduceLeDiff, Nat.reduceLT, Nat.reduceBEq, Int.reduceToNat, Int.reduceEq, Int.reduceLT, Int.reduceLE, Int.reduceAdd, Int.reduceSub, Int.reduceMul, Int.reduceNeg, hm, wi]
            rw [KL_keep _ _ _ (by simp (maxDischargeDepth := 8) only [go_sem, reduceIte, reduceCtorEq, Nat.reduceEqDiff, Nat.reduceAdd, Nat.reduceMul, Nat.reduceSub, Nat.reduceLeDiff, Nat.reduceLT, Nat.reduceBEq, Int.reduceToNat, Int.reduceEq, Int.reduceLT, Int.reduceLE, Int.reduceAdd, Int.reduceSub, Int.reduceMul, Int.reduceNeg])]
            simp (maxDischargeDepth := 8) only [go_sem, reduceIte, reduceCtorEq, Nat.reduceEqDiff, Nat.reduceAdd, Nat.reduceMul, Nat.reduceSub, Nat.reduceLeDiff, Nat.reduceLT, Nat.reduceBEq, Int.reduceToNat, Int.reduceEq, Int.reduceLT, Int.reduceLE, Int.reduceAdd, Int.reduceSub, Int.reduceMul, Int.reduceNeg]
            exact ih i' ⟨by omega, by omega⟩ (by omega)
          | true =>
            have e1 : stepX x y de = x + turnX de := by simp [stepX, hs]
            have e2 : stepY x y de = y + turnY de := by simp [stepY, hs]
            have e3 : hasB a b w hh (x + turnX de) (y + turnY de) = false := by simpa [okAt, hs] using hno'
            simp (maxDischargeDepth := 8) only [go_sem, reduceIte, reduceCtorEq, Nat.reduceEqDiff, Nat.reduceAdd, Nat.reduceMul, Nat.reduceSub, Nat.reduceLeDiff, Nat.reduceLT, Nat.reduceBEq, Int.reduceToNat, Int.reduceEq, Int.reduceLT, Int.reduceLE, Int.reduceAdd, Int.reduceSub, Int.reduceMul, Int.reduceNeg, hm, r_ref03_Has, e1, e2, e3, wi]
            rw [KL_keep _ _ _ (by simp (maxDischargeDepth := 8) only [go_sem, reduceIte, reduceCtorEq, Nat.reduceEqDiff, Nat.reduceAdd, Nat.reduceMul, Nat.reduceSub, Nat.reduceLeDiff, Nat.reduceLT, Nat.reduceBEq, Int.reduceToNat, Int.reduceEq, Int.reduceLT, Int.reduceLE, Int.reduceAdd, Int.reduceSub, Int.reduceMul, Int.reduceNeg])]
            simp (maxDischargeDepth := 8) only [go_sem, reduceIte, reduceCtorEq, Nat.reduceEqDiff, Nat.reduceAdd, Nat.reduceMul, Nat.reduceSub, Nat.reduceLeDiff, Nat.reduceLT, Nat.reduceBEq, Int.reduceToNat, Int.reduceEq, Int.reduceLT, Int.reduceLE, Int.reduceAdd, Int.reduceSub, Int.reduceMul, Int.reduceNeg]
            exact ih i' ⟨by omega, by omega⟩ (by omega))
  have hrun := r_cell_Around_1 (D := m.dep) (i := 6) (d := m.dep + 1) (n := m.hl) (k := m.hl + 1) (x := x) (y := y) (a := a) (b := b) (w := w) (hh := hh) (by omega) (M := aroundM m x y a b w hh most 0 0 false .ready none) ⟨rfl, by simp (maxDischargeDepth := 8) only [go_sem, reduceIte, reduceCtorEq, Nat.reduceEqDiff, Nat.reduceAdd, Nat.reduceMul, Nat.reduceSub, Nat.reduceLeDiff, Nat.reduceLT, Nat.reduceBEq, Int.reduceToNat, Int.reduceEq, Int.reduceLT, Int.reduceLE, Int.reduceAdd, Int.reduceSub, Int.reduceMul, Int.reduceNeg, aroundM, hm], by simp (maxDischargeDepth := 8) only [go_sem, reduceIte, reduceCtorEq, Nat.reduceEqDiff, Nat.reduceAdd, Nat.reduceMul, Nat.reduceSub, Nat.reduceLeDiff, Nat.reduceLT, Nat.reduceBEq, Int.reduceToNat, Int.reduceEq, Int.reduceLT, Int.reduceLE, Int.reduceAdd, Int.reduceSub, Int.reduceMul, Int.reduceNeg, aroundM], by simp (maxDischargeDepth := 8) only [go_sem, reduceIte, reduceCtorEq, Nat.reduceEqDiff, Nat.reduceAdd, Nat.reduceMul, Nat.reduceSub, Nat.reduceLeDiff, Nat.reduceLT, Nat.reduceBEq, Int.reduceToNat, Int.reduceEq, Int.reduceLT, Int.reduceLE, Int.reduceAdd, Int.reduceSub, Int.reduceMul, Int.reduceNeg, aroundM]⟩ (by simpa [aroundM, hl_hap, hl_fr] using hR) [] none
  simp (maxDischargeDepth := 8) only [go_sem, reduceIte, reduceCtorEq, Nat.reduceEqDiff, Nat.reduceAdd, Nat.reduceMul, Nat.reduceSub, Nat.reduceLeDiff, Nat.reduceLT, Nat.reduceBEq, Int.reduceToNat, Int.reduceEq, Int.reduceLT, Int.reduceLE, Int.reduceAdd, Int.reduceSub, Int.reduceMul, Int.reduceNeg, aroundM] at hrun
  simp (maxDischargeDepth := 8) only [go_sem, reduceIte, reduceCtorEq, Nat.reduceEqDiff, Nat.reduceAdd, Nat.reduceMul, Nat.reduceSub, Nat.reduceLeDiff, Nat.reduceLT, Nat.reduceBEq, Int.reduceToNat, Int.reduceEq, Int.reduceLT, Int.reduceLE, Int.reduceAdd, Int.reduceSub, Int.reduceMul, Int.reduceNeg, hrun]
  cases go with
  | false =>
    obtain ⟨i, hi, z, rfl, rfl⟩ := h2 rfl
    simp (maxDischargeDepth := 8) only [go_sem, reduceIte, reduceCtorEq, Nat.reduceEqDiff, Nat.reduceAdd, Nat.reduceMul, Nat.reduceSub, Nat.reduceLeDiff, Nat.reduceLT, Nat.reduceBEq, Int.reduceToNat, Int.reduceEq, Int.reduceLT, Int.reduceLE, Int.reduceAdd, Int.reduceSub, Int.reduceMul, Int.reduceNeg, aroundM, hm]
  | true =>
    obtain ⟨j, hj8, hk, hdr, rfl, rfl⟩ := h1 rfl
    rw [Nat.zero_add, List.drop_length] at hdr
    have hno := aroundF_nil hdr.symm
    simp (maxDischargeDepth := 8) only [go_sem, reduceIte, reduceCtorEq, Nat.reduceEqDiff, Nat.reduceAdd, Nat.reduceMul, Nat.reduceSub, Nat.reduceLeDiff, Nat.reduceLT, Nat.reduceBEq, Int.reduceToNat, Int.reduceEq, Int.reduceLT, Int.reduceLE, Int.reduceAdd, Int.reduceSub, Int.reduceMul, Int.reduceNeg, aroundM, hm]
    rw [KL_keep _ _ _ (by simp (maxDischargeDepth := 8) only [go_sem, reduceIte, reduceCtorEq, Nat.reduceEqDiff, Nat.reduceAdd, Nat.reduceMul, Nat.reduceSub, Nat.reduceLeDiff, Nat.reduceLT, Nat.reduceBEq, Int.reduceToNat, Int.reduceEq, Int.reduceLT, Int.reduceLE, Int.reduceAdd, Int.reduceSub, Int.reduceMul, Int.reduceNeg])]
    simp (maxDischargeDepth := 8) only [go_sem, reduceIte, reduceCtorEq, Nat.reduceEqDiff, Nat.reduceAdd, Nat.reduceMul, Nat.reduceSub, Nat.reduceLeDiff, Nat.reduceLT, Nat.reduceBEq, Int.reduceToNat, Int.reduceEq, Int.reduceLT, Int.reduceLE, Int.reduceAdd, Int.reduceSub, Int.reduceMul, Int.reduceNeg]
    refine KL_indE (α := Nat) (fun i => i) (fun i => [(3, .ptr (.st m.dep 0) 0), (4, .ptr (.st m.dep 1) 0), (6, .ptr (.st m.dep 3) 0), (8, .ptr (.st m.dep 4) 0)])
      (fun i => aroundM m x y a b w hh most (8 - (i : Int)) ((aroundF x y a b w hh 8).length : Nat) false .exhausted none) (fun i => i ≤ j) ?_ j (Nat.le_refl _)
    rintro i hi ih
    simp (maxDischargeDepth := 8) only [go_sem, reduceIte, reduceCtorEq, Nat.reduceEqDiff, Nat.reduceAdd, Nat.reduceMul, Nat.reduceSub, Nat.reduceLeDiff, Nat.reduceLT, Nat.reduceBEq, Int.reduceToNat, Int.reduceEq, Int.reduceLT, Int.reduceLE, Int.reduceAdd, Int.reduceSub, Int.reduceMul, Int.reduceNeg, aroundM, hm]
    cases i with
    | zero => simp (maxDischargeDepth := 8) only [go_sem, reduceIte, reduceCtorEq, Nat.reduceEqDiff, Nat.reduceAdd, Nat.reduceMul, Nat.reduceSub, Nat.reduceLeDiff, Nat.reduceLT, Nat.reduceBEq, Int.reduceToNat, Int.reduceEq, Int.reduceLT, Int.reduceLE, Int.reduceAdd, Int.reduceSub, Int.reduceMul, Int.reduceNeg, show decide ((8 : Int) - ((0 : Nat) : Int) < 8) = false from rfl, hm, r_law03_awake]
    | succ i' =>
      have hno' := hno i' (by omega)
      have wi : IntKind.wrap .i64 (8 - ((i' + 1 : Nat) : Int) + 1) = 8 - (i' : Int) := by rw [wrap_small (by omega) (by omega)]; omega
      have c1 : decide ((8 : Int) - ((i' + 1 : Nat) : Int) < 8) = true := decide_eq_true (by omega)
      generalize hde : (8 : Int) - ((i' + 1 : Nat) : Int) = de at *
      simp (maxDischargeDepth := 8) only [go_sem, reduceIte, reduceCtorEq, Nat.reduceEqDiff, Nat.reduceAdd, Nat.reduceMul, Nat.reduceSub, Nat.reduceLeDiff, Nat.reduceLT, Nat.reduceBEq, Int.reduceToNat, Int.reduceEq, Int.reduceLT, Int.reduceLE, Int.reduceAdd, Int.reduceSub, Int.reduceMul, Int.reduceNeg, c1, hm, r_ref03_Step, r_ref03_Has]
      cases hs : stepOk x y de with
      | false =>
        simp (maxDischargeDepth := 8) only [go_sem, reduceIte, reduceCtorEq, Nat.reduceEqDiff, Nat.reduceAdd, Nat.reduceMul, Nat.reduceSub, Nat.reduceLeDiff, Nat.reduceLT, Nat.reduceBEq, Int.reduceToNat, Int.reduceEq, Int.reduceLT, Int.reduceLE, Int.reduceAdd, Int.reduceSub, Int.reduceMul, Int.reduceNeg, hm, wi]
        rw [KL_keep _ _ _ (by simp (maxDischargeDepth := 8) only [go_sem, reduceIte, reduceCtorEq, Nat.reduceEqDiff, Nat.reduceAdd, Nat.reduceMul, Nat.reduceSub, Nat.reduceLeDiff, Nat.reduceLT, Nat.reduceBEq, Int.reduceToNat, Int.reduceEq, Int.reduceLT, Int.reduceLE, Int.reduceAdd, Int.reduceSub, Int.reduceMul, Int.reduceNeg])]
        simp (maxDischargeDepth := 8) only [go_sem, reduceIte, reduceCtorEq, Nat.reduceEqDiff, Nat.reduceAdd, Nat.reduceMul, Nat.reduceSub, Nat.reduceLeDiff, Nat.reduceLT, Nat.reduceBEq, Int.reduceToNat, Int.reduceEq, Int.reduceLT, Int.reduceLE, Int.reduceAdd, Int.reduceSub, Int.reduceMul, Int.reduceNeg]
        exact ih i' (by omega) (by omega)
      | true =>
        have e1 : stepX x y de = x + turnX de := by simp [stepX, hs]
        have e2 : stepY x y de = y + turnY de := by simp [stepY, hs]
        have e3 : hasB a b w hh (x + turnX de) (y + turnY de) = false := by simpa [okAt, hs] using hno'
        simp (maxDischargeDepth := 8) only [go_sem, reduceIte, reduceCtorEq, Nat.reduceEqDiff, Nat.reduceAdd, Nat.reduceMul, Nat.reduceSub, Nat.reduceLeDiff, Nat.reduceLT, Nat.reduceBEq, Int.reduceToNat, Int.reduceEq, Int.reduceLT, Int.reduceLE, Int.reduceAdd, Int.reduceSub, Int.reduceMul, Int.reduceNeg, hm, r_ref03_Has, e1, e2, e3, wi]
        rw [KL_keep _ _ _ (by simp (maxDischargeDepth := 8) only [go_sem, reduceIte, reduceCtorEq, Nat.reduceEqDiff, Nat.reduceAdd, Nat.reduceMul, Nat.reduceSub, Nat.reduceLeDiff, Nat.reduceLT, Nat.reduceBEq, Int.reduceToNat, Int.reduceEq, Int.reduceLT, Int.reduceLE, Int.reduceAdd, Int.reduceSub, Int.reduceMul, Int.reduceNeg])]
        simp (maxDischargeDepth := 8) only [go_sem, reduceIte, reduceCtorEq, Nat.reduceEqDiff, Nat.reduceAdd, Nat.reduceMul, Nat.reduceSub, Nat.reduceLeDiff, Nat.reduceLT, Nat.reduceBEq, Int.reduceToNat, Int.reduceEq, Int.reduceLT, Int.reduceLE, Int.reduceAdd, Int.reduceSub, Int.reduceMul, Int.reduceNeg]
        exact ih i' (by omega) (by omega)
end Go.Sh.T
