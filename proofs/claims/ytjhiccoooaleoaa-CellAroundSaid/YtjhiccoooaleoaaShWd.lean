import Derived.Test.YtjhiccoooaleoaaShWc
set_option linter.all false
set_option linter.unusedVariables false
set_option linter.unusedSimpArgs false
set_option autoImplicit false
namespace Go.Sh.T
open Go.Sh
set_option maxHeartbeats 4000000
set_option maxRecDepth 20000
abbrev goesM (m : Mem) (x y w hh most : Int) (k : Int) (res : Bool) (st : LoopState) (pd : Option Jump) : Mem :=
  (m.fr [.cells true [.int .i64 x, .int .i64 y, .int .i64 w, .int .i64 hh], .cells true [.int .u8 most], .cells true [.bool res], .cells true [.int .i64 k],
    .loop ⟨st, pd, [(2, .ptr (.st m.dep 0) 0), (3, .ptr (.st m.dep 1) 0), (4, .ptr (.st m.dep 2) 0), (6, .ptr (.st m.dep 3) 0), (12, .fn f_cell_Cells_1 [] [.ptr (.hp m.hl 0) 0])], [13], s_law03_CellGoes_p1, s_law03_CellGoes_p5⟩] none).hap [(0, .cells true [.int .i64 x, .int .i64 y, .int .i64 w, .int .i64 hh])]
theorem wrap_addn {x : Int} {n : Nat} (h1 : -4611686018427387904 ≤ x) (h2 : x ≤ 4611686018427387904) (hn : n ≤ 4611686018427387903) : IntKind.wrap .i64 (x + (n : Int)) = x + (n : Int) := wrap_small (by omega) (by omega)
theorem r_law03_CellGoes (m : Mem) (hm : m.Wf) (x y w hh most : Int) (hmost : 0 ≤ most ∧ most ≤ 255) : RF tb f_law03_CellGoes [rect x y w hh, .int .u8 most] m = some (.bool true, m) := by
  rw [RF_go t_law03_CellGoes _ _ rfl]
  simp (maxDischargeDepth := 8) only [go_sem, reduceIte, reduceCtorEq, Nat.reduceEqDiff, Nat.reduceAdd, Nat.reduceMul, Nat.reduceSub, Nat.reduceLeDiff, Nat.reduceLT, Nat.reduceBEq, Int.reduceToNat, Int.reduceEq, Int.reduceLT, Int.reduceLE, Int.reduceAdd, Int.reduceSub, Int.reduceMul, Int.reduceNeg, s_law03_CellGoes, hm, r_cell_Cells]
  obtain ⟨M', U, go, hR, h1, h2⟩ := rounds_of (F := tb) (.st m.dep 4) (boxAt (m.dep + 1) m.hl x y w hh) (m.hl + 1)
    (fun k m' u => m' = goesM m x y w hh most k false .ready none ∧ u = none) (fun k m' u => m' = goesM m x y w hh most (k + 1) true .done (some .ret) ∧ u = none) (cellsL x y w hh) 0 (goesM m x y w hh most 0 false .ready none) none ⟨rfl, rfl⟩ (by
      rintro i v mm u hi ⟨rfl, rfl⟩
      obtain ⟨hmay, hlt, rfl⟩ := cellsL_get hi
      have hs := may_sides hmay
      have hm4 := may_in hmay
      simp only [Nat.zero_add]
      have hw0 : ¬ w = 0 := by omega
      have hlt' : (i : Int) < w * hh := by
        have : ((w.toNat * hh.toNat : Nat) : Int) = w * hh := by rw [Int.natCast_mul, Int.toNat_of_nonneg (by omega), Int.toNat_of_nonneg (by omega)]
        omega
      have hwh : w * hh ≤ 1048576 * 1048576 := Int.mul_le_mul hs.1.2 hs.2.2 (by omega) (by omega)
      have q1 : decide ((i : Int) ≥ IntKind.wrap .i64 (w * hh)) = false := by rw [wrap_small (by omega) (by omega)]; exact decide_eq_false (by omega)
      have ew : w = ((w.toNat : Nat) : Int) := (Int.toNat_of_nonneg (by omega)).symm
      have q2 : Int.tmod (i : Int) w = ((i % w.toNat : Nat) : Int) := by rw [ew]; rfl
      have q3 : Int.tdiv (i : Int) w = ((i / w.toNat : Nat) : Int) := by rw [ew]; rfl
      have l2 : i % w.toNat < w.toNat := Nat.mod_lt _ (by omega)
      have l3 : i / w.toNat < hh.toNat := Nat.div_lt_of_lt_mul hlt
      have q4 : IntKind.wrap .i64 (x + ((i % w.toNat : Nat) : Int)) = x + ((i % w.toNat : Nat) : Int) := wrap_addn (by omega) (by omega) (by omega)
      have q5 : IntKind.wrap .i64 (y + ((i / w.toNat : Nat) : Int)) = y + ((i / w.toNat : Nat) : Int) := wrap_addn (by omega) (by omega) (by omega)
      have q6 : IntKind.wrap .i64 ((i : Int) + 1) = (i : Int) + 1 := wrap_small (by omega) (by omega)
      have q7 : IntKind.wrap .i64 most = most := wrap_small (by omega) (by omega)
      have q8 : IntKind.wrap .i64 ((i / w.toNat : Nat) : Int) = ((i / w.toNat : Nat) : Int) := by
        have := wrap_addn (x := 0) (n := i / w.toNat) (by omega) (by omega) (by omega)
        simpa using this
      by_cases hst : ((i : Int) + 1) > most
      · refine ⟨goesM m x y w hh most (i + 1) true .done (some .ret), none, false, ?_, ⟨rfl, by simp (maxDischargeDepth := 8) only [go_sem, reduceIte, reduceCtorEq, Nat.reduceEqDiff, Nat.reduceAdd, Nat.reduceMul, Nat.reduceSub, Nat.reduceLeDiff, Nat.reduceLT, Nat.reduceBEq, Int.reduceToNat, Int.reduceEq, Int.reduceLT, Int.reduceLE, Int.reduceAdd, Int.reduceSub, Int.reduceMul, Int.reduceNeg, goesM, hm], by simp (maxDischargeDepth := 8) only [go_sem, reduceIte, reduceCtorEq, Nat.reduceEqDiff, Nat.reduceAdd, Nat.reduceMul, Nat.reduceSub, Nat.reduceLeDiff, Nat.reduceLT, Nat.reduceBEq, Int.reduceToNat, Int.reduceEq, Int.reduceLT, Int.reduceLE, Int.reduceAdd, Int.reduceSub, Int.reduceMul, Int.reduceNeg, goesM]⟩, .inl (by simp (maxDischargeDepth := 8) only [go_sem, reduceIte, reduceCtorEq, Nat.reduceEqDiff, Nat.reduceAdd, Nat.reduceMul, Nat.reduceSub, Nat.reduceLeDiff, Nat.reduceLT, Nat.reduceBEq, Int.reduceToNat, Int.reduceEq, Int.reduceLT, Int.reduceLE, Int.reduceAdd, Int.reduceSub, Int.reduceMul, Int.reduceNeg, goesM]), fun h => (by cases h), fun _ => ⟨rfl, rfl⟩⟩
        intro fs e
        rw [RV_go (l := ⟨.ready, none, _, _, _, _⟩) _ _ _ (by simp (maxDischargeDepth := 8) only [go_sem, reduceIte, reduceCtorEq, Nat.reduceEqDiff, Nat.reduceAdd, Nat.reduceMul, Nat.reduceSub, Nat.reduceLeDiff, Nat.reduceLT, Nat.reduceBEq, Int.reduceToNat, Int.reduceEq, Int.reduceLT, Int.reduceLE, Int.reduceAdd, Int.reduceSub, Int.reduceMul, Int.reduceNeg, goesM]; rfl) rfl rfl (by simp (maxDischargeDepth := 8) only [go_sem, reduceIte, reduceCtorEq, Nat.reduceEqDiff, Nat.reduceAdd, Nat.reduceMul, Nat.reduceSub, Nat.reduceLeDiff, Nat.reduceLT, Nat.reduceBEq, Int.reduceToNat, Int.reduceEq, Int.reduceLT, Int.reduceLE, Int.reduceAdd, Int.reduceSub, Int.reduceMul, Int.reduceNeg, goesM, hm])]
        simp (maxDischargeDepth := 8) only [go_sem, reduceIte, reduceCtorEq, Nat.reduceEqDiff, Nat.reduceAdd, Nat.reduceMul, Nat.reduceSub, Nat.reduceLeDiff, Nat.reduceLT, Nat.reduceBEq, Int.reduceToNat, Int.reduceEq, Int.reduceLT, Int.reduceLE, Int.reduceAdd, Int.reduceSub, Int.reduceMul, Int.reduceNeg, goesM, hm, r_ref03_May, hmay, hw0, q1, q2, q3, q4, q5, q6, q7, q8, show decide ((i : Int) + 1 > most) = true from decide_eq_true hst, r_law03_awake]
      · refine ⟨goesM m x y w hh most (i + 1) false .ready none, none, true, ?_, ⟨rfl, by simp (maxDischargeDepth := 8) only [go_sem, reduceIte, reduceCtorEq, Nat.reduceEqDiff, Nat.reduceAdd, Nat.reduceMul, Nat.reduceSub, Nat.reduceLeDiff, Nat.reduceLT, Nat.reduceBEq, Int.reduceToNat, Int.reduceEq, Int.reduceLT, Int.reduceLE, Int.reduceAdd, Int.reduceSub, Int.reduceMul, Int.reduceNeg, goesM, hm], by simp (maxDischargeDepth := 8) only [go_sem, reduceIte, reduceCtorEq, Nat.reduceEqDiff, Nat.reduceAdd, Nat.reduceMul, Nat.reduceSub, Nat.reduceLeDiff, Nat.reduceLT, Nat.reduceBEq, Int.reduceToNat, Int.reduceEq, Int.reduceLT, Int.reduceLE, Int.reduceAdd, Int.reduceSub, Int.reduceMul, Int.reduceNeg, goesM]⟩, .inl (by simp (maxDischargeDepth := 8) only [go_sem, reduceIte, reduceCtorEq, Nat.reduceEqDiff, Nat.reduceAdd, Nat.reduceMul, Nat.reduceSub, Nat.reduceLeDiff, Nat.reduceLT, Nat.reduceBEq, Int.reduceToNat, Int.reduceEq, Int.reduceLT, Int.reduceLE, Int.reduceAdd, Int.reduceSub, Int.reduceMul, Int.reduceNeg, goesM]), fun _ => ⟨rfl, rfl⟩, fun h => (by cases h)⟩
        intro fs e
        rw [RV_go (l := ⟨.ready, none, _, _, _, _⟩) _ _ _ (by simp (maxDischargeDepth := 8) only [go_sem, reduceIte, reduceCtorEq, Nat.reduceEqDiff, Nat.reduceAdd, Nat.reduceMul, Nat.reduceSub, Nat.reduceLeDiff, Nat.reduceLT, Nat.reduceBEq, Int.reduceToNat, Int.reduceEq, Int.reduceLT, Int.reduceLE, Int.reduceAdd, Int.reduceSub, Int.reduceMul, Int.reduceNeg, goesM]; rfl) rfl rfl (by simp (maxDischargeDepth := 8) only [go_sem, reduceIte, reduceCtorEq, Nat.reduceEqDiff, Nat.reduceAdd, Nat.reduceMul, Nat.reduceSub, Nat.reduceLeDiff, Nat.reduceLT, Nat.reduceBEq, Int.reduceToNat, Int.reduceEq, Int.reduceLT, Int.reduceLE, Int.reduceAdd, Int.reduceSub, Int.reduceMul, Int.reduceNeg, goesM, hm])]
        simp (maxDischargeDepth := 8) only [go_sem, reduceIte, reduceCtorEq, Nat.reduceEqDiff, Nat.reduceAdd, Nat.reduceMul, Nat.reduceSub, Nat.reduceLeDiff, Nat.reduceLT, Nat.reduceBEq, Int.reduceToNat, Int.reduceEq, Int.reduceLT, Int.reduceLE, Int.reduceAdd, Int.reduceSub, Int.reduceMul, Int.reduceNeg, goesM, hm, r_ref03_May, hmay, hw0, q1, q2, q3, q4, q5, q6, q7, q8, show decide ((i : Int) + 1 > most) = false from decide_eq_false hst])
  have hrun := r_cell_Cells_1 (D := m.dep) (i := 4) (d := m.dep + 1) (n := m.hl) (x := x) (y := y) (w := w) (hh := hh) (by omega) (M := goesM m x y w hh most 0 false .ready none) ⟨rfl, by simp (maxDischargeDepth := 8) only [go_sem, reduceIte, reduceCtorEq, Nat.reduceEqDiff, Nat.reduceAdd, Nat.reduceMul, Nat.reduceSub, Nat.reduceLeDiff, Nat.reduceLT, Nat.reduceBEq, Int.reduceToNat, Int.reduceEq, Int.reduceLT, Int.reduceLE, Int.reduceAdd, Int.reduceSub, Int.reduceMul, Int.reduceNeg, goesM, hm], by simp (maxDischargeDepth := 8) only [go_sem, reduceIte, reduceCtorEq, Nat.reduceEqDiff, Nat.reduceAdd, Nat.reduceMul, Nat.reduceSub, Nat.reduceLeDiff, Nat.reduceLT, Nat.reduceBEq, Int.reduceToNat, Int.reduceEq, Int.reduceLT, Int.reduceLE, Int.reduceAdd, Int.reduceSub, Int.reduceMul, Int.reduceNeg, goesM]⟩ (by simpa [goesM, hl_hap, hl_fr] using hR) [] none
  simp (maxDischargeDepth := 8) only [go_sem, reduceIte, reduceCtorEq, Nat.reduceEqDiff, Nat.reduceAdd, Nat.reduceMul, Nat.reduceSub, Nat.reduceLeDiff, Nat.reduceLT, Nat.reduceBEq, Int.reduceToNat, Int.reduceEq, Int.reduceLT, Int.reduceLE, Int.reduceAdd, Int.reduceSub, Int.reduceMul, Int.reduceNeg, goesM] at hrun
  simp (maxDischargeDepth := 8) only [go_sem, reduceIte, reduceCtorEq, Nat.reduceEqDiff, Nat.reduceAdd, Nat.reduceMul, Nat.reduceSub, Nat.reduceLeDiff, Nat.reduceLT, Nat.reduceBEq, Int.reduceToNat, Int.reduceEq, Int.reduceLT, Int.reduceLE, Int.reduceAdd, Int.reduceSub, Int.reduceMul, Int.reduceNeg, hrun]
  cases go with
  | false =>
    obtain ⟨i, hi, rfl, rfl⟩ := h2 rfl
    simp (maxDischargeDepth := 8) only [go_sem, reduceIte, reduceCtorEq, Nat.reduceEqDiff, Nat.reduceAdd, Nat.reduceMul, Nat.reduceSub, Nat.reduceLeDiff, Nat.reduceLT, Nat.reduceBEq, Int.reduceToNat, Int.reduceEq, Int.reduceLT, Int.reduceLE, Int.reduceAdd, Int.reduceSub, Int.reduceMul, Int.reduceNeg, goesM, hm]
  | true =>
    obtain ⟨rfl, rfl⟩ := h1 rfl
    rw [cellsL_len]
    cases hmay : mayB x y w hh with
    | false =>
      simp (maxDischargeDepth := 8) only [go_sem, reduceIte, reduceCtorEq, Nat.reduceEqDiff, Nat.reduceAdd, Nat.reduceMul, Nat.reduceSub, Nat.reduceLeDiff, Nat.reduceLT, Nat.reduceBEq, Int.reduceToNat, Int.reduceEq, Int.reduceLT, Int.reduceLE, Int.reduceAdd, Int.reduceSub, Int.reduceMul, Int.reduceNeg, goesM, hm, r_ref03_May, hmay, r_law03_awake, show ((0 : Nat) : Int) = 0 from rfl]
    | true =>
      have hs := may_sides hmay
      have e1 : ((w.toNat * hh.toNat : Nat) : Int) = w * hh := by rw [Int.natCast_mul, Int.toNat_of_nonneg (by omega), Int.toNat_of_nonneg (by omega)]
      have hwh : w * hh ≤ 1048576 * 1048576 := Int.mul_le_mul hs.1.2 hs.2.2 (by omega) (by omega)
      have hwh0 : 0 ≤ w * hh := Int.mul_nonneg (by omega) (by omega)
      have e2 : IntKind.wrap .i64 (w * hh) = w * hh := wrap_small (by omega) (by omega)
      simp (maxDischargeDepth := 8) only [go_sem, reduceIte, reduceCtorEq, Nat.reduceEqDiff, Nat.reduceAdd, Nat.reduceMul, Nat.reduceSub, Nat.reduceLeDiff, Nat.reduceLT, Nat.reduceBEq, Int.reduceToNat, Int.reduceEq, Int.reduceLT, Int.reduceLE, Int.reduceAdd, Int.reduceSub, Int.reduceMul, Int.reduceNeg, goesM, hm, r_ref03_May, hmay, r_law03_awake, e1, e2]
end Go.Sh.T
