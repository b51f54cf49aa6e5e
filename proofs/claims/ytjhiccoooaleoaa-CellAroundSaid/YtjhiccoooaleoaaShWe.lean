import Derived.Test.YtjhiccoooaleoaaShWd
set_option linter.all false
set_option linter.unusedVariables false
set_option linter.unusedSimpArgs false
set_option autoImplicit false
namespace Go.Sh.T
open Go.Sh
set_option maxHeartbeats 4000000
set_option maxRecDepth 20000
def okAt (x y a b w h d : Int) : Bool := stepOk x y d && hasB a b w h (x + turnX d) (y + turnY d)
/-- The neighbours within a rectangle: the last n directions. -/
def aroundF (x y a b w h : Int) : Nat → List (List SV)
  | 0 => []
  | n + 1 => if okAt x y a b w h (8 - (n + 1 : Nat)) then [.int .i64 (8 - (n + 1 : Nat)), .agg [.int .i64 (x + turnX (8 - (n + 1 : Nat))), .int .i64 (y + turnY (8 - (n + 1 : Nat)))]] :: aroundF x y a b w h n else aroundF x y a b w h n
def boxes2 (d n k : Nat) (x y a b w h : Int) (m : Mem) : Prop := m.dep = d ∧ m.Wf ∧ m.get (.hp n 0) = some (.cells true [.int .i64 x, .int .i64 y]) ∧ m.get (.hp k 0) = some (.cells true [.int .i64 a, .int .i64 b, .int .i64 w, .int .i64 h])
theorem r_cell_Around (m : Mem) (hm : m.Wf) (x y a b w h : Int) : RF tb f_cell_Around [.agg [.int .i64 x, .int .i64 y], rect a b w h] m = some (.fn f_cell_Around_1 [] [.ptr (.hp m.hl 0) 0, .ptr (.hp (m.hl + 1) 0) 0], m.hap [(0, .cells true [.int .i64 x, .int .i64 y]), (0, .cells true [.int .i64 a, .int .i64 b, .int .i64 w, .int .i64 h])]) := by
  rw [RF_go t_cell_Around _ _ rfl]
  simp (maxDischargeDepth := 8) only [go_sem, reduceIte, reduceCtorEq, Nat.reduceEqDiff, Nat.reduceAdd, Nat.reduceMul, Nat.reduceSub, Nat.reduceLeDiff, Nat.reduceLT, Nat.reduceBEq, Int.reduceToNat, Int.reduceEq, Int.reduceLT, Int.reduceLE, Int.reduceAdd, Int.reduceSub, Int.reduceMul, Int.reduceNeg, s_cell_Around, hm, rect]
  rw [if_neg (by omega)]
theorem r_cell_Around_1 {D i d n k : Nat} (hD : D < d) {x y a b w hh : Int} {M M' : Mem} {U : Option Nat} {go : Bool} (hB : boxes2 d n k x y a b w hh M) (hR : Rounds tb (.st D i) (boxes2 d n k x y a b w hh) M.hl (aroundF x y a b w hh 8) M none M' U go) (fs : List (List SBk)) (e : Option Nat) :
    RF tb f_cell_Around_1 [.yld (.st D i), .ptr (.hp n 0) 0, .ptr (.hp k 0) 0] (M.frs fs e) = some (.tup [], M'.frs fs (escMin e U)) := by
  rw [RF_go t_cell_Around_1 _ _ rfl]
  have hb : ∀ {m : Mem}, boxes2 d n k x y a b w hh m → ∀ off j, m.load (.hp n 0) off j = partv [.int .i64 x, .int .i64 y] off j := fun h off j => by rw [load_get, h.2.2.1]
  have hb' : ∀ {m : Mem}, boxes2 d n k x y a b w hh m → ∀ off j, m.load (.hp k 0) off j = partv [.int .i64 a, .int .i64 b, .int .i64 w, .int .i64 hh] off j := fun h off j => by rw [load_get, h.2.2.2]
  simp (maxDischargeDepth := 8) only [go_sem, reduceIte, reduceCtorEq, Nat.reduceEqDiff, Nat.reduceAdd, Nat.reduceMul, Nat.reduceSub, Nat.reduceLeDiff, Nat.reduceLT, Nat.reduceBEq, Int.reduceToNat, Int.reduceEq, Int.reduceLT, Int.reduceLE, Int.reduceAdd, Int.reduceSub, Int.reduceMul, Int.reduceNeg, s_cell_Around_1, hB.2.1]
  rw [KL_keep _ _ _ (by simp (maxDischargeDepth := 8) only [go_sem, reduceIte, reduceCtorEq, Nat.reduceEqDiff, Nat.reduceAdd, Nat.reduceMul, Nat.reduceSub, Nat.reduceLeDiff, Nat.reduceLT, Nat.reduceBEq, Int.reduceToNat, Int.reduceEq, Int.reduceLT, Int.reduceLE, Int.reduceAdd, Int.reduceSub, Int.reduceMul, Int.reduceNeg, hD, hB.1])]
  simp (maxDischargeDepth := 8) only [go_sem, reduceIte, reduceCtorEq, Nat.reduceEqDiff, Nat.reduceAdd, Nat.reduceMul, Nat.reduceSub, Nat.reduceLeDiff, Nat.reduceLT, Nat.reduceBEq, Int.reduceToNat, Int.reduceEq, Int.reduceLT, Int.reduceLE, Int.reduceAdd, Int.reduceSub, Int.reduceMul, Int.reduceNeg]
  refine KL_ind (R := fun z => fin [] (M.frs fs e) z = some (.tup [], M'.frs fs (escMin e U))) (α := Nat × Mem × Option Nat) (fun s => s.1) (fun s => [(0, .yld (.st D i)), (1, .ptr (.hp n 0) 0), (2, .ptr (.hp k 0) 0), (7, .int .i64 (8 - (s.1 : Int)))]) (fun s => (s.2.1.frs fs e).fr [] s.2.2)
    (fun s => s.1 ≤ 8 ∧ boxes2 d n k x y a b w hh s.2.1 ∧ Noted M.hl s.2.1 s.2.2 ∧ Rounds tb (.st D i) (boxes2 d n k x y a b w hh) M.hl (aroundF x y a b w hh s.1) s.2.1 s.2.2 M' U go) ?_ (8, M, none) ⟨Nat.le_refl _, hB, .inl rfl, hR⟩
  rintro ⟨j, m, u⟩ ⟨h1, h2, h3, h4⟩ ih
  dsimp only at h1 h2 h3 h4 ⊢
  simp (maxDischargeDepth := 8) only [go_sem, reduceIte, reduceCtorEq, Nat.reduceEqDiff, Nat.reduceAdd, Nat.reduceMul, Nat.reduceSub, Nat.reduceLeDiff, Nat.reduceLT, Nat.reduceBEq, Int.reduceToNat, Int.reduceEq, Int.reduceLT, Int.reduceLE, Int.reduceAdd, Int.reduceSub, Int.reduceMul, Int.reduceNeg, hD, h2.1, h2.2.1, hb h2, hb' h2]
  cases j with
  | zero =>
    cases h4
    simp (maxDischargeDepth := 8) only [go_sem, reduceIte, reduceCtorEq, Nat.reduceEqDiff, Nat.reduceAdd, Nat.reduceMul, Nat.reduceSub, Nat.reduceLeDiff, Nat.reduceLT, Nat.reduceBEq, Int.reduceToNat, Int.reduceEq, Int.reduceLT, Int.reduceLE, Int.reduceAdd, Int.reduceSub, Int.reduceMul, Int.reduceNeg, show decide ((8 : Int) - ((0 : Nat) : Int) < 8) = false from rfl, back_rounds h3]
  | succ j =>
    have hw1 : IntKind.wrap .i64 ((8 : Int) - ((j + 1 : Nat) : Int) + 1) = 8 - ((j : Nat) : Int) := by rw [wrap_small (by omega) (by omega)]; omega
    simp (maxDischargeDepth := 8) only [go_sem, reduceIte, reduceCtorEq, Nat.reduceEqDiff, Nat.reduceAdd, Nat.reduceMul, Nat.reduceSub, Nat.reduceLeDiff, Nat.reduceLT, Nat.reduceBEq, Int.reduceToNat, Int.reduceEq, Int.reduceLT, Int.reduceLE, Int.reduceAdd, Int.reduceSub, Int.reduceMul, Int.reduceNeg, show decide ((8 : Int) - ((j + 1 : Nat) : Int) < 8) = true from decide_eq_true (by omega), hD, h2.1, h2.2.1, hb h2, hb' h2, r_cell_Step, r_cell_Has]
    simp only [aroundF] at h4
    generalize hd : (8 : Int) - ((j + 1 : Nat) : Int) = dd at *
    cases hs : stepOk x y dd with
    | false =>
      rw [if_neg (by simp [okAt, hs])] at h4
      simp (maxDischargeDepth := 8) only [go_sem, reduceIte, reduceCtorEq, Nat.reduceEqDiff, Nat.reduceAdd, Nat.reduceMul, Nat.reduceSub, Nat.reduceLeDiff, Nat.reduceLT, Nat.reduceBEq, Int.reduceToNat, Int.reduceEq, Int.reduceLT, Int.reduceLE, Int.reduceAdd, Int.reduceSub, Int.reduceMul, Int.reduceNeg, hw1]
      rw [KL_keep _ _ _ (by simp (maxDischargeDepth := 8) only [go_sem, reduceIte, reduceCtorEq, Nat.reduceEqDiff, Nat.reduceAdd, Nat.reduceMul, Nat.reduceSub, Nat.reduceLeDiff, Nat.reduceLT, Nat.reduceBEq, Int.reduceToNat, Int.reduceEq, Int.reduceLT, Int.reduceLE, Int.reduceAdd, Int.reduceSub, Int.reduceMul, Int.reduceNeg, hD, h2.1])]
      simp (maxDischargeDepth := 8) only [go_sem, reduceIte, reduceCtorEq, Nat.reduceEqDiff, Nat.reduceAdd, Nat.reduceMul, Nat.reduceSub, Nat.reduceLeDiff, Nat.reduceLT, Nat.reduceBEq, Int.reduceToNat, Int.reduceEq, Int.reduceLT, Int.reduceLE, Int.reduceAdd, Int.reduceSub, Int.reduceMul, Int.reduceNeg]
      exact ih (j, _, _) ⟨by omega, h2, h3, h4⟩ (by dsimp only; omega)
    | true =>
      have ex : stepX x y dd = x + turnX dd := by simp [stepX, hs]
      have ey : stepY x y dd = y + turnY dd := by simp [stepY, hs]
      simp (maxDischargeDepth := 8) only [go_sem, reduceIte, reduceCtorEq, Nat.reduceEqDiff, Nat.reduceAdd, Nat.reduceMul, Nat.reduceSub, Nat.reduceLeDiff, Nat.reduceLT, Nat.reduceBEq, Int.reduceToNat, Int.reduceEq, Int.reduceLT, Int.reduceLE, Int.reduceAdd, Int.reduceSub, Int.reduceMul, Int.reduceNeg, hD, h2.1, h2.2.1, hb h2, hb' h2, r_cell_Has, ex, ey]
      cases hh' : hasB a b w hh (x + turnX dd) (y + turnY dd) with
      | false =>
        rw [if_neg (by simp [okAt, hs, hh'])] at h4
        simp (maxDischargeDepth := 8) only [go_sem, reduceIte, reduceCtorEq, Nat.reduceEqDiff, Nat.reduceAdd, Nat.reduceMul, Nat.reduceSub, Nat.reduceLeDiff, Nat.reduceLT, Nat.reduceBEq, Int.reduceToNat, Int.reduceEq, Int.reduceLT, Int.reduceLE, Int.reduceAdd, Int.reduceSub, Int.reduceMul, Int.reduceNeg, hw1]
        rw [KL_keep _ _ _ (by simp (maxDischargeDepth := 8) only [go_sem, reduceIte, reduceCtorEq, Nat.reduceEqDiff, Nat.reduceAdd, Nat.reduceMul, Nat.reduceSub, Nat.reduceLeDiff, Nat.reduceLT, Nat.reduceBEq, Int.reduceToNat, Int.reduceEq, Int.reduceLT, Int.reduceLE, Int.reduceAdd, Int.reduceSub, Int.reduceMul, Int.reduceNeg, hD, h2.1])]
        simp (maxDischargeDepth := 8) only [go_sem, reduceIte, reduceCtorEq, Nat.reduceEqDiff, Nat.reduceAdd, Nat.reduceMul, Nat.reduceSub, Nat.reduceLeDiff, Nat.reduceLT, Nat.reduceBEq, Int.reduceToNat, Int.reduceEq, Int.reduceLT, Int.reduceLE, Int.reduceAdd, Int.reduceSub, Int.reduceMul, Int.reduceNeg]
        exact ih (j, _, _) ⟨by omega, h2, h3, h4⟩ (by dsimp only; omega)
      | true =>
        rw [if_pos (by simp [okAt, hs, hh'])] at h4
        simp (maxDischargeDepth := 8) only [go_sem, reduceIte, reduceCtorEq, Nat.reduceEqDiff, Nat.reduceAdd, Nat.reduceMul, Nat.reduceSub, Nat.reduceLeDiff, Nat.reduceLT, Nat.reduceBEq, Int.reduceToNat, Int.reduceEq, Int.reduceLT, Int.reduceLE, Int.reduceAdd, Int.reduceSub, Int.reduceMul, Int.reduceNeg, hD, h2.1, h2.2.1]
        cases h4 with
        | stop hy hp hk => simp (maxDischargeDepth := 8) only [go_sem, reduceIte, reduceCtorEq, Nat.reduceEqDiff, Nat.reduceAdd, Nat.reduceMul, Nat.reduceSub, Nat.reduceLeDiff, Nat.reduceLT, Nat.reduceBEq, Int.reduceToNat, Int.reduceEq, Int.reduceLT, Int.reduceLE, Int.reduceAdd, Int.reduceSub, Int.reduceMul, Int.reduceNeg, yields_fr hy, back_rounds hk]
        | next hy hp hk t =>
          simp (maxDischargeDepth := 8) only [go_sem, reduceIte, reduceCtorEq, Nat.reduceEqDiff, Nat.reduceAdd, Nat.reduceMul, Nat.reduceSub, Nat.reduceLeDiff, Nat.reduceLT, Nat.reduceBEq, Int.reduceToNat, Int.reduceEq, Int.reduceLT, Int.reduceLE, Int.reduceAdd, Int.reduceSub, Int.reduceMul, Int.reduceNeg, yields_fr hy, hw1]
          rw [KL_keep _ _ _ (by simp (maxDischargeDepth := 8) only [go_sem, reduceIte, reduceCtorEq, Nat.reduceEqDiff, Nat.reduceAdd, Nat.reduceMul, Nat.reduceSub, Nat.reduceLeDiff, Nat.reduceLT, Nat.reduceBEq, Int.reduceToNat, Int.reduceEq, Int.reduceLT, Int.reduceLE, Int.reduceAdd, Int.reduceSub, Int.reduceMul, Int.reduceNeg, hD, hp.1])]
          simp (maxDischargeDepth := 8) only [go_sem, reduceIte, reduceCtorEq, Nat.reduceEqDiff, Nat.reduceAdd, Nat.reduceMul, Nat.reduceSub, Nat.reduceLeDiff, Nat.reduceLT, Nat.reduceBEq, Int.reduceToNat, Int.reduceEq, Int.reduceLT, Int.reduceLE, Int.reduceAdd, Int.reduceSub, Int.reduceMul, Int.reduceNeg]
          exact ih (j, _, _) ⟨by omega, hp, hk, t⟩ (by dsimp only; omega)
end Go.Sh.T
