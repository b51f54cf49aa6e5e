import Derived.Test.YtjhiccoooaleoaaShWg
import Derived.Test.YtjhiccoooaleoaaShArg
set_option linter.all false
set_option linter.unusedVariables false
set_option linter.unusedSimpArgs false
set_option autoImplicit false
namespace Go.Sh.T
open Go.Sh
set_option maxHeartbeats 4000000
set_option maxRecDepth 20000
def absI (a : Int) : Int := mxI a (-a)
theorem absI_eq (a : Int) : absI a = if a < 0 then -a else a := by unfold absI mxI; split <;> split <;> omega
theorem r_cell_amount (m : Mem) (a b : Int) : RF tb f_cell_amount [.int .i64 a, .int .i64 b] m = some (.int .i64 (mxI (IntKind.wrap .i64 (a - b)) (IntKind.wrap .i64 (b - a))), m) := by
  rw [RF_go t_cell_amount _ _ rfl]
  simp (maxDischargeDepth := 8) only [go_sem, reduceIte, reduceCtorEq, Nat.reduceEqDiff, Nat.reduceAdd, Nat.reduceMul, Nat.reduceSub, Nat.reduceLeDiff, Nat.reduceLT, Nat.reduceBEq, Int.reduceToNat, Int.reduceEq, Int.reduceLT, Int.reduceLE, Int.reduceAdd, Int.reduceSub, Int.reduceMul, Int.reduceNeg, s_cell_amount]
def apartC (x y a b : Int) : Int := iB (nearC x y && nearC a b) (mxI (absI (x - a)) (absI (y - b)))
def octC (x y a b : Int) : Int := iB (nearC x y && nearC a b) (octI (absI (x - a)) (absI (y - b)))
theorem mx_abs {a b : Int} : mxI (a - b) (b - a) = absI (a - b) := by unfold absI; congr 1; omega
theorem r_cell_Apart (m : Mem) (hm : m.Wf) (x y a b : Int) : RF tb f_cell_Apart [.agg [.int .i64 x, .int .i64 y], .agg [.int .i64 a, .int .i64 b]] m = some (.int .i64 (apartC x y a b), m) := by
  rw [RF_go t_cell_Apart _ _ rfl]
  simp (maxDischargeDepth := 8) only [go_sem, reduceIte, reduceCtorEq, Nat.reduceEqDiff, Nat.reduceAdd, Nat.reduceMul, Nat.reduceSub, Nat.reduceLeDiff, Nat.reduceLT, Nat.reduceBEq, Int.reduceToNat, Int.reduceEq, Int.reduceLT, Int.reduceLE, Int.reduceAdd, Int.reduceSub, Int.reduceMul, Int.reduceNeg, s_cell_Apart, hm, r_cell_Near]
  cases h1 : nearC x y with
  | false => simp (maxDischargeDepth := 8) only [go_sem, reduceIte, reduceCtorEq, Nat.reduceEqDiff, Nat.reduceAdd, Nat.reduceMul, Nat.reduceSub, Nat.reduceLeDiff, Nat.reduceLT, Nat.reduceBEq, Int.reduceToNat, Int.reduceEq, Int.reduceLT, Int.reduceLE, Int.reduceAdd, Int.reduceSub, Int.reduceMul, Int.reduceNeg]; simp [apartC, h1, iB]
  | true =>
    simp (maxDischargeDepth := 8) only [go_sem, reduceIte, reduceCtorEq, Nat.reduceEqDiff, Nat.reduceAdd, Nat.reduceMul, Nat.reduceSub, Nat.reduceLeDiff, Nat.reduceLT, Nat.reduceBEq, Int.reduceToNat, Int.reduceEq, Int.reduceLT, Int.reduceLE, Int.reduceAdd, Int.reduceSub, Int.reduceMul, Int.reduceNeg, hm, r_cell_Near]
    cases h2 : nearC a b with
    | false => simp (maxDischargeDepth := 8) only [go_sem, reduceIte, reduceCtorEq, Nat.reduceEqDiff, Nat.reduceAdd, Nat.reduceMul, Nat.reduceSub, Nat.reduceLeDiff, Nat.reduceLT, Nat.reduceBEq, Int.reduceToNat, Int.reduceEq, Int.reduceLT, Int.reduceLE, Int.reduceAdd, Int.reduceSub, Int.reduceMul, Int.reduceNeg]; simp [apartC, h1, h2, iB]
    | true =>
      have n1 := nearC_in h1
      have n2 := nearC_in h2
      simp (maxDischargeDepth := 8) only [go_sem, reduceIte, reduceCtorEq, Nat.reduceEqDiff, Nat.reduceAdd, Nat.reduceMul, Nat.reduceSub, Nat.reduceLeDiff, Nat.reduceLT, Nat.reduceBEq, Int.reduceToNat, Int.reduceEq, Int.reduceLT, Int.reduceLE, Int.reduceAdd, Int.reduceSub, Int.reduceMul, Int.reduceNeg, hm, r_cell_amount, wrap_small (x := x - a) (by omega) (by omega), wrap_small (x := a - x) (by omega) (by omega), wrap_small (x := y - b) (by omega) (by omega), wrap_small (x := b - y) (by omega) (by omega)]
      simp [apartC, h1, h2, iB, mx_abs]
theorem r_cell_Octile (m : Mem) (hm : m.Wf) (x y a b : Int) : RF tb f_cell_Octile [.agg [.int .i64 x, .int .i64 y], .agg [.int .i64 a, .int .i64 b]] m = some (.int .i64 (octC x y a b), m) := by
  rw [RF_go t_cell_Octile _ _ rfl]
  simp (maxDischargeDepth := 8) only [go_sem, reduceIte, reduceCtorEq, Nat.reduceEqDiff, Nat.reduceAdd, Nat.reduceMul, Nat.reduceSub, Nat.reduceLeDiff, Nat.reduceLT, Nat.reduceBEq, Int.reduceToNat, Int.reduceEq, Int.reduceLT, Int.reduceLE, Int.reduceAdd, Int.reduceSub, Int.reduceMul, Int.reduceNeg, s_cell_Octile, hm, r_cell_Near]
  cases h1 : nearC x y with
  | false => simp (maxDischargeDepth := 8) only [go_sem, reduceIte, reduceCtorEq, Nat.reduceEqDiff, Nat.reduceAdd, Nat.reduceMul, Nat.reduceSub, Nat.reduceLeDiff, Nat.reduceLT, Nat.reduceBEq, Int.reduceToNat, Int.reduceEq, Int.reduceLT, Int.reduceLE, Int.reduceAdd, Int.reduceSub, Int.reduceMul, Int.reduceNeg]; simp [octC, h1, iB]
  | true =>
    simp (maxDischargeDepth := 8) only [go_sem, reduceIte, reduceCtorEq, Nat.reduceEqDiff, Nat.reduceAdd, Nat.reduceMul, Nat.reduceSub, Nat.reduceLeDiff, Nat.reduceLT, Nat.reduceBEq, Int.reduceToNat, Int.reduceEq, Int.reduceLT, Int.reduceLE, Int.reduceAdd, Int.reduceSub, Int.reduceMul, Int.reduceNeg, hm, r_cell_Near]
    cases h2 : nearC a b with
    | false => simp (maxDischargeDepth := 8) only [go_sem, reduceIte, reduceCtorEq, Nat.reduceEqDiff, Nat.reduceAdd, Nat.reduceMul, Nat.reduceSub, Nat.reduceLeDiff, Nat.reduceLT, Nat.reduceBEq, Int.reduceToNat, Int.reduceEq, Int.reduceLT, Int.reduceLE, Int.reduceAdd, Int.reduceSub, Int.reduceMul, Int.reduceNeg]; simp [octC, h1, h2, iB]
    | true =>
      have n1 := nearC_in h1
      have n2 := nearC_in h2
      have w1 : IntKind.wrap .i64 (x - a) = x - a := wrap_small (by omega) (by omega)
      have w2 : IntKind.wrap .i64 (y - b) = y - b := wrap_small (by omega) (by omega)
      have ho := oct_in (x := absI (x - a)) (y := absI (y - b)) (by rw [absI_eq]; split <;> omega) (by rw [absI_eq]; split <;> omega)
      have w3 : IntKind.wrap .i64 (octI (absI (x - a)) (absI (y - b))) = octI (absI (x - a)) (absI (y - b)) := wrap_small (by omega) (by omega)
      simp (maxDischargeDepth := 8) only [go_sem, reduceIte, reduceCtorEq, Nat.reduceEqDiff, Nat.reduceAdd, Nat.reduceMul, Nat.reduceSub, Nat.reduceLeDiff, Nat.reduceLT, Nat.reduceBEq, Int.reduceToNat, Int.reduceEq, Int.reduceLT, Int.reduceLE, Int.reduceAdd, Int.reduceSub, Int.reduceMul, Int.reduceNeg, hm, w1, w2, fun m => r_fixed_Octile m (x - a) (y - b) (by omega) (by omega)]
      simp only [absI] at w3
      simp [octC, h1, h2, iB, absI, w3]
theorem back_ok {x y d : Int} (h : stepOk x y d = true) : stepOk (x + turnX d) (y + turnY d) (backP d) = true ∧ x + turnX d + turnX (backP d) = x ∧ y + turnY d + turnY (backP d) = y ∧ dirR x y (x + turnX d) (y + turnY d) 8 = d := by
  have h1 := step_in h
  have hd : d = 0 ∨ d = 1 ∨ d = 2 ∨ d = 3 ∨ d = 4 ∨ d = 5 ∨ d = 6 ∨ d = 7 := by have := h1.1; simp [isDir] at this; omega
  have key : ∀ e : Int, goes x y (x + turnX d) (y + turnY d) e = (stepOk x y e && (decide (turnX e = turnX d) && decide (turnY e = turnY d))) := by
    intro e
    unfold goes
    rw [show decide (x + turnX e = x + turnX d) = decide (turnX e = turnX d) by rw [decide_eq_decide]; omega, show decide (y + turnY e = y + turnY d) = decide (turnY e = turnY d) by rw [decide_eq_decide]; omega]
  have key2 : dirR x y (x + turnX d) (y + turnY d) 8 = d := by
    rcases hd with rfl | rfl | rfl | rfl | rfl | rfl | rfl | rfl <;> simp only [dirR, key] <;> simp [turnX, turnY, h]
  refine ⟨?_, ?_, ?_, key2⟩
  · have hb : stepOk (x + turnX d) (y + turnY d) (backP d) = (isDir (backP d) && nearC (x + turnX d) (y + turnY d) && nearC (x + turnX d + turnX (backP d)) (y + turnY d + turnY (backP d))) := rfl
    rw [hb]
    have e1 : x + turnX d + turnX (backP d) = x := by rcases hd with rfl | rfl | rfl | rfl | rfl | rfl | rfl | rfl <;> simp [turnX, backP, isDir] <;> omega
    have e2 : y + turnY d + turnY (backP d) = y := by rcases hd with rfl | rfl | rfl | rfl | rfl | rfl | rfl | rfl <;> simp [turnY, backP, isDir] <;> omega
    rw [e1, e2, h1.2.1, h1.2.2]
    rcases hd with rfl | rfl | rfl | rfl | rfl | rfl | rfl | rfl <;> rfl
  · rcases hd with rfl | rfl | rfl | rfl | rfl | rfl | rfl | rfl <;> simp [turnX, backP, isDir] <;> omega
  · rcases hd with rfl | rfl | rfl | rfl | rfl | rfl | rfl | rfl <;> simp [turnY, backP, isDir] <;> omega
theorem mxI_comm (a b : Int) : mxI a b = mxI b a := by unfold mxI; split <;> split <;> omega
theorem mnI_comm (a b : Int) : mnI a b = mnI b a := by unfold mnI; split <;> split <;> omega
theorem absI_comm (a b : Int) : absI (a - b) = absI (b - a) := by unfold absI mxI; split <;> split <;> omega
theorem apartC_comm (x y a b : Int) : apartC a b x y = apartC x y a b := by
  unfold apartC
  rw [absI_comm a x, absI_comm b y, Bool.and_comm]
theorem octC_comm (x y a b : Int) : octC a b x y = octC x y a b := by
  unfold octC
  rw [absI_comm a x, absI_comm b y, Bool.and_comm]
theorem oct_apart (x y a b : Int) : 0 ≤ apartC x y a b ∧ apartC x y a b ≤ 2097152 ∧ 10 * apartC x y a b ≤ octC x y a b ∧ octC x y a b ≤ 14 * apartC x y a b := by
  unfold apartC octC
  cases h : nearC x y && nearC a b with
  | false => simp [iB]
  | true =>
    simp only [Bool.and_eq_true] at h
    have n1 := nearC_in h.1
    have n2 := nearC_in h.2
    simp only [iB, if_true, octI, mxI]
    have e1 := absI_eq (x - a)
    have e2 := absI_eq (y - b)
    split at e1 <;> split at e2 <;> (repeat' split) <;> omega
theorem meetB_comm (x y w h a b c d : Int) : meetB a b c d x y w h = meetB x y w h a b c d := by
  unfold meetB
  rw [mxI_comm a x, mxI_comm b y, mnI_comm (lastX a c), mnI_comm (lastX b d), Bool.and_comm (mayB a b c d)]
theorem last_wl {x p : Int} (h1 : -3000000 ≤ p ∧ p ≤ 3000000) (h2 : -3000000 ≤ x ∧ x ≤ 3000000) : lastX x (wl p x) = p := by
  rw [wl1 h1 h2]
  unfold lastX
  rw [wrap_small (x := x + (p - x + 1)) (by omega) (by omega), wrap_small (by omega) (by omega)]
  omega
theorem last_eq {x y w hh : Int} (h : mayB x y w hh = true) : lastX x w = x + w - 1 ∧ lastX y hh = y + hh - 1 := by
  have h1 := may_in h
  have h2 : (1 ≤ w ∧ w ≤ 1048576) ∧ (1 ≤ hh ∧ hh ≤ 1048576) := by simp [mayB, sideB] at h; omega
  unfold lastX
  rw [wrap_small (x := x + w) (by omega) (by omega), wrap_small (by omega) (by omega), wrap_small (x := y + hh) (by omega) (by omega), wrap_small (by omega) (by omega)]
  exact ⟨rfl, rfl⟩
/-- A rectangle, with no wrapping in sight. -/
theorem may_iff (x y w hh : Int) : mayB x y w hh = true ↔ (-1048576 ≤ x ∧ x ≤ 1048576) ∧ (-1048576 ≤ y ∧ y ≤ 1048576) ∧ (1 ≤ w ∧ w ≤ 1048576) ∧ (1 ≤ hh ∧ hh ≤ 1048576) ∧ x + w - 1 ≤ 1048576 ∧ y + hh - 1 ≤ 1048576 := by
  constructor
  · intro h
    have h1 := may_in h
    have h2 : (1 ≤ w ∧ w ≤ 1048576) ∧ (1 ≤ hh ∧ hh ≤ 1048576) := by simp [mayB, sideB] at h; omega
    have h3 := last_eq h
    omega
  · rintro ⟨h1, h2, h3, h4, h5, h6⟩
    have e1 : lastX x w = x + w - 1 := by unfold lastX; rw [wrap_small (x := x + w) (by omega) (by omega), wrap_small (by omega) (by omega)]
    have e2 : lastX y hh = y + hh - 1 := by unfold lastX; rw [wrap_small (x := y + hh) (by omega) (by omega), wrap_small (by omega) (by omega)]
    simp only [mayB, nearC, nearP, sideB, e1, e2, Bool.and_eq_true, decide_eq_true_eq]
    omega
theorem has_iff (x y w hh a b : Int) : hasB x y w hh a b = true ↔ mayB x y w hh = true ∧ x ≤ a ∧ y ≤ b ∧ a ≤ x + w - 1 ∧ b ≤ y + hh - 1 := by
  unfold hasB
  cases h : mayB x y w hh with
  | false => simp
  | true =>
    have h3 := last_eq h
    rw [h3.1, h3.2]
    simp only [Bool.true_and, Bool.and_eq_true, decide_eq_true_eq, true_and]
    omega
theorem meet_has (x y w h a b c d p q : Int) : (meetB x y w h a b c d && hasB (iB (meetB x y w h a b c d) (mxI x a)) (iB (meetB x y w h a b c d) (mxI y b)) (iB (meetB x y w h a b c d) (wl (mnI (lastX x w) (lastX a c)) (mxI x a))) (iB (meetB x y w h a b c d) (wl (mnI (lastX y h) (lastX b d)) (mxI y b))) p q) =
    (hasB x y w h p q && hasB a b c d p q) := by
  rw [Bool.eq_iff_iff, Bool.and_eq_true, Bool.and_eq_true]
  cases hm : meetB x y w h a b c d with
  | false =>
    simp only [Bool.false_eq_true, false_and, false_iff, not_and]
    intro h1 h2
    rw [has_iff] at h1 h2
    have l1 := last_eq h1.1
    have l2 := last_eq h2.1
    simp only [meetB, h1.1, h2.1, Bool.true_and, Bool.and_eq_false_iff, decide_eq_false_iff_not, l1, l2, mxI, mnI] at hm
    revert hm
    (repeat' split) <;> omega
  | true =>
    simp only [iB, if_true, true_and]
    simp only [meetB, Bool.and_eq_true, decide_eq_true_eq] at hm
    obtain ⟨⟨m1, m2⟩, m3, m4⟩ := hm
    have l1 := last_eq m1
    have l2 := last_eq m2
    have q1 := (may_iff _ _ _ _).1 m1
    have q2 := (may_iff _ _ _ _).1 m2
    have e1 := wl1 (p := mnI (lastX x w) (lastX a c)) (x := mxI x a) (mn_in (by omega) (by omega)) (mx_in (by omega) (by omega))
    have e2 := wl1 (p := mnI (lastX y h) (lastX b d)) (x := mxI y b) (mn_in (by omega) (by omega)) (mx_in (by omega) (by omega))
    rw [has_iff, has_iff, has_iff, may_iff, e1, e2]
    simp only [m1, m2, true_and]
    rw [l1.1, l1.2, l2.1, l2.2] at *
    simp only [mxI, mnI] at *
    revert m3 m4
    (repeat' split) <;> omega
theorem r_law03_CellBack (m : Mem) (hm : m.Wf) (x y p q a b w hh c d v u : Int) : RF tb f_law03_CellBack [.agg [.int .i64 x, .int .i64 y], .agg [.int .i64 p, .int .i64 q], .agg [.int .i64 a, .int .i64 b, .int .i64 w, .int .i64 hh, .int .i64 c, .int .i64 d, .int .i64 v, .int .i64 u]] m = some (.bool true, m) := by
  rw [RF_go t_law03_CellBack _ _ rfl]
  simp (maxDischargeDepth := 8) only [go_sem, reduceIte, reduceCtorEq, Nat.reduceEqDiff, Nat.reduceAdd, Nat.reduceMul, Nat.reduceSub, Nat.reduceLeDiff, Nat.reduceLT, Nat.reduceBEq, Int.reduceToNat, Int.reduceEq, Int.reduceLT, Int.reduceLE, Int.reduceAdd, Int.reduceSub, Int.reduceMul, Int.reduceNeg, s_law03_CellBack, hm]
  rw [KL_keep _ _ _ (by simp (maxDischargeDepth := 8) only [go_sem, reduceIte, reduceCtorEq, Nat.reduceEqDiff, Nat.reduceAdd, Nat.reduceMul, Nat.reduceSub, Nat.reduceLeDiff, Nat.reduceLT, Nat.reduceBEq, Int.reduceToNat, Int.reduceEq, Int.reduceLT, Int.reduceLE, Int.reduceAdd, Int.reduceSub, Int.reduceMul, Int.reduceNeg])]
  simp (maxDischargeDepth := 8) only [go_sem, reduceIte, reduceCtorEq, Nat.reduceEqDiff, Nat.reduceAdd, Nat.reduceMul, Nat.reduceSub, Nat.reduceLeDiff, Nat.reduceLT, Nat.reduceBEq, Int.reduceToNat, Int.reduceEq, Int.reduceLT, Int.reduceLE, Int.reduceAdd, Int.reduceSub, Int.reduceMul, Int.reduceNeg]
  refine KL_indE (α := Nat) (fun i => i) (fun i => [(3, .ptr (.st m.dep 0) 0), (4, .ptr (.st m.dep 1) 0), (5, .ptr (.st m.dep 2) 0), (7, .int .i64 (8 - (i : Int)))])
    (fun i => m.fr [.cells true [.int .i64 x, .int .i64 y], .cells true [.int .i64 p, .int .i64 q], .cells true [.int .i64 a, .int .i64 b, .int .i64 w, .int .i64 hh, .int .i64 c, .int .i64 d, .int .i64 v, .int .i64 u]] none) (fun i => i ≤ 8) ?_ 8 (Nat.le_refl _)
  rintro i hi ih
  simp (maxDischargeDepth := 8) only [go_sem, reduceIte, reduceCtorEq, Nat.reduceEqDiff, Nat.reduceAdd, Nat.reduceMul, Nat.reduceSub, Nat.reduceLeDiff, Nat.reduceLT, Nat.reduceBEq, Int.reduceToNat, Int.reduceEq, Int.reduceLT, Int.reduceLE, Int.reduceAdd, Int.reduceSub, Int.reduceMul, Int.reduceNeg, hm]
  cases i with
  | zero =>
    have ho := oct_apart x y p q
    have w1 : IntKind.wrap .i64 (10 * apartC x y p q) = 10 * apartC x y p q := wrap_small (by omega) (by omega)
    have w2 : IntKind.wrap .i64 (14 * apartC x y p q) = 14 * apartC x y p q := wrap_small (by omega) (by omega)
    have c1 : decide (octC x y p q < 10 * apartC x y p q) = false := decide_eq_false (by omega)
    have c2 : decide (octC x y p q > 14 * apartC x y p q) = false := decide_eq_false (by omega)
    simp (maxDischargeDepth := 8) only [go_sem, reduceIte, reduceCtorEq, Nat.reduceEqDiff, Nat.reduceAdd, Nat.reduceMul, Nat.reduceSub, Nat.reduceLeDiff, Nat.reduceLT, Nat.reduceBEq, Int.reduceToNat, Int.reduceEq, Int.reduceLT, Int.reduceLE, Int.reduceAdd, Int.reduceSub, Int.reduceMul, Int.reduceNeg, show decide ((8 : Int) - ((0 : Nat) : Int) < 8) = false from rfl, hm, r_cell_Apart, r_cell_Octile, apartC_comm x y p q, octC_comm x y p q, w1, w2, c1, c2, inB, show decide ((0 : Int) ≤ 0) = true from rfl, show decide ((0 : Int) < ((2 : Nat) : Int)) = true from rfl, show decide ((0 : Int) ≤ 1) = true from rfl, show decide ((1 : Int) < ((2 : Nat) : Int)) = true from rfl]
    have hmh := meet_has a b w hh c d v u p q
    have m1 : ∀ m : Mem, m.Wf → RF tb f_cell_Meet [rect a b w hh, rect c d v u] m = some (.tup [meetV a b w hh c d v u, .bool (meetB a b w hh c d v u)], m) := fun m hm => r_cell_Meet m hm _ _ _ _ _ _ _ _
    have m2 : ∀ m : Mem, m.Wf → RF tb f_cell_Meet [rect c d v u, rect a b w hh] m = some (.tup [meetV a b w hh c d v u, .bool (meetB a b w hh c d v u)], m) := fun m hm => by
      have e : meetV c d v u a b w hh = meetV a b w hh c d v u := by unfold meetV rect; rw [meetB_comm, mxI_comm c a, mxI_comm d b, mnI_comm (lastX c v), mnI_comm (lastX d u)]
      rw [r_cell_Meet m hm, meetB_comm, e]
    unfold meetV at m1 m2
    generalize meetB a b w hh c d v u = B at *
    generalize iB B (mxI a c) = r1 at *
    generalize iB B (mxI b d) = r2 at *
    generalize iB B (wl (mnI (lastX a w) (lastX c v)) (mxI a c)) = r3 at *
    generalize iB B (wl (mnI (lastX b hh) (lastX d u)) (mxI b d)) = r4 at *
    simp (maxDischargeDepth := 8) only [go_sem, reduceIte, reduceCtorEq, Nat.reduceEqDiff, Nat.reduceAdd, Nat.reduceMul, Nat.reduceSub, Nat.reduceLeDiff, Nat.reduceLT, Nat.reduceBEq, Int.reduceToNat, Int.reduceEq, Int.reduceLT, Int.reduceLE, Int.reduceAdd, Int.reduceSub, Int.reduceMul, Int.reduceNeg, hm, m1, m2]
    cases B with
    | false =>
      simp only [Bool.false_and] at hmh
      simp (maxDischargeDepth := 8) only [go_sem, reduceIte, reduceCtorEq, Nat.reduceEqDiff, Nat.reduceAdd, Nat.reduceMul, Nat.reduceSub, Nat.reduceLeDiff, Nat.reduceLT, Nat.reduceBEq, Int.reduceToNat, Int.reduceEq, Int.reduceLT, Int.reduceLE, Int.reduceAdd, Int.reduceSub, Int.reduceMul, Int.reduceNeg, hm, r_cell_Has]
      repeat' ((first | rw [KG_bool] | rw [KC_bool]); split <;> rename_i h <;> (try simp only [Bool.not_eq_true, Bool.not_not, Bool.not_eq_eq_eq_not, Bool.not_true, Bool.not_false] at h) <;> simp (maxDischargeDepth := 8) only [go_sem, reduceIte, reduceCtorEq, Nat.reduceEqDiff, Nat.reduceAdd, Nat.reduceMul, Nat.reduceSub, Nat.reduceLeDiff, Nat.reduceLT, Nat.reduceBEq, Int.reduceToNat, Int.reduceEq, Int.reduceLT, Int.reduceLE, Int.reduceAdd, Int.reduceSub, Int.reduceMul, Int.reduceNeg, h, hm, r_cell_Has, r_law03_awake])
      all_goals (clear ih m1 m2 ho w1 w2 c1 c2)
      all_goals simp_all
    | true =>
      simp only [Bool.true_and] at hmh
      simp (maxDischargeDepth := 8) only [go_sem, reduceIte, reduceCtorEq, Nat.reduceEqDiff, Nat.reduceAdd, Nat.reduceMul, Nat.reduceSub, Nat.reduceLeDiff, Nat.reduceLT, Nat.reduceBEq, Int.reduceToNat, Int.reduceEq, Int.reduceLT, Int.reduceLE, Int.reduceAdd, Int.reduceSub, Int.reduceMul, Int.reduceNeg, hm, r_cell_Has]
      repeat' ((first | rw [KG_bool] | rw [KC_bool]); split <;> rename_i h <;> (try simp only [Bool.not_eq_true, Bool.not_not, Bool.not_eq_eq_eq_not, Bool.not_true, Bool.not_false] at h) <;> simp (maxDischargeDepth := 8) only [go_sem, reduceIte, reduceCtorEq, Nat.reduceEqDiff, Nat.reduceAdd, Nat.reduceMul, Nat.reduceSub, Nat.reduceLeDiff, Nat.reduceLT, Nat.reduceBEq, Int.reduceToNat, Int.reduceEq, Int.reduceLT, Int.reduceLE, Int.reduceAdd, Int.reduceSub, Int.reduceMul, Int.reduceNeg, h, hm, r_cell_Has, r_law03_awake])
      all_goals (clear ih m1 m2 ho w1 w2 c1 c2)
      all_goals simp_all
  | succ i =>
    have wi : IntKind.wrap .i64 (8 - ((i + 1 : Nat) : Int) + 1) = 8 - (i : Int) := by rw [wrap_small (by omega) (by omega)]; omega
    have c1 : decide ((8 : Int) - ((i + 1 : Nat) : Int) < 8) = true := decide_eq_true (by omega)
    generalize hde : (8 : Int) - ((i + 1 : Nat) : Int) = de at *
    simp (maxDischargeDepth := 8) only [go_sem, reduceIte, reduceCtorEq, Nat.reduceEqDiff, Nat.reduceAdd, Nat.reduceMul, Nat.reduceSub, Nat.reduceLeDiff, Nat.reduceLT, Nat.reduceBEq, Int.reduceToNat, Int.reduceEq, Int.reduceLT, Int.reduceLE, Int.reduceAdd, Int.reduceSub, Int.reduceMul, Int.reduceNeg, c1, hm, r_cell_Step]
    cases hs : stepOk x y de with
    | false =>
      simp (maxDischargeDepth := 8) only [go_sem, reduceIte, reduceCtorEq, Nat.reduceEqDiff, Nat.reduceAdd, Nat.reduceMul, Nat.reduceSub, Nat.reduceLeDiff, Nat.reduceLT, Nat.reduceBEq, Int.reduceToNat, Int.reduceEq, Int.reduceLT, Int.reduceLE, Int.reduceAdd, Int.reduceSub, Int.reduceMul, Int.reduceNeg, hm, wi]
      rw [KL_keep _ _ _ (by simp (maxDischargeDepth := 8) only [go_sem, reduceIte, reduceCtorEq, Nat.reduceEqDiff, Nat.reduceAdd, Nat.reduceMul, Nat.reduceSub, Nat.reduceLeDiff, Nat.reduceLT, Nat.reduceBEq, Int.reduceToNat, Int.reduceEq, Int.reduceLT, Int.reduceLE, Int.reduceAdd, Int.reduceSub, Int.reduceMul, Int.reduceNeg])]
      simp (maxDischargeDepth := 8) only [go_sem, reduceIte, reduceCtorEq, Nat.reduceEqDiff, Nat.reduceAdd, Nat.reduceMul, Nat.reduceSub, Nat.reduceLeDiff, Nat.reduceLT, Nat.reduceBEq, Int.reduceToNat, Int.reduceEq, Int.reduceLT, Int.reduceLE, Int.reduceAdd, Int.reduceSub, Int.reduceMul, Int.reduceNeg]
      exact ih i (by omega) (by omega)
    | true =>
      have e1 : stepX x y de = x + turnX de := by simp [stepX, hs]
      have e2 : stepY x y de = y + turnY de := by simp [stepY, hs]
      obtain ⟨b1, b2, b3, b4⟩ := back_ok hs
      have e3 : stepX (x + turnX de) (y + turnY de) (backP de) = x := by simp [stepX, b1, b2]
      have e4 : stepY (x + turnX de) (y + turnY de) (backP de) = y := by simp [stepY, b1, b3]
      simp (maxDischargeDepth := 8) only [go_sem, reduceIte, reduceCtorEq, Nat.reduceEqDiff, Nat.reduceAdd, Nat.reduceMul, Nat.reduceSub, Nat.reduceLeDiff, Nat.reduceLT, Nat.reduceBEq, Int.reduceToNat, Int.reduceEq, Int.reduceLT, Int.reduceLE, Int.reduceAdd, Int.reduceSub, Int.reduceMul, Int.reduceNeg, hm, r_cell_Step, r_cell_Back, e1, e2, e3, e4, b1, b4, r_cell_Dir, wi]
      rw [KL_keep _ _ _ (by simp (maxDischargeDepth := 8) only [go_sem, reduceIte, reduceCtorEq, Nat.reduceEqDiff, Nat.reduceAdd, Nat.reduceMul, Nat.reduceSub, Nat.reduceLeDiff, Nat.reduceLT, Nat.reduceBEq, Int.reduceToNat, Int.reduceEq, Int.reduceLT, Int.reduceLE, Int.reduceAdd, Int.reduceSub, Int.reduceMul, Int.reduceNeg])]
      simp (maxDischargeDepth := 8) only [go_sem, reduceIte, reduceCtorEq, Nat.reduceEqDiff, Nat.reduceAdd, Nat.reduceMul, Nat.reduceSub, Nat.reduceLeDiff, Nat.reduceLT, Nat.reduceBEq, Int.reduceToNat, Int.reduceEq, Int.reduceLT, Int.reduceLE, Int.reduceAdd, Int.reduceSub, Int.reduceMul, Int.reduceNeg]
      exact ih i (by omega) (by omega)
theorem law03_CellBack (m : Mem) (hm : m.Wf) (c t : Int × Int) (l : List ((Int × Int) × Int × Int)) (hl : l.length = 2) :
    ∃ m', RF tb f_law03_CellBack [.agg [.int .i64 c.1, .int .i64 c.2], .agg [.int .i64 t.1, .int .i64 t.2], .agg ((Fl.rep (Fl.pair (Fl.pair (Fl.int .i64) (Fl.int .i64)) (Fl.pair (Fl.int .i64) (Fl.int .i64))) 2).enc l)] m = some (.bool true, m') := by
  match l, hl with
  | [r, s], _ => exact ex_of (r_law03_CellBack m hm c.1 c.2 t.1 t.2 r.1.1 r.1.2 r.2.1 r.2.2 s.1.1 s.1.2 s.2.1 s.2.2)
end Go.Sh.T
