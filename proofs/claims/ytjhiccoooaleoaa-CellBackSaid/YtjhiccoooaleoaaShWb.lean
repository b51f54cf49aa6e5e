import Derived.Test.YtjhiccoooaleoaaShWa
set_option linter.all false
set_option linter.unusedVariables false
set_option linter.unusedSimpArgs false
set_option autoImplicit false
namespace Go.Sh.T
open Go.Sh
set_option maxHeartbeats 4000000
set_option maxRecDepth 20000
def lastX (x w : Int) : Int := IntKind.wrap .i64 (IntKind.wrap .i64 (x + w) - 1)
abbrev rect (x y w h : Int) : SV := .agg [.int .i64 x, .int .i64 y, .int .i64 w, .int .i64 h]
theorem r_ref03_Last (m : Mem) (hm : m.Wf) (x y w h : Int) : RF tb f_ref03_Last [rect x y w h] m = some (.agg [.int .i64 (lastX x w), .int .i64 (lastX y h)], m) := by
  rw [RF_go t_ref03_Last _ _ rfl]
  simp (maxDischargeDepth := 8) only [go_sem, reduceIte, reduceCtorEq, Nat.reduceEqDiff, Nat.reduceAdd, Nat.reduceMul, Nat.reduceSub, Nat.reduceLeDiff, Nat.reduceLT, Nat.reduceBEq, Int.reduceToNat, Int.reduceEq, Int.reduceLT, Int.reduceLE, Int.reduceAdd, Int.reduceSub, Int.reduceMul, Int.reduceNeg, s_ref03_Last, hm, rect]
  rfl
theorem r_cell_last (m : Mem) (hm : m.Wf) (x y w h : Int) : RF tb f_cell_last [rect x y w h] m = some (.agg [.int .i64 (lastX x w), .int .i64 (lastX y h)], m) := by
  rw [RF_go t_cell_last _ _ rfl]
  simp (maxDischargeDepth := 8) only [go_sem, reduceIte, reduceCtorEq, Nat.reduceEqDiff, Nat.reduceAdd, Nat.reduceMul, Nat.reduceSub, Nat.reduceLeDiff, Nat.reduceLT, Nat.reduceBEq, Int.reduceToNat, Int.reduceEq, Int.reduceLT, Int.reduceLE, Int.reduceAdd, Int.reduceSub, Int.reduceMul, Int.reduceNeg, s_cell_last, hm, rect]
  rfl
def sideB (n : Int) : Bool := decide (1 ≤ n) && decide (n ≤ 1048576)
theorem r_cell_side (m : Mem) (n : Int) : RF tb f_cell_side [.int .i64 n] m = some (.bool (sideB n), m) := by
  rw [RF_go t_cell_side _ _ rfl]
  simp (maxDischargeDepth := 8) only [go_sem, reduceIte, reduceCtorEq, Nat.reduceEqDiff, Nat.reduceAdd, Nat.reduceMul, Nat.reduceSub, Nat.reduceLeDiff, Nat.reduceLT, Nat.reduceBEq, Int.reduceToNat, Int.reduceEq, Int.reduceLT, Int.reduceLE, Int.reduceAdd, Int.reduceSub, Int.reduceMul, Int.reduceNeg, s_cell_side]
  ((first | rw [KG_bool] | rw [KC_bool]); split <;> rename_i h <;> (try simp only [Bool.not_eq_true, Bool.not_not, Bool.not_eq_eq_eq_not, Bool.not_true, Bool.not_false] at h) <;> simp (maxDischargeDepth := 8) only [go_sem, reduceIte, reduceCtorEq, Nat.reduceEqDiff, Nat.reduceAdd, Nat.reduceMul, Nat.reduceSub, Nat.reduceLeDiff, Nat.reduceLT, Nat.reduceBEq, Int.reduceToNat, Int.reduceEq, Int.reduceLT, Int.reduceLE, Int.reduceAdd, Int.reduceSub, Int.reduceMul, Int.reduceNeg, h]) <;> simp_all [sideB] <;> omega
def mayB (x y w h : Int) : Bool := nearC x y && sideB w && sideB h && nearC (lastX x w) (lastX y h)
theorem r_cell_May (m : Mem) (hm : m.Wf) (x y w h : Int) : RF tb f_cell_May [rect x y w h] m = some (.bool (mayB x y w h), m) := by
  rw [RF_go t_cell_May _ _ rfl]
  simp (maxDischargeDepth := 8) only [go_sem, reduceIte, reduceCtorEq, Nat.reduceEqDiff, Nat.reduceAdd, Nat.reduceMul, Nat.reduceSub, Nat.reduceLeDiff, Nat.reduceLT, Nat.reduceBEq, Int.reduceToNat, Int.reduceEq, Int.reduceLT, Int.reduceLE, Int.reduceAdd, Int.reduceSub, Int.reduceMul, Int.reduceNeg, s_cell_May, hm, rect, r_cell_Near, r_cell_last, r_cell_side]
  repeat' ((first | rw [KG_bool] | rw [KC_bool]); split <;> rename_i h <;> (try simp only [Bool.not_eq_true, Bool.not_not, Bool.not_eq_eq_eq_not, Bool.not_true, Bool.not_false] at h) <;> simp (maxDischargeDepth := 8) only [go_sem, reduceIte, reduceCtorEq, Nat.reduceEqDiff, Nat.reduceAdd, Nat.reduceMul, Nat.reduceSub, Nat.reduceLeDiff, Nat.reduceLT, Nat.reduceBEq, Int.reduceToNat, Int.reduceEq, Int.reduceLT, Int.reduceLE, Int.reduceAdd, Int.reduceSub, Int.reduceMul, Int.reduceNeg, h, hm, r_cell_Near, r_cell_last, r_cell_side])
  all_goals simp_all [mayB]
theorem r_ref03_May (m : Mem) (hm : m.Wf) (x y w h : Int) : RF tb f_ref03_May [rect x y w h] m = some (.bool (mayB x y w h), m) := by
  rw [RF_go t_ref03_May _ _ rfl]
  simp (maxDischargeDepth := 8) only [go_sem, reduceIte, reduceCtorEq, Nat.reduceEqDiff, Nat.reduceAdd, Nat.reduceMul, Nat.reduceSub, Nat.reduceLeDiff, Nat.reduceLT, Nat.reduceBEq, Int.reduceToNat, Int.reduceEq, Int.reduceLT, Int.reduceLE, Int.reduceAdd, Int.reduceSub, Int.reduceMul, Int.reduceNeg, s_ref03_May, hm, rect, r_ref03_Near, r_ref03_Last]
  repeat' ((first | rw [KG_bool] | rw [KC_bool]); split <;> rename_i h <;> (try simp only [Bool.not_eq_true, Bool.not_not, Bool.not_eq_eq_eq_not, Bool.not_true, Bool.not_false] at h) <;> simp (maxDischargeDepth := 8) only [go_sem, reduceIte, reduceCtorEq, Nat.reduceEqDiff, Nat.reduceAdd, Nat.reduceMul, Nat.reduceSub, Nat.reduceLeDiff, Nat.reduceLT, Nat.reduceBEq, Int.reduceToNat, Int.reduceEq, Int.reduceLT, Int.reduceLE, Int.reduceAdd, Int.reduceSub, Int.reduceMul, Int.reduceNeg, h, hm, r_ref03_Near, r_ref03_Last])
  all_goals simp_all [mayB, sideB]
  all_goals omega
def hasB (x y w h a b : Int) : Bool := mayB x y w h && (decide (x ≤ a) && decide (y ≤ b) && decide (a ≤ lastX x w) && decide (b ≤ lastX y h))
theorem r_cell_Has (m : Mem) (hm : m.Wf) (x y w h a b : Int) : RF tb f_cell_Has [rect x y w h, .agg [.int .i64 a, .int .i64 b]] m = some (.bool (hasB x y w h a b), m) := by
  rw [RF_go t_cell_Has _ _ rfl]
  simp (maxDischargeDepth := 8) only [go_sem, reduceIte, reduceCtorEq, Nat.reduceEqDiff, Nat.reduceAdd, Nat.reduceMul, Nat.reduceSub, Nat.reduceLeDiff, Nat.reduceLT, Nat.reduceBEq, Int.reduceToNat, Int.reduceEq, Int.reduceLT, Int.reduceLE, Int.reduceAdd, Int.reduceSub, Int.reduceMul, Int.reduceNeg, s_cell_Has, hm, rect, r_cell_May, r_cell_last]
  repeat' ((first | rw [KG_bool] | rw [KC_bool]); split <;> rename_i h <;> (try simp only [Bool.not_eq_true, Bool.not_not, Bool.not_eq_eq_eq_not, Bool.not_true, Bool.not_false] at h) <;> simp (maxDischargeDepth := 8) only [go_sem, reduceIte, reduceCtorEq, Nat.reduceEqDiff, Nat.reduceAdd, Nat.reduceMul, Nat.reduceSub, Nat.reduceLeDiff, Nat.reduceLT, Nat.reduceBEq, Int.reduceToNat, Int.reduceEq, Int.reduceLT, Int.reduceLE, Int.reduceAdd, Int.reduceSub, Int.reduceMul, Int.reduceNeg, h, hm, r_cell_May, r_cell_last])
  all_goals simp_all [hasB]
  all_goals omega
theorem r_ref03_Has (m : Mem) (hm : m.Wf) (x y w h a b : Int) : RF tb f_ref03_Has [rect x y w h, .agg [.int .i64 a, .int .i64 b]] m = some (.bool (hasB x y w h a b), m) := by
  rw [RF_go t_ref03_Has _ _ rfl]
  simp (maxDischargeDepth := 8) only [go_sem, reduceIte, reduceCtorEq, Nat.reduceEqDiff, Nat.reduceAdd, Nat.reduceMul, Nat.reduceSub, Nat.reduceLeDiff, Nat.reduceLT, Nat.reduceBEq, Int.reduceToNat, Int.reduceEq, Int.reduceLT, Int.reduceLE, Int.reduceAdd, Int.reduceSub, Int.reduceMul, Int.reduceNeg, s_ref03_Has, hm, rect, r_ref03_May, r_ref03_Last]
  repeat' ((first | rw [KG_bool] | rw [KC_bool]); split <;> rename_i h <;> (try simp only [Bool.not_eq_true, Bool.not_not, Bool.not_eq_eq_eq_not, Bool.not_true, Bool.not_false] at h) <;> simp (maxDischargeDepth := 8) only [go_sem, reduceIte, reduceCtorEq, Nat.reduceEqDiff, Nat.reduceAdd, Nat.reduceMul, Nat.reduceSub, Nat.reduceLeDiff, Nat.reduceLT, Nat.reduceBEq, Int.reduceToNat, Int.reduceEq, Int.reduceLT, Int.reduceLE, Int.reduceAdd, Int.reduceSub, Int.reduceMul, Int.reduceNeg, h, hm, r_ref03_May, r_ref03_Last])
  all_goals simp_all [hasB]
  all_goals omega
theorem r_cell_between (m : Mem) (hm : m.Wf) (x y a b : Int) : RF tb f_cell_between [.agg [.int .i64 x, .int .i64 y], .agg [.int .i64 a, .int .i64 b]] m = some (rect x y (IntKind.wrap .i64 (IntKind.wrap .i64 (a - x) + 1)) (IntKind.wrap .i64 (IntKind.wrap .i64 (b - y) + 1)), m) := by
  rw [RF_go t_cell_between _ _ rfl]
  simp (maxDischargeDepth := 8) only [go_sem, reduceIte, reduceCtorEq, Nat.reduceEqDiff, Nat.reduceAdd, Nat.reduceMul, Nat.reduceSub, Nat.reduceLeDiff, Nat.reduceLT, Nat.reduceBEq, Int.reduceToNat, Int.reduceEq, Int.reduceLT, Int.reduceLE, Int.reduceAdd, Int.reduceSub, Int.reduceMul, Int.reduceNeg, s_cell_between, hm, rect]
def withinB (x y w h a b c d : Int) : Bool := mayB x y w h && hasB a b c d x y && hasB a b c d (lastX x w) (lastX y h)
theorem r_cell_Within (m : Mem) (hm : m.Wf) (x y w h a b c d : Int) : RF tb f_cell_Within [rect x y w h, rect a b c d] m = some (.bool (withinB x y w h a b c d), m) := by
  rw [RF_go t_cell_Within _ _ rfl]
  simp (maxDischargeDepth := 8) only [go_sem, reduceIte, reduceCtorEq, Nat.reduceEqDiff, Nat.reduceAdd, Nat.reduceMul, Nat.reduceSub, Nat.reduceLeDiff, Nat.reduceLT, Nat.reduceBEq, Int.reduceToNat, Int.reduceEq, Int.reduceLT, Int.reduceLE, Int.reduceAdd, Int.reduceSub, Int.reduceMul, Int.reduceNeg, s_cell_Within, hm, rect, r_cell_May, r_cell_Has, r_cell_last]
  repeat' ((first | rw [KG_bool] | rw [KC_bool]); split <;> rename_i h <;> (try simp only [Bool.not_eq_true, Bool.not_not, Bool.not_eq_eq_eq_not, Bool.not_true, Bool.not_false] at h) <;> simp (maxDischargeDepth := 8) only [go_sem, reduceIte, reduceCtorEq, Nat.reduceEqDiff, Nat.reduceAdd, Nat.reduceMul, Nat.reduceSub, Nat.reduceLeDiff, Nat.reduceLT, Nat.reduceBEq, Int.reduceToNat, Int.reduceEq, Int.reduceLT, Int.reduceLE, Int.reduceAdd, Int.reduceSub, Int.reduceMul, Int.reduceNeg, h, hm, rect, r_cell_May, r_cell_Has, r_cell_last])
  all_goals simp_all [withinB]
theorem r_ref03_Within (m : Mem) (hm : m.Wf) (x y w h a b c d : Int) : RF tb f_ref03_Within [rect x y w h, rect a b c d] m = some (.bool (withinB x y w h a b c d), m) := by
  rw [RF_go t_ref03_Within _ _ rfl]
  simp (maxDischargeDepth := 8) only [go_sem, reduceIte, reduceCtorEq, Nat.reduceEqDiff, Nat.reduceAdd, Nat.reduceMul, Nat.reduceSub, Nat.reduceLeDiff, Nat.reduceLT, Nat.reduceBEq, Int.reduceToNat, Int.reduceEq, Int.reduceLT, Int.reduceLE, Int.reduceAdd, Int.reduceSub, Int.reduceMul, Int.reduceNeg, s_ref03_Within, hm, rect, r_ref03_May, r_ref03_Has, r_ref03_Last]
  repeat' ((first | rw [KG_bool] | rw [KC_bool]); split <;> rename_i h <;> (try simp only [Bool.not_eq_true, Bool.not_not, Bool.not_eq_eq_eq_not, Bool.not_true, Bool.not_false] at h) <;> simp (maxDischargeDepth := 8) only [go_sem, reduceIte, reduceCtorEq, Nat.reduceEqDiff, Nat.reduceAdd, Nat.reduceMul, Nat.reduceSub, Nat.reduceLeDiff, Nat.reduceLT, Nat.reduceBEq, Int.reduceToNat, Int.reduceEq, Int.reduceLT, Int.reduceLE, Int.reduceAdd, Int.reduceSub, Int.reduceMul, Int.reduceNeg, h, hm, rect, r_ref03_May, r_ref03_Has, r_ref03_Last])
  all_goals simp_all [withinB]
def wl (p x : Int) : Int := IntKind.wrap .i64 (IntKind.wrap .i64 (p - x) + 1)
def meetB (x y w h a b c d : Int) : Bool := mayB x y w h && mayB a b c d && (decide (mxI x a ≤ mnI (lastX x w) (lastX a c)) && decide (mxI y b ≤ mnI (lastX y h) (lastX b d)))
def iB (b : Bool) (n : Int) : Int := if b then n else 0
theorem iB_t (n : Int) : iB true n = n := rfl
theorem iB_f (n : Int) : iB false n = 0 := rfl
abbrev meetV (x y w h a b c d : Int) : SV := rect (iB (meetB x y w h a b c d) (mxI x a)) (iB (meetB x y w h a b c d) (mxI y b)) (iB (meetB x y w h a b c d) (wl (mnI (lastX x w) (lastX a c)) (mxI x a))) (iB (meetB x y w h a b c d) (wl (mnI (lastX y h) (lastX b d)) (mxI y b)))
theorem wl1 {p x : Int} (h1 : -3000000 ≤ p ∧ p ≤ 3000000) (h2 : -3000000 ≤ x ∧ x ≤ 3000000) : wl p x = p - x + 1 := by
  unfold wl
  rw [wrap_small (x := p - x) (by omega) (by omega), wrap_small (by omega) (by omega)]
theorem may_in {x y w hh : Int} (h : mayB x y w hh = true) : (-1048576 ≤ x ∧ x ≤ 1048576) ∧ (-1048576 ≤ y ∧ y ≤ 1048576) ∧ (-1048576 ≤ lastX x w ∧ lastX x w ≤ 1048576) ∧ (-1048576 ≤ lastX y hh ∧ lastX y hh ≤ 1048576) := by
  simp only [mayB, Bool.and_eq_true] at h
  have h1 := nearC_in h.1.1.1
  have h2 := nearC_in h.2
  exact ⟨h1.1, h1.2, h2.1, h2.2⟩
theorem mx_in {a b : Int} (ha : -1048576 ≤ a ∧ a ≤ 1048576) (hb : -1048576 ≤ b ∧ b ≤ 1048576) : -3000000 ≤ mxI a b ∧ mxI a b ≤ 3000000 := by unfold mxI; split <;> omega
theorem mn_in {a b : Int} (ha : -1048576 ≤ a ∧ a ≤ 1048576) (hb : -1048576 ≤ b ∧ b ≤ 1048576) : -3000000 ≤ mnI a b ∧ mnI a b ≤ 3000000 := by unfold mnI; split <;> omega
theorem wl2 {p x : Int} (h1 : -3000000 ≤ p ∧ p ≤ 3000000) (h2 : -3000000 ≤ x ∧ x ≤ 3000000) : IntKind.wrap .i64 (IntKind.wrap .i64 (p - x) + 1) = p - x + 1 := wl1 h1 h2
theorem meet_no {x y w hh a b c d : Int} (h : meetB x y w hh a b c d = false) : meetV x y w hh a b c d = rect 0 0 0 0 := by simp [meetV, h, iB]
theorem meet_yes {x y w hh a b c d : Int} (h : meetB x y w hh a b c d = true) : meetV x y w hh a b c d = rect (mxI x a) (mxI y b) (wl (mnI (lastX x w) (lastX a c)) (mxI x a)) (wl (mnI (lastX y hh) (lastX b d)) (mxI y b)) := by simp [meetV, h, iB]
theorem meet_lt {x y w hh a b c d : Int} (h1 : mayB x y w hh = true) (h2 : mayB a b c d = true) : meetB x y w hh a b c d = (!decide (wl (mnI (lastX x w) (lastX a c)) (mxI x a) < 1) && !decide (wl (mnI (lastX y hh) (lastX b d)) (mxI y b) < 1)) := by
  obtain ⟨a1, a2, a3, a4⟩ := may_in h1
  obtain ⟨b1, b2, b3, b4⟩ := may_in h2
  rw [wl1 (mn_in a3 b3) (mx_in a1 b1), wl1 (mn_in a4 b4) (mx_in a2 b2)]
  simp only [meetB, h1, h2, Bool.true_and]
  rw [Bool.eq_iff_iff]
  simp
  omega
theorem r_cell_Meet (m : Mem) (hm : m.Wf) (x y w hh a b c d : Int) : RF tb f_cell_Meet [rect x y w hh, rect a b c d] m = some (.tup [meetV x y w hh a b c d, .bool (meetB x y w hh a b c d)], m) := by
  rw [RF_go t_cell_Meet _ _ rfl]
  simp (maxDischargeDepth := 8) only [go_sem, reduceIte, reduceCtorEq, Nat.reduceEqDiff, Nat.reduceAdd, Nat.reduceMul, Nat.reduceSub, Nat.reduceLeDiff, Nat.reduceLT, Nat.reduceBEq, Int.reduceToNat, Int.reduceEq, Int.reduceLT, Int.reduceLE, Int.reduceAdd, Int.reduceSub, Int.reduceMul, Int.reduceNeg, s_cell_Meet, hm, rect, r_cell_May, r_cell_last, r_cell_between]
  repeat' ((first | rw [KG_bool] | rw [KC_bool]); split <;> rename_i h <;> (try simp only [Bool.not_eq_true, Bool.not_not, Bool.not_eq_eq_eq_not, Bool.not_true, Bool.not_false] at h) <;> simp (maxDischargeDepth := 8) only [go_sem, reduceIte, reduceCtorEq, Nat.reduceEqDiff, Nat.reduceAdd, Nat.reduceMul, Nat.reduceSub, Nat.reduceLeDiff, Nat.reduceLT, Nat.reduceBEq, Int.reduceToNat, Int.reduceEq, Int.reduceLT, Int.reduceLE, Int.reduceAdd, Int.reduceSub, Int.reduceMul, Int.reduceNeg, h, hm, rect, r_cell_May, r_cell_last, r_cell_between])
  · have e : meetB x y w hh a b c d = false := by simp_all [meetB]
    rw [e, meet_no e]
  · rename_i h1 h2 h3
    have hy : wl (mnI (lastX y hh) (lastX b d)) (mxI y b) < 1 := by simpa [wl] using h
    have e : meetB x y w hh a b c d = false := by rw [meet_lt h1 (by simpa using h2)]; simp [hy]
    rw [e, meet_no e]
  · rename_i h1 h2 h3
    have hx : ¬ wl (mnI (lastX x w) (lastX a c)) (mxI x a) < 1 := by simpa [wl] using h3
    have hy : ¬ wl (mnI (lastX y hh) (lastX b d)) (mxI y b) < 1 := by simpa [wl] using h
    have e : meetB x y w hh a b c d = true := by rw [meet_lt h1 (by simpa using h2), decide_eq_false hx, decide_eq_false hy]; rfl
    rw [e, meet_yes e]; rfl
  · rename_i h1 h2
    have hx : wl (mnI (lastX x w) (lastX a c)) (mxI x a) < 1 := by simpa [wl] using h
    have e : meetB x y w hh a b c d = false := by rw [meet_lt h1 (by simpa using h2)]; simp [hx]
    rw [e, meet_no e]
  · have e : meetB x y w hh a b c d = false := by simp_all [meetB]
    rw [e, meet_no e]
theorem mxI_lt {x a : Int} (h : x < a) : mxI x a = a := by simp [mxI, h]
theorem mxI_ge {x a : Int} (h : a ≤ x) : mxI x a = x := by unfold mxI; split <;> omega
theorem mnI_lt {x a : Int} (h : a < x) : mnI x a = a := by simp [mnI, h]
theorem mnI_ge {x a : Int} (h : x ≤ a) : mnI x a = x := by unfold mnI; split <;> omega
theorem r_ref03_Meet (m : Mem) (hm : m.Wf) (x y w hh a b c d : Int) : RF tb f_ref03_Meet [rect x y w hh, rect a b c d] m = some (.tup [meetV x y w hh a b c d, .bool (meetB x y w hh a b c d)], m) := by
  rw [RF_go t_ref03_Meet _ _ rfl]
  simp (maxDischargeDepth := 8) only [go_sem, reduceIte, reduceCtorEq, Nat.reduceEqDiff, Nat.reduceAdd, Nat.reduceMul, Nat.reduceSub, Nat.reduceLeDiff, Nat.reduceLT, Nat.reduceBEq, Int.reduceToNat, Int.reduceEq, Int.reduceLT, Int.reduceLE, Int.reduceAdd, Int.reduceSub, Int.reduceMul, Int.reduceNeg, s_ref03_Meet, hm, rect, r_ref03_May, r_ref03_Last]
  repeat' ((first | rw [KG_bool] | rw [KC_bool]); split <;> rename_i h <;> (try simp only [Bool.not_eq_true, Bool.not_not, Bool.not_eq_eq_eq_not, Bool.not_true, Bool.not_false] at h) <;> simp (maxDischargeDepth := 8) only [go_sem, reduceIte, reduceCtorEq, Nat.reduceEqDiff, Nat.reduceAdd, Nat.reduceMul, Nat.reduceSub, Nat.reduceLeDiff, Nat.reduceLT, Nat.reduceBEq, Int.reduceToNat, Int.reduceEq, Int.reduceLT, Int.reduceLE, Int.reduceAdd, Int.reduceSub, Int.reduceMul, Int.reduceNeg, h, hm, rect, r_ref03_May, r_ref03_Last])
  all_goals (try simp only [decide_eq_true_eq, decide_eq_false_iff_not, Bool.not_eq_true, Bool.not_eq_false, gt_iff_lt, Int.not_lt] at *)
  all_goals first
    | (have e : meetB x y w hh a b c d = false := by simp [meetB, *]
       rw [e, meet_no e]; done)
    | (have e : meetB x y w hh a b c d = false := by
         simp only [meetB, *, mxI_lt, mxI_ge, mnI_lt, mnI_ge, Bool.true_and, Bool.and_eq_false_iff, decide_eq_false_iff_not, not_false_eq_true, true_or, or_true, not_true_eq_false, false_or, or_false, Int.not_le] <;> omega
       rw [e, meet_no e]; done)
    | (have e : meetB x y w hh a b c d = true := by
         simp only [meetB, *, mxI_lt, mxI_ge, mnI_lt, mnI_ge, Bool.true_and, Bool.and_eq_true, decide_eq_true_eq, and_self] <;> omega
       rw [meet_yes e, e]
       simp only [*, mxI_lt, mxI_ge, mnI_lt, mnI_ge, wl])
def hullB (x y w h a b c d : Int) : Bool := mayB x y w h && mayB a b c d && mayB (mnI x a) (mnI y b) (wl (mxI (lastX x w) (lastX a c)) (mnI x a)) (wl (mxI (lastX y h) (lastX b d)) (mnI y b))
abbrev hullV (x y w h a b c d : Int) : SV := rect (iB (hullB x y w h a b c d) (mnI x a)) (iB (hullB x y w h a b c d) (mnI y b)) (iB (hullB x y w h a b c d) (wl (mxI (lastX x w) (lastX a c)) (mnI x a))) (iB (hullB x y w h a b c d) (wl (mxI (lastX y h) (lastX b d)) (mnI y b)))
theorem r_cell_Hull (m : Mem) (hm : m.Wf) (x y w hh a b c d : Int) : RF tb f_cell_Hull [rect x y w hh, rect a b c d] m = some (hullV x y w hh a b c d, m) := by
  rw [RF_go t_cell_Hull _ _ rfl]
  simp (maxDischargeDepth := 8) only [go_sem, reduceIte, reduceCtorEq, Nat.reduceEqDiff, Nat.reduceAdd, Nat.reduceMul, Nat.reduceSub, Nat.reduceLeDiff, Nat.reduceLT, Nat.reduceBEq, Int.reduceToNat, Int.reduceEq, Int.reduceLT, Int.reduceLE, Int.reduceAdd, Int.reduceSub, Int.reduceMul, Int.reduceNeg, s_cell_Hull, hm, rect, r_cell_May, r_cell_last, r_cell_between]
  repeat' ((first | rw [KG_bool] | rw [KC_bool]); split <;> rename_i h <;> (try simp only [Bool.not_eq_true, Bool.not_not, Bool.not_eq_eq_eq_not, Bool.not_true, Bool.not_false] at h) <;> simp (maxDischargeDepth := 8) only [go_sem, reduceIte, reduceCtorEq, Nat.reduceEqDiff, Nat.reduceAdd, Nat.reduceMul, Nat.reduceSub, Nat.reduceLeDiff, Nat.reduceLT, Nat.reduceBEq, Int.reduceToNat, Int.reduceEq, Int.reduceLT, Int.reduceLE, Int.reduceAdd, Int.reduceSub, Int.reduceMul, Int.reduceNeg, h, hm, rect, r_cell_May, r_cell_last, r_cell_between])
  all_goals simp_all [hullB, wl, iB]
theorem r_ref03_Hull (m : Mem) (hm : m.Wf) (x y w hh a b c d : Int) : RF tb f_ref03_Hull [rect x y w hh, rect a b c d] m = some (hullV x y w hh a b c d, m) := by
  rw [RF_go t_ref03_Hull _ _ rfl]
  simp (maxDischargeDepth := 8) only [go_sem, reduceIte, reduceCtorEq, Nat.reduceEqDiff, Nat.reduceAdd, Nat.reduceMul, Nat.reduceSub, Nat.reduceLeDiff, Nat.reduceLT, Nat.reduceBEq, Int.reduceToNat, Int.reduceEq, Int.reduceLT, Int.reduceLE, Int.reduceAdd, Int.reduceSub, Int.reduceMul, Int.reduceNeg, s_ref03_Hull, hm, rect, r_ref03_May, r_ref03_Last]
  repeat' ((first | rw [KG_bool] | rw [KC_bool]); split <;> rename_i h <;> (try simp only [Bool.not_eq_true, Bool.not_not, Bool.not_eq_eq_eq_not, Bool.not_true, Bool.not_false] at h) <;> simp (maxDischargeDepth := 8) only [go_sem, reduceIte, reduceCtorEq, Nat.reduceEqDiff, Nat.reduceAdd, Nat.reduceMul, Nat.reduceSub, Nat.reduceLeDiff, Nat.reduceLT, Nat.reduceBEq, Int.reduceToNat, Int.reduceEq, Int.reduceLT, Int.reduceLE, Int.reduceAdd, Int.reduceSub, Int.reduceMul, Int.reduceNeg, h, hm, rect, r_ref03_May, r_ref03_Last])
  all_goals (try simp only [decide_eq_true_eq, decide_eq_false_iff_not, Bool.not_eq_true, Bool.not_eq_false, gt_iff_lt, Int.not_lt] at *)
  all_goals simp only [hullV, rect, hullB, iB, *, mxI_lt, mxI_ge, mnI_lt, mnI_ge, wl, Bool.true_and, Bool.false_and, Bool.and_true, Bool.and_false, if_true, if_false, Bool.false_eq_true, reduceIte]
theorem r_law03_CellRects (m : Mem) (hm : m.Wf) (x y w hh a b c d p q : Int) : RF tb f_law03_CellRects [rect x y w hh, rect a b c d, .agg [.int .i64 p, .int .i64 q]] m = some (.bool true, m) := by
  rw [RF_go t_law03_CellRects _ _ rfl]
  simp (maxDischargeDepth := 8) only [go_sem, reduceIte, reduceCtorEq, Nat.reduceEqDiff, Nat.reduceAdd, Nat.reduceMul, Nat.reduceSub, Nat.reduceLeDiff, Nat.reduceLT, Nat.reduceBEq, Int.reduceToNat, Int.reduceEq, Int.reduceLT, Int.reduceLE, Int.reduceAdd, Int.reduceSub, Int.reduceMul, Int.reduceNeg, s_law03_CellRects, hm, rect, r_cell_Meet, r_ref03_Meet, r_cell_Hull, r_ref03_Hull, r_cell_May, r_ref03_May, r_cell_Has, r_ref03_Has, r_cell_Within, r_ref03_Within, r_law03_awake]
end Go.Sh.T
