import Derived.Test.YtjhiccoooaleoaaShWalk
import Derived.Test.YtjhiccoooaleoaaShT3s
set_option linter.all false
set_option linter.unusedVariables false
set_option linter.unusedSimpArgs false
set_option autoImplicit false
namespace Go.Sh.T
open Go.Sh
set_option maxHeartbeats 4000000
set_option maxRecDepth 20000
def nearP (x : Int) : Bool := decide (-1048576 ≤ x) && decide (x ≤ 1048576)
def nearC (x y : Int) : Bool := nearP x && nearP y
def turnX (d : Int) : Int := if d = 0 then 1 else if d = 2 then -1 else if d = 4 then 1 else if d = 5 then -1 else if d = 6 then -1 else if d = 7 then 1 else 0
def turnY (d : Int) : Int := if d = 1 then 1 else if d = 3 then -1 else if d = 4 then 1 else if d = 5 then 1 else if d = 6 then -1 else if d = 7 then -1 else 0
def isDir (d : Int) : Bool := decide (0 ≤ d) && decide (d ≤ 7)
theorem r90 (m : Mem) (x : Int) : RF tb 90 [.int .i64 x] m = some (.bool (nearP x), m) := by
  rw [RF_go (show tb 90 = some s90 from rfl) _ _ rfl]
  simp only [go_sem, reduceIte, reduceCtorEq, Nat.reduceEqDiff, Nat.reduceAdd, Nat.reduceMul, Nat.reduceSub, Nat.reduceLeDiff, Nat.reduceLT, Nat.reduceBEq, Int.reduceToNat, Int.reduceEq, Int.reduceLT, Int.reduceLE, Int.reduceAdd, Int.reduceSub, Int.reduceMul, Int.reduceNeg, s90]
  ((first | rw [KG_bool] | rw [KC_bool]); split <;> rename_i h <;> (try simp only [Bool.not_eq_true, Bool.not_not, Bool.not_eq_eq_eq_not, Bool.not_true, Bool.not_false] at h) <;> simp only [go_sem, reduceIte, reduceCtorEq, Nat.reduceEqDiff, Nat.reduceAdd, Nat.reduceMul, Nat.reduceSub, Nat.reduceLeDiff, Nat.reduceLT, Nat.reduceBEq, Int.reduceToNat, Int.reduceEq, Int.reduceLT, Int.reduceLE, Int.reduceAdd, Int.reduceSub, Int.reduceMul, Int.reduceNeg, h]) <;> simp_all [nearP] <;> omega
theorem r89 (m : Mem) (x : Int) : RF tb 89 [.int .i64 x] m = some (.bool (nearP x), m) := by
  rw [RF_go (show tb 89 = some s89 from rfl) _ _ rfl]
  simp only [go_sem, reduceIte, reduceCtorEq, Nat.reduceEqDiff, Nat.reduceAdd, Nat.reduceMul, Nat.reduceSub, Nat.reduceLeDiff, Nat.reduceLT, Nat.reduceBEq, Int.reduceToNat, Int.reduceEq, Int.reduceLT, Int.reduceLE, Int.reduceAdd, Int.reduceSub, Int.reduceMul, Int.reduceNeg, s89]
  ((first | rw [KG_bool] | rw [KC_bool]); split <;> rename_i h <;> (try simp only [Bool.not_eq_true, Bool.not_not, Bool.not_eq_eq_eq_not, Bool.not_true, Bool.not_false] at h) <;> simp only [go_sem, reduceIte, reduceCtorEq, Nat.reduceEqDiff, Nat.reduceAdd, Nat.reduceMul, Nat.reduceSub, Nat.reduceLeDiff, Nat.reduceLT, Nat.reduceBEq, Int.reduceToNat, Int.reduceEq, Int.reduceLT, Int.reduceLE, Int.reduceAdd, Int.reduceSub, Int.reduceMul, Int.reduceNeg, h]) <;> simp_all [nearP] <;> omega
theorem r28 (m : Mem) (hm : m.Wf) (x y : Int) : RF tb 28 [.agg [.int .i64 x, .int .i64 y]] m = some (.bool (nearC x y), m) := by
  rw [RF_go (show tb 28 = some s28 from rfl) _ _ rfl]
  simp only [go_sem, reduceIte, reduceCtorEq, Nat.reduceEqDiff, Nat.reduceAdd, Nat.reduceMul, Nat.reduceSub, Nat.reduceLeDiff, Nat.reduceLT, Nat.reduceBEq, Int.reduceToNat, Int.reduceEq, Int.reduceLT, Int.reduceLE, Int.reduceAdd, Int.reduceSub, Int.reduceMul, Int.reduceNeg, s28, r90]
  ((first | rw [KG_bool] | rw [KC_bool]); split <;> rename_i h <;> (try simp only [Bool.not_eq_true, Bool.not_not, Bool.not_eq_eq_eq_not, Bool.not_true, Bool.not_false] at h) <;> simp only [go_sem, reduceIte, reduceCtorEq, Nat.reduceEqDiff, Nat.reduceAdd, Nat.reduceMul, Nat.reduceSub, Nat.reduceLeDiff, Nat.reduceLT, Nat.reduceBEq, Int.reduceToNat, Int.reduceEq, Int.reduceLT, Int.reduceLE, Int.reduceAdd, Int.reduceSub, Int.reduceMul, Int.reduceNeg, h, r90]) <;> simp_all [nearC]
theorem r27 (m : Mem) (hm : m.Wf) (x y : Int) : RF tb 27 [.agg [.int .i64 x, .int .i64 y]] m = some (.bool (nearC x y), m) := by
  rw [RF_go (show tb 27 = some s27 from rfl) _ _ rfl]
  simp only [go_sem, reduceIte, reduceCtorEq, Nat.reduceEqDiff, Nat.reduceAdd, Nat.reduceMul, Nat.reduceSub, Nat.reduceLeDiff, Nat.reduceLT, Nat.reduceBEq, Int.reduceToNat, Int.reduceEq, Int.reduceLT, Int.reduceLE, Int.reduceAdd, Int.reduceSub, Int.reduceMul, Int.reduceNeg, s27, r89]
  ((first | rw [KG_bool] | rw [KC_bool]); split <;> rename_i h <;> (try simp only [Bool.not_eq_true, Bool.not_not, Bool.not_eq_eq_eq_not, Bool.not_true, Bool.not_false] at h) <;> simp only [go_sem, reduceIte, reduceCtorEq, Nat.reduceEqDiff, Nat.reduceAdd, Nat.reduceMul, Nat.reduceSub, Nat.reduceLeDiff, Nat.reduceLT, Nat.reduceBEq, Int.reduceToNat, Int.reduceEq, Int.reduceLT, Int.reduceLE, Int.reduceAdd, Int.reduceSub, Int.reduceMul, Int.reduceNeg, h, r89]) <;> simp_all [nearC]
theorem r76 (m : Mem) (d : Int) : RF tb 76 [.int .i64 d] m = some (.tup [.int .i64 (turnX d), .int .i64 (turnY d), .bool (isDir d)], m) := by
  rw [RF_go (show tb 76 = some s76 from rfl) _ _ rfl]
  simp only [go_sem, reduceIte, reduceCtorEq, Nat.reduceEqDiff, Nat.reduceAdd, Nat.reduceMul, Nat.reduceSub, Nat.reduceLeDiff, Nat.reduceLT, Nat.reduceBEq, Int.reduceToNat, Int.reduceEq, Int.reduceLT, Int.reduceLE, Int.reduceAdd, Int.reduceSub, Int.reduceMul, Int.reduceNeg, s76]
  repeat' ((first | rw [KG_bool] | rw [KC_bool]); split <;> rename_i h <;> (try simp only [Bool.not_eq_true, Bool.not_not, Bool.not_eq_eq_eq_not, Bool.not_true, Bool.not_false] at h) <;> simp only [go_sem, reduceIte, reduceCtorEq, Nat.reduceEqDiff, Nat.reduceAdd, Nat.reduceMul, Nat.reduceSub, Nat.reduceLeDiff, Nat.reduceLT, Nat.reduceBEq, Int.reduceToNat, Int.reduceEq, Int.reduceLT, Int.reduceLE, Int.reduceAdd, Int.reduceSub, Int.reduceMul, Int.reduceNeg, h])
  all_goals simp_all [turnX, turnY, isDir]
  all_goals omega
theorem r87 (m : Mem) (hm : m.Wf) (d : Int) : RF tb 87 [.int .i64 d] m = some (.agg [.int .i64 (turnX d), .int .i64 (turnY d)], m) := by
  rw [RF_go (show tb 87 = some s87 from rfl) _ _ rfl]
  simp only [go_sem, reduceIte, reduceCtorEq, Nat.reduceEqDiff, Nat.reduceAdd, Nat.reduceMul, Nat.reduceSub, Nat.reduceLeDiff, Nat.reduceLT, Nat.reduceBEq, Int.reduceToNat, Int.reduceEq, Int.reduceLT, Int.reduceLE, Int.reduceAdd, Int.reduceSub, Int.reduceMul, Int.reduceNeg, s87, hm]
  repeat' ((first | rw [KG_bool] | rw [KC_bool]); split <;> rename_i h <;> (try simp only [Bool.not_eq_true, Bool.not_not, Bool.not_eq_eq_eq_not, Bool.not_true, Bool.not_false] at h) <;> simp only [go_sem, reduceIte, reduceCtorEq, Nat.reduceEqDiff, Nat.reduceAdd, Nat.reduceMul, Nat.reduceSub, Nat.reduceLeDiff, Nat.reduceLT, Nat.reduceBEq, Int.reduceToNat, Int.reduceEq, Int.reduceLT, Int.reduceLE, Int.reduceAdd, Int.reduceSub, Int.reduceMul, Int.reduceNeg, h, hm])
  all_goals simp_all [turnX, turnY]
theorem r88 (m : Mem) (hm : m.Wf) (a b c d : Int) : RF tb 88 [.agg [.int .i64 a, .int .i64 b], .agg [.int .i64 c, .int .i64 d]] m = some (.agg [.int .i64 (IntKind.wrap .i64 (a + c)), .int .i64 (IntKind.wrap .i64 (b + d))], m) := by
  rw [RF_go (show tb 88 = some s88 from rfl) _ _ rfl]
  simp only [go_sem, reduceIte, reduceCtorEq, Nat.reduceEqDiff, Nat.reduceAdd, Nat.reduceMul, Nat.reduceSub, Nat.reduceLeDiff, Nat.reduceLT, Nat.reduceBEq, Int.reduceToNat, Int.reduceEq, Int.reduceLT, Int.reduceLE, Int.reduceAdd, Int.reduceSub, Int.reduceMul, Int.reduceNeg, s88, hm]
def stepOk (x y d : Int) : Bool := isDir d && nearC x y && nearC (x + turnX d) (y + turnY d)
def stepX (x y d : Int) : Int := if stepOk x y d then x + turnX d else 0
def stepY (x y d : Int) : Int := if stepOk x y d then y + turnY d else 0
theorem turn_lo (d : Int) : -1 ≤ turnX d ∧ turnX d ≤ 1 ∧ -1 ≤ turnY d ∧ turnY d ≤ 1 := by
  unfold turnX turnY; refine ⟨?_, ?_, ?_, ?_⟩ <;> repeat' split <;> omega
theorem wrap_small {x : Int} (h1 : -9223372036854775808 ≤ x) (h2 : x ≤ 9223372036854775807) : IntKind.wrap .i64 x = x := by
  simp only [IntKind.wrap, IntKind.bits, IntKind.signed]
  simp
  omega
theorem near_in {x : Int} (h : nearP x = true) : -1048576 ≤ x ∧ x ≤ 1048576 := by simpa [nearP] using h
theorem nearC_in {x y : Int} (h : nearC x y = true) : (-1048576 ≤ x ∧ x ≤ 1048576) ∧ (-1048576 ≤ y ∧ y ≤ 1048576) := by
  simp only [nearC, Bool.and_eq_true] at h; exact ⟨near_in h.1, near_in h.2⟩
theorem wrapX {x y d : Int} (h : nearC x y = true) : IntKind.wrap .i64 (x + turnX d) = x + turnX d := by
  have := nearC_in h; have := turn_lo d; exact wrap_small (by omega) (by omega)
theorem wrapY {x y d : Int} (h : nearC x y = true) : IntKind.wrap .i64 (y + turnY d) = y + turnY d := by
  have := nearC_in h; have := turn_lo d; exact wrap_small (by omega) (by omega)
theorem r18 (m : Mem) (hm : m.Wf) (x y d : Int) : RF tb 18 [.agg [.int .i64 x, .int .i64 y], .int .i64 d] m = some (.tup [.agg [.int .i64 (stepX x y d), .int .i64 (stepY x y d)], .bool (stepOk x y d)], m) := by
  rw [RF_go (show tb 18 = some s18 from rfl) _ _ rfl]
  simp only [go_sem, reduceIte, reduceCtorEq, Nat.reduceEqDiff, Nat.reduceAdd, Nat.reduceMul, Nat.reduceSub, Nat.reduceLeDiff, Nat.reduceLT, Nat.reduceBEq, Int.reduceToNat, Int.reduceEq, Int.reduceLT, Int.reduceLE, Int.reduceAdd, Int.reduceSub, Int.reduceMul, Int.reduceNeg, s18, hm, r76, r28]
  repeat' ((first | rw [KG_bool] | rw [KC_bool]); split <;> rename_i h <;> (try simp only [Bool.not_eq_true, Bool.not_not, Bool.not_eq_eq_eq_not, Bool.not_true, Bool.not_false] at h) <;> simp only [go_sem, reduceIte, reduceCtorEq, Nat.reduceEqDiff, Nat.reduceAdd, Nat.reduceMul, Nat.reduceSub, Nat.reduceLeDiff, Nat.reduceLT, Nat.reduceBEq, Int.reduceToNat, Int.reduceEq, Int.reduceLT, Int.reduceLE, Int.reduceAdd, Int.reduceSub, Int.reduceMul, Int.reduceNeg, h, hm, r76, r28])
  all_goals (try simp only [Bool.not_eq_false] at *)
  all_goals simp_all [stepX, stepY, stepOk, @wrapX x y d, @wrapY x y d]
theorem isDir_turn (d : Int) : isDir d = false ↔ (turnX d = 0 ∧ turnY d = 0) := by
  unfold isDir turnX turnY
  simp only [Bool.and_eq_false_iff, decide_eq_false_iff_not]
  constructor
  · intro h; constructor <;> repeat' split <;> omega
  · intro h; repeat' split at h <;> omega
theorem isDir_z (d : Int) : (turnX d == 0 && turnY d == 0) = !isDir d := by
  cases h : isDir d with
  | false => simp [(isDir_turn d).1 h]
  | true =>
    have : ¬ (turnX d = 0 ∧ turnY d = 0) := fun h' => by rw [(isDir_turn d).2 h'] at h; cases h
    simpa using this
theorem r24 (m : Mem) (hm : m.Wf) (x y d : Int) : RF tb 24 [.agg [.int .i64 x, .int .i64 y], .int .i64 d] m = some (.tup [.agg [.int .i64 (stepX x y d), .int .i64 (stepY x y d)], .bool (stepOk x y d)], m) := by
  rw [RF_go (show tb 24 = some s24 from rfl) _ _ rfl]
  simp only [go_sem, reduceIte, reduceCtorEq, Nat.reduceEqDiff, Nat.reduceAdd, Nat.reduceMul, Nat.reduceSub, Nat.reduceLeDiff, Nat.reduceLT, Nat.reduceBEq, Int.reduceToNat, Int.reduceEq, Int.reduceLT, Int.reduceLE, Int.reduceAdd, Int.reduceSub, Int.reduceMul, Int.reduceNeg, s24, hm, r87, r88, r27]
  repeat' ((first | rw [KG_bool] | rw [KC_bool]); split <;> rename_i h <;> (try simp only [Bool.not_eq_true, Bool.not_not, Bool.not_eq_eq_eq_not, Bool.not_true, Bool.not_false] at h) <;> simp only [go_sem, reduceIte, reduceCtorEq, Nat.reduceEqDiff, Nat.reduceAdd, Nat.reduceMul, Nat.reduceSub, Nat.reduceLeDiff, Nat.reduceLT, Nat.reduceBEq, Int.reduceToNat, Int.reduceEq, Int.reduceLT, Int.reduceLE, Int.reduceAdd, Int.reduceSub, Int.reduceMul, Int.reduceNeg, h, hm, r87, r88, r27])
  all_goals simp only [isDir_z] at *
  all_goals (try simp only [Bool.not_eq_false, Bool.not_eq_true] at *)
  all_goals simp_all [stepX, stepY, stepOk, @wrapX x y d, @wrapY x y d]
def costP (d : Int) : Int := if isDir d then if d < 4 then 10 else 14 else 0
def backP (d : Int) : Int := if isDir d then if d = 0 then 2 else if d = 1 then 3 else if d = 2 then 0 else if d = 3 then 1 else if d = 4 then 6 else if d = 5 then 7 else if d = 6 then 4 else 5 else -1
theorem r33 (m : Mem) (d : Int) : RF tb 33 [.int .i64 d] m = some (.int .i64 (costP d), m) := by
  rw [RF_go (show tb 33 = some s33 from rfl) _ _ rfl]
  simp only [go_sem, reduceIte, reduceCtorEq, Nat.reduceEqDiff, Nat.reduceAdd, Nat.reduceMul, Nat.reduceSub, Nat.reduceLeDiff, Nat.reduceLT, Nat.reduceBEq, Int.reduceToNat, Int.reduceEq, Int.reduceLT, Int.reduceLE, Int.reduceAdd, Int.reduceSub, Int.reduceMul, Int.reduceNeg, s33]
  repeat' ((first | rw [KG_bool] | rw [KC_bool]); split <;> rename_i h <;> (try simp only [Bool.not_eq_true, Bool.not_not, Bool.not_eq_eq_eq_not, Bool.not_true, Bool.not_false] at h) <;> simp only [go_sem, reduceIte, reduceCtorEq, Nat.reduceEqDiff, Nat.reduceAdd, Nat.reduceMul, Nat.reduceSub, Nat.reduceLeDiff, Nat.reduceLT, Nat.reduceBEq, Int.reduceToNat, Int.reduceEq, Int.reduceLT, Int.reduceLE, Int.reduceAdd, Int.reduceSub, Int.reduceMul, Int.reduceNeg, h])
  all_goals simp_all [costP, isDir]
  all_goals omega
theorem r34 (m : Mem) (d : Int) : RF tb 34 [.int .i64 d] m = some (.int .i64 (costP d), m) := by
  rw [RF_go (show tb 34 = some s34 from rfl) _ _ rfl]
  simp only [go_sem, reduceIte, reduceCtorEq, Nat.reduceEqDiff, Nat.reduceAdd, Nat.reduceMul, Nat.reduceSub, Nat.reduceLeDiff, Nat.reduceLT, Nat.reduceBEq, Int.reduceToNat, Int.reduceEq, Int.reduceLT, Int.reduceLE, Int.reduceAdd, Int.reduceSub, Int.reduceMul, Int.reduceNeg, s34]
  repeat' ((first | rw [KG_bool] | rw [KC_bool]); split <;> rename_i h <;> (try simp only [Bool.not_eq_true, Bool.not_not, Bool.not_eq_eq_eq_not, Bool.not_true, Bool.not_false] at h) <;> simp only [go_sem, reduceIte, reduceCtorEq, Nat.reduceEqDiff, Nat.reduceAdd, Nat.reduceMul, Nat.reduceSub, Nat.reduceLeDiff, Nat.reduceLT, Nat.reduceBEq, Int.reduceToNat, Int.reduceEq, Int.reduceLT, Int.reduceLE, Int.reduceAdd, Int.reduceSub, Int.reduceMul, Int.reduceNeg, h])
  all_goals simp_all [costP, isDir]
  all_goals omega
theorem dirs {d : Int} (h1 : decide (d < 0) = false) (h2 : decide (d ≥ 8) = false) : d = 0 ∨ d = 1 ∨ d = 2 ∨ d = 3 ∨ d = 4 ∨ d = 5 ∨ d = 6 ∨ d = 7 := by
  simp at h1 h2; omega
theorem r31 (m : Mem) (d : Int) : RF tb 31 [.int .i64 d] m = some (.int .i64 (backP d), m) := by
  rw [RF_go (show tb 31 = some s31 from rfl) _ _ rfl]
  simp only [go_sem, reduceIte, reduceCtorEq, Nat.reduceEqDiff, Nat.reduceAdd, Nat.reduceMul, Nat.reduceSub, Nat.reduceLeDiff, Nat.reduceLT, Nat.reduceBEq, Int.reduceToNat, Int.reduceEq, Int.reduceLT, Int.reduceLE, Int.reduceAdd, Int.reduceSub, Int.reduceMul, Int.reduceNeg, s31]
  repeat' ((first | rw [KG_bool] | rw [KC_bool]); split <;> rename_i h <;> (try simp only [Bool.not_eq_true, Bool.not_not, Bool.not_eq_eq_eq_not, Bool.not_true, Bool.not_false] at h) <;> simp only [go_sem, reduceIte, reduceCtorEq, Nat.reduceEqDiff, Nat.reduceAdd, Nat.reduceMul, Nat.reduceSub, Nat.reduceLeDiff, Nat.reduceLT, Nat.reduceBEq, Int.reduceToNat, Int.reduceEq, Int.reduceLT, Int.reduceLE, Int.reduceAdd, Int.reduceSub, Int.reduceMul, Int.reduceNeg, h])
  · simp_all [backP, isDir]; omega
  · have hd : d = 0 ∨ d = 1 ∨ d = 2 ∨ d = 3 ∨ d = 4 ∨ d = 5 ∨ d = 6 ∨ d = 7 := by simp_all; omega
    rcases hd with rfl | rfl | rfl | rfl | rfl | rfl | rfl | rfl <;> rfl
  · simp_all [backP, isDir]; omega
theorem r32 (m : Mem) (d : Int) : RF tb 32 [.int .i64 d] m = some (.int .i64 (backP d), m) := by
  rw [RF_go (show tb 32 = some s32 from rfl) _ _ rfl]
  simp only [go_sem, reduceIte, reduceCtorEq, Nat.reduceEqDiff, Nat.reduceAdd, Nat.reduceMul, Nat.reduceSub, Nat.reduceLeDiff, Nat.reduceLT, Nat.reduceBEq, Int.reduceToNat, Int.reduceEq, Int.reduceLT, Int.reduceLE, Int.reduceAdd, Int.reduceSub, Int.reduceMul, Int.reduceNeg, s32]
  repeat' ((first | rw [KG_bool] | rw [KC_bool]); split <;> rename_i h <;> (try simp only [Bool.not_eq_true, Bool.not_not, Bool.not_eq_eq_eq_not, Bool.not_true, Bool.not_false] at h) <;> simp only [go_sem, reduceIte, reduceCtorEq, Nat.reduceEqDiff, Nat.reduceAdd, Nat.reduceMul, Nat.reduceSub, Nat.reduceLeDiff, Nat.reduceLT, Nat.reduceBEq, Int.reduceToNat, Int.reduceEq, Int.reduceLT, Int.reduceLE, Int.reduceAdd, Int.reduceSub, Int.reduceMul, Int.reduceNeg, h])
  · simp_all [backP, isDir]; omega
  · have hd : d = 0 ∨ d = 1 ∨ d = 2 ∨ d = 3 := by simp_all; omega
    rcases hd with rfl | rfl | rfl | rfl <;> rfl
  · have hd : d = 4 ∨ d = 5 ∨ d = 6 ∨ d = 7 := by simp_all; omega
    rcases hd with rfl | rfl | rfl | rfl <;> rfl
  · simp_all [backP, isDir]; omega
def sideOk (x y d : Int) : Bool := stepOk x y d && decide (4 ≤ d)
theorem step_in {x y d : Int} (h : stepOk x y d = true) : isDir d = true ∧ nearC x y = true ∧ nearC (x + turnX d) (y + turnY d) = true := by
  simp only [stepOk, Bool.and_eq_true] at h; exact ⟨h.1.1, h.1.2, h.2⟩
theorem wrap0 {x y : Int} (h : nearC x y = true) : IntKind.wrap .i64 (x + 0) = x ∧ IntKind.wrap .i64 (y + 0) = y ∧ IntKind.wrap .i64 x = x ∧ IntKind.wrap .i64 y = y := by
  have := nearC_in h
  refine ⟨?_, ?_, wrap_small (by omega) (by omega), wrap_small (by omega) (by omega)⟩ <;> rw [Int.add_zero] <;> exact wrap_small (by omega) (by omega)
abbrev sideV (x y d : Int) : SV := .tup [.agg [.int .i64 (if sideOk x y d then x + turnX d else 0), .int .i64 (if sideOk x y d then y else 0)], .agg [.int .i64 (if sideOk x y d then x else 0), .int .i64 (if sideOk x y d then y + turnY d else 0)], .bool (sideOk x y d)]
theorem sideY {x y d : Int} (h1 : stepOk x y d = true) (h2 : decide (d < 4) = false) : sideOk x y d = true := by simp_all [sideOk]
theorem sideN {x y d : Int} (h2 : decide (d < 4) = true) : sideOk x y d = false := by simp_all [sideOk]
theorem sideN' {x y d : Int} (h2 : stepOk x y d = false) : sideOk x y d = false := by simp_all [sideOk]
theorem r25 (m : Mem) (hm : m.Wf) (x y d : Int) : RF tb 25 [.agg [.int .i64 x, .int .i64 y], .int .i64 d] m = some (sideV x y d, m) := by
  rw [RF_go (show tb 25 = some s25 from rfl) _ _ rfl]
  simp only [go_sem, reduceIte, reduceCtorEq, Nat.reduceEqDiff, Nat.reduceAdd, Nat.reduceMul, Nat.reduceSub, Nat.reduceLeDiff, Nat.reduceLT, Nat.reduceBEq, Int.reduceToNat, Int.reduceEq, Int.reduceLT, Int.reduceLE, Int.reduceAdd, Int.reduceSub, Int.reduceMul, Int.reduceNeg, s25, hm, r87, r88, r24]
  repeat' ((first | rw [KG_bool] | rw [KC_bool]); split <;> rename_i h <;> (try simp only [Bool.not_eq_true, Bool.not_not, Bool.not_eq_eq_eq_not, Bool.not_true, Bool.not_false] at h) <;> simp only [go_sem, reduceIte, reduceCtorEq, Nat.reduceEqDiff, Nat.reduceAdd, Nat.reduceMul, Nat.reduceSub, Nat.reduceLeDiff, Nat.reduceLT, Nat.reduceBEq, Int.reduceToNat, Int.reduceEq, Int.reduceLT, Int.reduceLE, Int.reduceAdd, Int.reduceSub, Int.reduceMul, Int.reduceNeg, h, hm, r87, r88, r24])
  · simp [sideV, sideN h]
  · rename_i h1
    have hin := (step_in h1).2.1
    simp [sideV, sideY h1 h, wrapX hin, wrapY hin, wrap0 hin]
  · simp [sideV, sideN' h]
theorem r26 (m : Mem) (hm : m.Wf) (x y d : Int) : RF tb 26 [.agg [.int .i64 x, .int .i64 y], .int .i64 d] m = some (sideV x y d, m) := by
  rw [RF_go (show tb 26 = some s26 from rfl) _ _ rfl]
  simp only [go_sem, reduceIte, reduceCtorEq, Nat.reduceEqDiff, Nat.reduceAdd, Nat.reduceMul, Nat.reduceSub, Nat.reduceLeDiff, Nat.reduceLT, Nat.reduceBEq, Int.reduceToNat, Int.reduceEq, Int.reduceLT, Int.reduceLE, Int.reduceAdd, Int.reduceSub, Int.reduceMul, Int.reduceNeg, s26, hm, r76, r18]
  repeat' ((first | rw [KG_bool] | rw [KC_bool]); split <;> rename_i h <;> (try simp only [Bool.not_eq_true, Bool.not_not, Bool.not_eq_eq_eq_not, Bool.not_true, Bool.not_false] at h) <;> simp only [go_sem, reduceIte, reduceCtorEq, Nat.reduceEqDiff, Nat.reduceAdd, Nat.reduceMul, Nat.reduceSub, Nat.reduceLeDiff, Nat.reduceLT, Nat.reduceBEq, Int.reduceToNat, Int.reduceEq, Int.reduceLT, Int.reduceLE, Int.reduceAdd, Int.reduceSub, Int.reduceMul, Int.reduceNeg, h, hm, r76, r18])
  · simp [sideV, sideN h]
  · rename_i h1
    have hin := (step_in h1).2.1
    simp [sideV, sideY h1 h, wrapX hin, wrapY hin, wrap0 hin]
  · simp [sideV, sideN' h]
def goes (x y a b d : Int) : Bool := stepOk x y d && (decide (x + turnX d = a) && decide (y + turnY d = b))
def dirR (x y a b : Int) : Nat → Int
  | 0 => -1
  | n + 1 => if goes x y a b (8 - (n + 1 : Nat)) then 8 - (n + 1 : Nat) else dirR x y a b n
theorem goes_eq (x y a b d : Int) : goes x y a b d = (stepOk x y d && (stepX x y d == a && stepY x y d == b)) := by
  unfold goes stepX stepY
  cases stepOk x y d <;> simp [show ∀ a b : Int, (a == b) = decide (a = b) from fun a b => rfl]
theorem r29 (m : Mem) (hm : m.Wf) (x y a b : Int) : RF tb 29 [.agg [.int .i64 x, .int .i64 y], .agg [.int .i64 a, .int .i64 b]] m = some (.int .i64 (dirR x y a b 8), m) := by
  rw [RF_go (show tb 29 = some s29 from rfl) _ _ rfl]
  simp only [go_sem, reduceIte, reduceCtorEq, Nat.reduceEqDiff, Nat.reduceAdd, Nat.reduceMul, Nat.reduceSub, Nat.reduceLeDiff, Nat.reduceLT, Nat.reduceBEq, Int.reduceToNat, Int.reduceEq, Int.reduceLT, Int.reduceLE, Int.reduceAdd, Int.reduceSub, Int.reduceMul, Int.reduceNeg, s29, hm, r24]
  rw [KL_keep _ _ _ (by simp only [go_sem, reduceIte, reduceCtorEq, Nat.reduceEqDiff, Nat.reduceAdd, Nat.reduceMul, Nat.reduceSub, Nat.reduceLeDiff, Nat.reduceLT, Nat.reduceBEq, Int.reduceToNat, Int.reduceEq, Int.reduceLT, Int.reduceLE, Int.reduceAdd, Int.reduceSub, Int.reduceMul, Int.reduceNeg])]
  simp only [go_sem, reduceIte, reduceCtorEq, Nat.reduceEqDiff, Nat.reduceAdd, Nat.reduceMul, Nat.reduceSub, Nat.reduceLeDiff, Nat.reduceLT, Nat.reduceBEq, Int.reduceToNat, Int.reduceEq, Int.reduceLT, Int.reduceLE, Int.reduceAdd, Int.reduceSub, Int.reduceMul, Int.reduceNeg]
  refine KL_down 8 (fun i => [(2, .ptr (.st m.stk.length 0) 0), (3, .ptr (.st m.stk.length 1) 0), (8, .int .i64 i)]) (fun _ => m.fr [.cells true [.int .i64 x, .int .i64 y], .cells true [.int .i64 a, .int .i64 b]] none) (fun i => some (.int .i64 (dirR x y a b (8 - i)), m)) ?_ ?_
  · simp only [go_sem, reduceIte, reduceCtorEq, Nat.reduceEqDiff, Nat.reduceAdd, Nat.reduceMul, Nat.reduceSub, Nat.reduceLeDiff, Nat.reduceLT, Nat.reduceBEq, Int.reduceToNat, Int.reduceEq, Int.reduceLT, Int.reduceLE, Int.reduceAdd, Int.reduceSub, Int.reduceMul, Int.reduceNeg]
    rfl
  · intro i hi ih
    have h8 : decide ((i : Int) < 8) = true := by simp; omega
    have hw : IntKind.wrap .i64 ((i : Int) + 1) = ((i + 1 : Nat) : Int) := by rw [wrap_small (by omega) (by omega)]; rfl
    have e8 : 8 - i = (8 - (i + 1)) + 1 := by omega
    have ed : (8 : Int) - ((8 - (i + 1) + 1 : Nat) : Int) = i := by omega
    simp only [go_sem, reduceIte, reduceCtorEq, Nat.reduceEqDiff, Nat.reduceAdd, Nat.reduceMul, Nat.reduceSub, Nat.reduceLeDiff, Nat.reduceLT, Nat.reduceBEq, Int.reduceToNat, Int.reduceEq, Int.reduceLT, Int.reduceLE, Int.reduceAdd, Int.reduceSub, Int.reduceMul, Int.reduceNeg, hm, r24, h8]
    repeat' ((first | rw [KG_bool] | rw [KC_bool]); split <;> rename_i h <;> (try simp only [Bool.not_eq_true, Bool.not_not, Bool.not_eq_eq_eq_not, Bool.not_true, Bool.not_false] at h) <;> simp only [go_sem, reduceIte, reduceCtorEq, Nat.reduceEqDiff, Nat.reduceAdd, Nat.reduceMul, Nat.reduceSub, Nat.reduceLeDiff, Nat.reduceLT, Nat.reduceBEq, Int.reduceToNat, Int.reduceEq, Int.reduceLT, Int.reduceLE, Int.reduceAdd, Int.reduceSub, Int.reduceMul, Int.reduceNeg, h, hm, r24, hw])
    · rw [e8, dirR, ed, if_pos (by rw [goes_eq]; simp_all)]
    · rw [KL_keep _ _ _ (by simp only [go_sem, reduceIte, reduceCtorEq, Nat.reduceEqDiff, Nat.reduceAdd, Nat.reduceMul, Nat.reduceSub, Nat.reduceLeDiff, Nat.reduceLT, Nat.reduceBEq, Int.reduceToNat, Int.reduceEq, Int.reduceLT, Int.reduceLE, Int.reduceAdd, Int.reduceSub, Int.reduceMul, Int.reduceNeg])]
      simp only [go_sem, reduceIte, reduceCtorEq, Nat.reduceEqDiff, Nat.reduceAdd, Nat.reduceMul, Nat.reduceSub, Nat.reduceLeDiff, Nat.reduceLT, Nat.reduceBEq, Int.reduceToNat, Int.reduceEq, Int.reduceLT, Int.reduceLE, Int.reduceAdd, Int.reduceSub, Int.reduceMul, Int.reduceNeg]
      rw [ih, e8, dirR, ed, if_neg (by rw [goes_eq]; simp_all)]
    · rw [KL_keep _ _ _ (by simp only [go_sem, reduceIte, reduceCtorEq, Nat.reduceEqDiff, Nat.reduceAdd, Nat.reduceMul, Nat.reduceSub, Nat.reduceLeDiff, Nat.reduceLT, Nat.reduceBEq, Int.reduceToNat, Int.reduceEq, Int.reduceLT, Int.reduceLE, Int.reduceAdd, Int.reduceSub, Int.reduceMul, Int.reduceNeg])]
      simp only [go_sem, reduceIte, reduceCtorEq, Nat.reduceEqDiff, Nat.reduceAdd, Nat.reduceMul, Nat.reduceSub, Nat.reduceLeDiff, Nat.reduceLT, Nat.reduceBEq, Int.reduceToNat, Int.reduceEq, Int.reduceLT, Int.reduceLE, Int.reduceAdd, Int.reduceSub, Int.reduceMul, Int.reduceNeg]
      rw [ih, e8, dirR, ed, if_neg (by rw [goes_eq]; simp_all)]
theorem r30 (m : Mem) (hm : m.Wf) (x y a b : Int) : RF tb 30 [.agg [.int .i64 x, .int .i64 y], .agg [.int .i64 a, .int .i64 b]] m = some (.int .i64 (dirR x y a b 8), m) := by
  rw [RF_go (show tb 30 = some s30 from rfl) _ _ rfl]
  simp only [go_sem, reduceIte, reduceCtorEq, Nat.reduceEqDiff, Nat.reduceAdd, Nat.reduceMul, Nat.reduceSub, Nat.reduceLeDiff, Nat.reduceLT, Nat.reduceBEq, Int.reduceToNat, Int.reduceEq, Int.reduceLT, Int.reduceLE, Int.reduceAdd, Int.reduceSub, Int.reduceMul, Int.reduceNeg, s30, hm, r18]
  rw [KL_keep _ _ _ (by simp only [go_sem, reduceIte, reduceCtorEq, Nat.reduceEqDiff, Nat.reduceAdd, Nat.reduceMul, Nat.reduceSub, Nat.reduceLeDiff, Nat.reduceLT, Nat.reduceBEq, Int.reduceToNat, Int.reduceEq, Int.reduceLT, Int.reduceLE, Int.reduceAdd, Int.reduceSub, Int.reduceMul, Int.reduceNeg])]
  simp only [go_sem, reduceIte, reduceCtorEq, Nat.reduceEqDiff, Nat.reduceAdd, Nat.reduceMul, Nat.reduceSub, Nat.reduceLeDiff, Nat.reduceLT, Nat.reduceBEq, Int.reduceToNat, Int.reduceEq, Int.reduceLT, Int.reduceLE, Int.reduceAdd, Int.reduceSub, Int.reduceMul, Int.reduceNeg]
  refine KL_down 8 (fun i => [(2, .ptr (.st m.stk.length 0) 0), (3, .ptr (.st m.stk.length 1) 0), (5, .int .i64 i)]) (fun _ => m.fr [.cells true [.int .i64 x, .int .i64 y], .cells true [.int .i64 a, .int .i64 b]] none) (fun i => some (.int .i64 (dirR x y a b (8 - i)), m)) ?_ ?_
  · simp only [go_sem, reduceIte, reduceCtorEq, Nat.reduceEqDiff, Nat.reduceAdd, Nat.reduceMul, Nat.reduceSub, Nat.reduceLeDiff, Nat.reduceLT, Nat.reduceBEq, Int.reduceToNat, Int.reduceEq, Int.reduceLT, Int.reduceLE, Int.reduceAdd, Int.reduceSub, Int.reduceMul, Int.reduceNeg]
    rfl
  · intro i hi ih
    have h8 : decide ((i : Int) < 8) = true := by simp; omega
    have hw : IntKind.wrap .i64 ((i : Int) + 1) = ((i + 1 : Nat) : Int) := by rw [wrap_small (by omega) (by omega)]; rfl
    have e8 : 8 - i = (8 - (i + 1)) + 1 := by omega
    have ed : (8 : Int) - ((8 - (i + 1) + 1 : Nat) : Int) = i := by omega
    simp only [go_sem, reduceIte, reduceCtorEq, Nat.reduceEqDiff, Nat.reduceAdd, Nat.reduceMul, Nat.reduceSub, Nat.reduceLeDiff, Nat.reduceLT, Nat.reduceBEq, Int.reduceToNat, Int.reduceEq, Int.reduceLT, Int.reduceLE, Int.reduceAdd, Int.reduceSub, Int.reduceMul, Int.reduceNeg, hm, r18, h8]
    repeat' ((first | rw [KG_bool] | rw [KC_bool]); split <;> rename_i h <;> (try simp only [Bool.not_eq_true, Bool.not_not, Bool.not_eq_eq_eq_not, Bool.not_true, Bool.not_false] at h) <;> simp only [go_sem, reduceIte, reduceCtorEq, Nat.reduceEqDiff, Nat.reduceAdd, Nat.reduceMul, Nat.reduceSub, Nat.reduceLeDiff, Nat.reduceLT, Nat.reduceBEq, Int.reduceToNat, Int.reduceEq, Int.reduceLT, Int.reduceLE, Int.reduceAdd, Int.reduceSub, Int.reduceMul, Int.reduceNeg, h, hm, r18, hw])
    · rw [e8, dirR, ed, if_pos (by rw [goes_eq]; simp_all)]
    · rw [KL_keep _ _ _ (by simp only [go_sem, reduceIte, reduceCtorEq, Nat.reduceEqDiff, Nat.reduceAdd, Nat.reduceMul, Nat.reduceSub, Nat.reduceLeDiff, Nat.reduceLT, Nat.reduceBEq, Int.reduceToNat, Int.reduceEq, Int.reduceLT, Int.reduceLE, Int.reduceAdd, Int.reduceSub, Int.reduceMul, Int.reduceNeg])]
      simp only [go_sem, reduceIte, reduceCtorEq, Nat.reduceEqDiff, Nat.reduceAdd, Nat.reduceMul, Nat.reduceSub, Nat.reduceLeDiff, Nat.reduceLT, Nat.reduceBEq, Int.reduceToNat, Int.reduceEq, Int.reduceLT, Int.reduceLE, Int.reduceAdd, Int.reduceSub, Int.reduceMul, Int.reduceNeg]
      rw [ih, e8, dirR, ed, if_neg (by rw [goes_eq]; simp_all)]
    · rw [KL_keep _ _ _ (by simp only [go_sem, reduceIte, reduceCtorEq, Nat.reduceEqDiff, Nat.reduceAdd, Nat.reduceMul, Nat.reduceSub, Nat.reduceLeDiff, Nat.reduceLT, Nat.reduceBEq, Int.reduceToNat, Int.reduceEq, Int.reduceLT, Int.reduceLE, Int.reduceAdd, Int.reduceSub, Int.reduceMul, Int.reduceNeg])]
      simp only [go_sem, reduceIte, reduceCtorEq, Nat.reduceEqDiff, Nat.reduceAdd, Nat.reduceMul, Nat.reduceSub, Nat.reduceLeDiff, Nat.reduceLT, Nat.reduceBEq, Int.reduceToNat, Int.reduceEq, Int.reduceLT, Int.reduceLE, Int.reduceAdd, Int.reduceSub, Int.reduceMul, Int.reduceNeg]
      rw [ih, e8, dirR, ed, if_neg (by rw [goes_eq]; simp_all)]
theorem r16 (m : Mem) (hm : m.Wf) : RF tb 16 [] m = some (.bool true, m) := by
  rw [RF_go (show tb 16 = some s16 from rfl) _ _ rfl]
  simp only [go_sem, reduceIte, reduceCtorEq, Nat.reduceEqDiff, Nat.reduceAdd, Nat.reduceMul, Nat.reduceSub, Nat.reduceLeDiff, Nat.reduceLT, Nat.reduceBEq, Int.reduceToNat, Int.reduceEq, Int.reduceLT, Int.reduceLE, Int.reduceAdd, Int.reduceSub, Int.reduceMul, Int.reduceNeg, s16, hm, r24, r33, show stepOk 4 4 5 = true from rfl, show stepX 4 4 5 = 3 from rfl, show stepY 4 4 5 = 5 from rfl, show costP 4 = 14 from rfl]
theorem r6 (m : Mem) (hm : m.Wf) (x y a b d : Int) : RF tb 6 [.agg [.int .i64 x, .int .i64 y], .agg [.int .i64 a, .int .i64 b], .int .i64 d] m = some (.bool true, m) := by
  rw [RF_go (show tb 6 = some s6 from rfl) _ _ rfl]
  simp only [go_sem, reduceIte, reduceCtorEq, Nat.reduceEqDiff, Nat.reduceAdd, Nat.reduceMul, Nat.reduceSub, Nat.reduceLeDiff, Nat.reduceLT, Nat.reduceBEq, Int.reduceToNat, Int.reduceEq, Int.reduceLT, Int.reduceLE, Int.reduceAdd, Int.reduceSub, Int.reduceMul, Int.reduceNeg, s6, hm, r24, r18, r25, r26, r27, r28, r29, r30, r31, r32, r33, r34, r16]
end Go.Sh.T
