import Derived.Test.YtnogldcjbkiboaaShTabD
set_option linter.all false
set_option linter.unusedVariables false
set_option linter.unusedSimpArgs false
set_option autoImplicit false
namespace Go.Sh.T
open Go.Sh
set_option maxHeartbeats 4000000
set_option maxRecDepth 20000
def nearP (x : Int) : Bool := decide (-1048576 ≤ x) && decide (x ≤ 1048576)
def nearC (x y : Int) : Bool := nearP x && nearP y
def turnX (d : Int) : Int := if d = 0 then 1 else if d = 2 then -1 else if d = 4 then 1 else if d = 5 then -1 else if d = 6 then -1 else if d = 7 then 1 else 0
def turnY (d : Int) : Int := if d = 1 then 1 else if d = 3 then -1 else if d = 4 then 1 else if d = 5 then 1 else if d = 6 then -1 else if d = 7 then -1 else 0
def isDir (d : Int) : Bool := decide (0 ≤ d) && decide (d ≤ 7)
theorem r_ref03_near (m : Mem) (x : Int) : RF tb f_ref03_near [.int .i64 x] m = some (.bool (nearP x), m) := by
  rw [RF_go t_ref03_near _ _ rfl]
  simp (maxDischargeDepth := 8) only [go_sem, reduceIte, reduceCtorEq, Nat.reduceEqDiff, Nat.reduceAdd, Nat.reduceMul, Nat.reduceSub, Nat.reduceLeDiff, Nat.reduceLT, Nat.reduceBEq, Int.reduceToNat, Int.reduceEq, Int.reduceLT, Int.reduceLE, Int.reduceAdd, Int.reduceSub, Int.reduceMul, Int.reduceNeg, s_ref03_near]
  ((first | rw [KG_bool] | rw [KC_bool]); split <;> rename_i h <;> (try simp only [Bool.not_eq_true, Bool.not_not, Bool.not_eq_eq_eq_not, Bool.not_true, Bool.not_false] at h) <;> simp (maxDischargeDepth := 8) only [go_sem, reduceIte, reduceCtorEq, Nat.reduceEqDiff, Nat.reduceAdd, Nat.reduceMul, Nat.reduceSub, Nat.reduceLeDiff, Nat.reduceLT, Nat.reduceBEq, Int.reduceToNat, Int.reduceEq, Int.reduceLT, Int.reduceLE, Int.reduceAdd, Int.reduceSub, Int.reduceMul, Int.reduceNeg, h]) <;> simp_all [nearP] <;> omega
theorem r_cell_near (m : Mem) (x : Int) : RF tb f_cell_near [.int .i64 x] m = some (.bool (nearP x), m) := by
  rw [RF_go t_cell_near _ _ rfl]
  simp (maxDischargeDepth := 8) only [go_sem, reduceIte, reduceCtorEq, Nat.reduceEqDiff, Nat.reduceAdd, Nat.reduceMul, Nat.reduceSub, Nat.reduceLeDiff, Nat.reduceLT, Nat.reduceBEq, Int.reduceToNat, Int.reduceEq, Int.reduceLT, Int.reduceLE, Int.reduceAdd, Int.reduceSub, Int.reduceMul, Int.reduceNeg, s_cell_near]
  ((first | rw [KG_bool] | rw [KC_bool]); split <;> rename_i h <;> (try simp only [Bool.not_eq_true, Bool.not_not, Bool.not_eq_eq_eq_not, Bool.not_true, Bool.not_false] at h) <;> simp (maxDischargeDepth := 8) only [go_sem, reduceIte, reduceCtorEq, Nat.reduceEqDiff, Nat.reduceAdd, Nat.reduceMul, Nat.reduceSub, Nat.reduceLeDiff, Nat.reduceLT, Nat.reduceBEq, Int.reduceToNat, Int.reduceEq, Int.reduceLT, Int.reduceLE, Int.reduceAdd, Int.reduceSub, Int.reduceMul, Int.reduceNeg, h]) <;> simp_all [nearP] <;> omega
theorem r_ref03_Near (m : Mem) (hm : m.Wf) (x y : Int) : RF tb f_ref03_Near [.agg [.int .i64 x, .int .i64 y]] m = some (.bool (nearC x y), m) := by
  rw [RF_go t_ref03_Near _ _ rfl]
  simp (maxDischargeDepth := 8) only [go_sem, reduceIte, reduceCtorEq, Nat.reduceEqDiff, Nat.reduceAdd, Nat.reduceMul, Nat.reduceSub, Nat.reduceLeDiff, Nat.reduceLT, Nat.reduceBEq, Int.reduceToNat, Int.reduceEq, Int.reduceLT, Int.reduceLE, Int.reduceAdd, Int.reduceSub, Int.reduceMul, Int.reduceNeg, s_ref03_Near, r_ref03_near]
  ((first | rw [KG_bool] | rw [KC_bool]); split <;> rename_i h <;> (try simp only [Bool.not_eq_true, Bool.not_not, Bool.not_eq_eq_eq_not, Bool.not_true, Bool.not_false] at h) <;> simp (maxDischargeDepth := 8) only [go_sem, reduceIte, reduceCtorEq, Nat.reduceEqDiff, Nat.reduceAdd, Nat.reduceMul, Nat.reduceSub, Nat.reduceLeDiff, Nat.reduceLT, Nat.reduceBEq, Int.reduceToNat, Int.reduceEq, Int.reduceLT, Int.reduceLE, Int.reduceAdd, Int.reduceSub, Int.reduceMul, Int.reduceNeg, h, r_ref03_near]) <;> simp_all [nearC]
theorem r_cell_Near (m : Mem) (hm : m.Wf) (x y : Int) : RF tb f_cell_Near [.agg [.int .i64 x, .int .i64 y]] m = some (.bool (nearC x y), m) := by
  rw [RF_go t_cell_Near _ _ rfl]
  simp (maxDischargeDepth := 8) only [go_sem, reduceIte, reduceCtorEq, Nat.reduceEqDiff, Nat.reduceAdd, Nat.reduceMul, Nat.reduceSub, Nat.reduceLeDiff, Nat.reduceLT, Nat.reduceBEq, Int.reduceToNat, Int.reduceEq, Int.reduceLT, Int.reduceLE, Int.reduceAdd, Int.reduceSub, Int.reduceMul, Int.reduceNeg, s_cell_Near, r_cell_near]
  ((first | rw [KG_bool] | rw [KC_bool]); split <;> rename_i h <;> (try simp only [Bool.not_eq_true, Bool.not_not, Bool.not_eq_eq_eq_not, Bool.not_true, Bool.not_false] at h) <;> simp (maxDischargeDepth := 8) only [go_sem, reduceIte, reduceCtorEq, Nat.reduceEqDiff, Nat.reduceAdd, Nat.reduceMul, Nat.reduceSub, Nat.reduceLeDiff, Nat.reduceLT, Nat.reduceBEq, Int.reduceToNat, Int.reduceEq, Int.reduceLT, Int.reduceLE, Int.reduceAdd, Int.reduceSub, Int.reduceMul, Int.reduceNeg, h, r_cell_near]) <;> simp_all [nearC]
theorem r_ref03_Turn (m : Mem) (d : Int) : RF tb f_ref03_Turn [.int .i64 d] m = some (.tup [.int .i64 (turnX d), .int .i64 (turnY d), .bool (isDir d)], m) := by
  rw [RF_go t_ref03_Turn _ _ rfl]
  simp (maxDischargeDepth := 8) only [go_sem, reduceIte, reduceCtorEq, Nat.reduceEqDiff, Nat.reduceAdd, Nat.reduceMul, Nat.reduceSub, Nat.reduceLeDiff, Nat.reduceLT, Nat.reduceBEq, Int.reduceToNat, Int.reduceEq, Int.reduceLT, Int.reduceLE, Int.reduceAdd, Int.reduceSub, Int.reduceMul, Int.reduceNeg, s_ref03_Turn]
  repeat' ((first | rw [KG_bool] | rw [KC_bool]); split <;> rename_i h <;> (try simp only [Bool.not_eq_true, Bool.not_not, Bool.not_eq_eq_eq_not, Bool.not_true, Bool.not_false] at h) <;> simp (maxDischargeDepth := 8) only [go_sem, reduceIte, reduceCtorEq, Nat.reduceEqDiff, Nat.reduceAdd, Nat.reduceMul, Nat.reduceSub, Nat.reduceLeDiff, Nat.reduceLT, Nat.reduceBEq, Int.reduceToNat, Int.reduceEq, Int.reduceLT, Int.reduceLE, Int.reduceAdd, Int.reduceSub, Int.reduceMul, Int.reduceNeg, h])
  all_goals simp_all [turnX, turnY, isDir]
  all_goals omega
theorem r_cell_turn (m : Mem) (hm : m.Wf) (d : Int) : RF tb f_cell_turn [.int .i64 d] m = some (.agg [.int .i64 (turnX d), .int .i64 (turnY d)], m) := by
  rw [RF_go t_cell_turn _ _ rfl]
  simp (maxDischargeDepth := 8) only [go_sem, reduceIte, reduceCtorEq, Nat.reduceEqDiff, Nat.reduceAdd, Nat.reduceMul, Nat.reduceSub, Nat.reduceLeDiff, Nat.reduceLT, Nat.reduceBEq, Int.reduceToNat, Int.reduceEq, Int.reduceLT, Int.reduceLE, Int.reduceAdd, Int.reduceSub, Int.reduceMul, Int.reduceNeg, s_cell_turn, hm]
  repeat' ((first | rw [KG_bool] | rw [KC_bool]); split <;> rename_i h <;> (try simp only [Bool.not_eq_true, Bool.not_not, Bool.not_eq_eq_eq_not, Bool.not_true, Bool.not_false] at h) <;> simp (maxDischargeDepth := 8) only [go_sem, reduceIte, reduceCtorEq, Nat.reduceEqDiff, Nat.reduceAdd, Nat.reduceMul, Nat.reduceSub, Nat.reduceLeDiff, Nat.reduceLT, Nat.reduceBEq, Int.reduceToNat, Int.reduceEq, Int.reduceLT, Int.reduceLE, Int.reduceAdd, Int.reduceSub, Int.reduceMul, Int.reduceNeg, h, hm])
  all_goals simp_all [turnX, turnY]
theorem r_cell_plus (m : Mem) (hm : m.Wf) (a b c d : Int) : RF tb f_cell_plus [.agg [.int .i64 a, .int .i64 b], .agg [.int .i64 c, .int .i64 d]] m = some (.agg [.int .i64 (IntKind.wrap .i64 (a + c)), .int .i64 (IntKind.wrap .i64 (b + d))], m) := by
  rw [RF_go t_cell_plus _ _ rfl]
  simp (maxDischargeDepth := 8) only [go_sem, reduceIte, reduceCtorEq, Nat.reduceEqDiff, Nat.reduceAdd, Nat.reduceMul, Nat.reduceSub, Nat.reduceLeDiff, Nat.reduceLT, Nat.reduceBEq, Int.reduceToNat, Int.reduceEq, Int.reduceLT, Int.reduceLE, Int.reduceAdd, Int.reduceSub, Int.reduceMul, Int.reduceNeg, s_cell_plus, hm]
def stepOk (x y d : Int) : Bool := isDir d && nearC x y && nearC (x + turnX d) (y + turnY d)
def stepX (x y d : Int) : Int := if stepOk x y d then x + turnX d else 0
def stepY (x y d : Int) : Int := if stepOk x y d then y + turnY d else 0
theorem turn_lo (d : Int) : -1 ≤ turnX d ∧ turnX d ≤ 1 ∧ -1 ≤ turnY d ∧ turnY d ≤ 1 := by
  unfold turnX turnY; refine ⟨?_, ?_, ?_, ?_⟩ <;> repeat' split <;> omega
theorem wrap_small {x : Int} (h1 : -9223372036854775808 ≤ x) (h2 : x ≤ 9223372036854775807) : IntKind.wrap .i64 x = x := by
  simp only [IntKind.wrap, IntKind.bits, IntKind.signed]
  simp
  omega
theorem near_in {x : Int} (h : nearP x = true) : -1048576 ≤ x ∧ x ≤ 1048576 := by simpa [nearP] using h
theorem nearC_in {x y : Int} (h : nearC x y = true) : (-1048576 ≤ x ∧ x ≤ 1048576) ∧ (-1048576 ≤ y ∧ y ≤ 1048576) := by
  simp only [nearC, Bool.and_eq_true] at h; exact ⟨near_in h.1, near_in h.2⟩
theorem wrapX {x y d : Int} (h : nearC x y = true) : IntKind.wrap .i64 (x + turnX d) = x + turnX d := by
  have := nearC_in h; have := turn_lo d; exact wrap_small (by omega) (by omega)
theorem wrapY {x y d : Int} (h : nearC x y = true) : IntKind.wrap .i64 (y + turnY d) = y + turnY d := by
  have := nearC_in h; have := turn_lo d; exact wrap_small (by omega) (by omega)
theorem r_ref03_Step (m : Mem) (hm : m.Wf) (x y d : Int) : RF tb f_ref03_Step [.agg [.int .i64 x, .int .i64 y], .int .i64 d] m = some (.tup [.agg [.int .i64 (stepX x y d), .int .i64 (stepY x y d)], .bool (stepOk x y d)], m) := by
  rw [RF_go t_ref03_Step _ _ rfl]
  simp (maxDischargeDepth := 8) only [go_sem, reduceIte, reduceCtorEq, Nat.reduceEqDiff, Nat.reduceAdd, Nat.reduceMul, Nat.reduceSub, Nat.reduceLeDiff, Nat.reduceLT, Nat.reduceBEq, Int.reduceToNat, Int.reduceEq, Int.reduceLT, Int.reduceLE, Int.reduceAdd, Int.reduceSub, Int.reduceMul, Int.reduceNeg, s_ref03_Step, hm, r_ref03_Turn, r_ref03_Near]
  repeat' ((first | rw [KG_bool] | rw [KC_bool]); split <;> rename_i h <;> (try simp only [Bool.not_eq_true, Bool.not_not, Bool.not_eq_eq_eq_not, Bool.not_true, Bool.not_false] at h) <;> simp (maxDischargeDepth := 8) only [go_sem, reduceIte, reduceCtorEq, Nat.reduceEqDiff, Nat.reduceAdd, Nat.reduceMul, Nat.reduceSub, Nat.reduceLeDiff, Nat.reduceLT, Nat.reduceBEq, Int.reduceToNat, Int.reduceEq, Int.reduceLT, Int.reduceLE, Int.reduceAdd, Int.reduceSub, Int.reduceMul, Int.reduceNeg, h, hm, r_ref03_Turn, r_ref03_Near])
  all_goals (try simp only [Bool.not_eq_false] at *)
  all_goals simp_all [stepX, stepY, stepOk, @wrapX x y d, @wrapY x y d]
theorem isDir_turn (d : Int) : isDir d = false ↔ (turnX d = 0 ∧ turnY d = 0) := by
  unfold isDir turnX turnY
  simp only [Bool.and_eq_false_iff, decide_eq_false_iff_not]
  constructor
  · intro h; constructor <;> repeat' split <;> omega
  · intro h; repeat' split at h <;> omega
theorem isDir_z (d : Int) : (turnX d == 0 && turnY d == 0) = !isDir d := by
  cases h : isDir d with
  | false => simp [(isDir_turn d).1 h]
  | true =>
    have : ¬ (turnX d = 0 ∧ turnY d = 0) := fun h' => by rw [(isDir_turn d).2 h'] at h; cases h
    simpa using this
theorem r_cell_Step (m : Mem) (hm : m.Wf) (x y d : Int) : RF tb f_cell_Step [.agg [.int .i64 x, .int .i64 y], .int .i64 d] m = some (.tup [.agg [.int .i64 (stepX x y d), .int .i64 (stepY x y d)], .bool (stepOk x y d)], m) := by
  rw [RF_go t_cell_Step _ _ rfl]
  simp (maxDischargeDepth := 8) only [go_sem, reduceIte, reduceCtorEq, Nat.reduceEqDiff, Nat.reduceAdd, Nat.reduceMul, Nat.reduceSub, Nat.reduceLeDiff, Nat.reduceLT, Nat.reduceBEq, Int.reduceToNat, Int.reduceEq, Int.reduceLT, Int.reduceLE, Int.reduceAdd, Int.reduceSub, Int.reduceMul, Int.reduceNeg, s_cell_Step, hm, r_cell_turn, r_cell_plus, r_cell_Near]
  repeat' ((first | rw [KG_bool] | rw [KC_bool]); split <;> rename_i h <;> (try simp only [Bool.not_eq_true, Bool.not_not, Bool.not_eq_eq_eq_not, Bool.not_true, Bool.not_false] at h) <;> simp (maxDischargeDepth := 8) only [go_sem, reduceIte, reduceCtorEq, Nat.reduceEqDiff, Nat.reduceAdd, Nat.reduceMul, Nat.reduceSub, Nat.reduceLeDiff, Nat.reduceLT, Nat.reduceBEq, Int.reduceToNat, Int.reduceEq, Int.reduceLT, Int.reduceLE, Int.reduceAdd, Int.reduceSub, Int.reduceMul, Int.reduceNeg, h, hm, r_cell_turn, r_cell_plus, r_cell_Near])
  all_goals simp only [isDir_z] at *
  all_goals (try simp only [Bool.not_eq_false, Bool.not_eq_true] at *)
  all_goals simp_all [stepX, stepY, stepOk, @wrapX x y d, @wrapY x y d]
def costP (d : Int) : Int := if isDir d then if d < 4 then 10 else 14 else 0
def backP (d : Int) : Int := if isDir d then if d = 0 then 2 else if d = 1 then 3 else if d = 2 then 0 else if d = 3 then 1 else if d = 4 then 6 else if d = 5 then 7 else if d = 6 then 4 else 5 else -1
theorem dirs {d : Int} (h1 : decide (d < 0) = false) (h2 : decide (d ≥ 8) = false) : d = 0 ∨ d = 1 ∨ d = 2 ∨ d = 3 ∨ d = 4 ∨ d = 5 ∨ d = 6 ∨ d = 7 := by
  simp at h1 h2; omega
def sideOk (x y d : Int) : Bool := stepOk x y d && decide (4 ≤ d)
theorem step_in {x y d : Int} (h : stepOk x y d = true) : isDir d = true ∧ nearC x y = true ∧ nearC (x + turnX d) (y + turnY d) = true := by
  simp only [stepOk, Bool.and_eq_true] at h; exact ⟨h.1.1, h.1.2, h.2⟩
theorem wrap0 {x y : Int} (h : nearC x y = true) : IntKind.wrap .i64 (x + 0) = x ∧ IntKind.wrap .i64 (y + 0) = y ∧ IntKind.wrap .i64 x = x ∧ IntKind.wrap .i64 y = y := by
  have := nearC_in h
  refine ⟨?_, ?_, wrap_small (by omega) (by omega), wrap_small (by omega) (by omega)⟩ <;> rw [Int.add_zero] <;> exact wrap_small (by omega) (by omega)
abbrev sideV (x y d : Int) : SV := .tup [.agg [.int .i64 (if sideOk x y d then x + turnX d else 0), .int .i64 (if sideOk x y d then y else 0)], .agg [.int .i64 (if sideOk x y d then x else 0), .int .i64 (if sideOk x y d then y + turnY d else 0)], .bool (sideOk x y d)]
theorem sideY {x y d : Int} (h1 : stepOk x y d = true) (h2 : decide (d < 4) = false) : sideOk x y d = true := by simp_all [sideOk]
theorem sideN {x y d : Int} (h2 : decide (d < 4) = true) : sideOk x y d = false := by simp_all [sideOk]
theorem sideN' {x y d : Int} (h2 : stepOk x y d = false) : sideOk x y d = false := by simp_all [sideOk]
def goes (x y a b d : Int) : Bool := stepOk x y d && (decide (x + turnX d = a) && decide (y + turnY d = b))
def dirR (x y a b : Int) : Nat → Int
  | 0 => -1
  | n + 1 => if goes x y a b (8 - (n + 1 : Nat)) then 8 - (n + 1 : Nat) else dirR x y a b n
theorem goes_eq (x y a b d : Int) : goes x y a b d = (stepOk x y d && (stepX x y d == a && stepY x y d == b)) := by
  unfold goes stepX stepY
  cases stepOk x y d <;> simp [show ∀ a b : Int, (a == b) = decide (a = b) from fun a b => rfl]
theorem r_cell_Dir (m : Mem) (hm : m.Wf) (x y a b : Int) : RF tb f_cell_Dir [.agg [.int .i64 x, .int .i64 y], .agg [.int .i64 a, .int .i64 b]] m = some (.int .i64 (dirR x y a b 8), m) := by
  rw [RF_go t_cell_Dir _ _ rfl]
  simp (maxDischargeDepth := 8) only [go_sem, reduceIte, reduceCtorEq, Nat.reduceEqDiff, Nat.reduceAdd, Nat.reduceMul, Nat.reduceSub, Nat.reduceLeDiff, Nat.reduceLT, Nat.reduceBEq, Int.reduceToNat, Int.reduceEq, Int.reduceLT, Int.reduceLE, Int.reduceAdd, Int.reduceSub, Int.reduceMul, Int.reduceNeg, s_cell_Dir, hm, r_cell_Step]
  rw [KL_keep _ _ _ (by simp (maxDischargeDepth := 8) only [go_sem, reduceIte, reduceCtorEq, Nat.reduceEqDiff, Nat.reduceAdd, Nat.reduceMul, Nat.reduceSub, Nat.reduceLeDiff, Nat.reduceLT, Nat.reduceBEq, Int.reduceToNat, Int.reduceEq, Int.reduceLT, Int.reduceLE, Int.reduceAdd, Int.reduceSub, Int.reduceMul, Int.reduceNeg])]
  simp (maxDischargeDepth := 8) only [go_sem, reduceIte, reduceCtorEq, Nat.reduceEqDiff, Nat.reduceAdd, Nat.reduceMul, Nat.reduceSub, Nat.reduceLeDiff, Nat.reduceLT, Nat.reduceBEq, Int.reduceToNat, Int.reduceEq, Int.reduceLT, Int.reduceLE, Int.reduceAdd, Int.reduceSub, Int.reduceMul, Int.reduceNeg]
  refine KL_down 8 (fun i => [(2, .ptr (.st m.dep 0) 0), (3, .ptr (.st m.dep 1) 0), (8, .int .i64 i)]) (fun _ => m.fr [.cells true [.int .i64 x, .int .i64 y], .cells true [.int .i64 a, .int .i64 b]] none) (fun i => some (.int .i64 (dirR x y a b (8 - i)), m)) ?_ ?_
  · simp (maxDischargeDepth := 8) only [go_sem, reduceIte, reduceCtorEq, Nat.reduceEqDiff, Nat.reduceAdd, Nat.reduceMul, Nat.reduceSub, Nat.reduceLeDiff, Nat.reduceLT, Nat.reduceBEq, Int.reduceToNat, Int.reduceEq, Int.reduceLT, Int.reduceLE, Int.reduceAdd, Int.reduceSub, Int.reduceMul, Int.reduceNeg]
    rfl
  · intro i hi ih
    have h8 : decide ((i : Int) < 8) = true := by simp; omega
    have hw : IntKind.wrap .i64 ((i : Int) + 1) = ((i + 1 : Nat) : Int) := by rw [wrap_small (by omega) (by omega)]; rfl
    have e8 : 8 - i = (8 - (i + 1)) + 1 := by omega
    have ed : (8 : Int) - ((8 - (i + 1) + 1 : Nat) : Int) = i := by omega
    simp (maxDischargeDepth := 8) only [go_sem, reduceIte, reduceCtorEq, Nat.reduceEqDiff, Nat.reduceAdd, Nat.reduceMul, Nat.reduceSub, Nat.reduceLeDiff, Nat.reduceLT, Nat.reduceBEq, Int.reduceToNat, Int.reduceEq, Int.reduceLT, Int.reduceLE, Int.reduceAdd, Int.reduceSub, Int.reduceMul, Int.reduceNeg, hm, r_cell_Step, h8]
    repeat' ((first | rw [KG_bool] | rw [KC_bool]); split <;> rename_i h <;> (try simp only [Bool.not_eq_true, Bool.not_not, Bool.not_eq_eq_eq_not, Bool.not_true, Bool.not_false] at h) <;> simp (maxDischargeDepth := 8) only [go_sem, reduceIte, reduceCtorEq, Nat.reduceEqDiff, Nat.reduceAdd, Nat.reduceMul, Nat.reduceSub, Nat.reduceLeDiff, Nat.reduceLT, Nat.reduceBEq, Int.reduceToNat, Int.reduceEq, Int.reduceLT, Int.reduceLE, Int.reduceAdd, Int.reduceSub, Int.reduceMul, Int.reduceNeg, h, hm, r_cell_Step, hw])
    · rw [e8, dirR, ed, if_pos (by rw [goes_eq]; simp_all)]
    · rw [KL_keep _ _ _ (by simp (maxDischargeDepth := 8) only [go_sem, reduceIte, reduceCtorEq, Nat.reduceEqDiff, Nat.reduceAdd, Nat.reduceMul, Nat.reduceSub, Nat.reduceLeDiff, Nat.reduceLT, Nat.reduceBEq, Int.reduceToNat, Int.reduceEq, Int.reduceLT, Int.reduceLE, Int.reduceAdd, Int.reduceSub, Int.reduceMul, Int.reduceNeg])]
      simp (maxDischargeDepth := 8) only [go_sem, reduceIte, reduceCtorEq, Nat.reduceEqDiff, Nat.reduceAdd, Nat.reduceMul, Nat.reduceSub, Nat.reduceLeDiff, Nat.reduceLT, Nat.reduceBEq, Int.reduceToNat, Int.reduceEq, Int.reduceLT, Int.reduceLE, Int.reduceAdd, Int.reduceSub, Int.reduceMul, Int.reduceNeg]
      rw [ih, e8, dirR, ed, if_neg (by rw [goes_eq]; simp_all)]
    · rw [KL_keep _ _ _ (by simp (maxDischargeDepth := 8) only [go_sem, reduceIte, reduceCtorEq, Nat.reduceEqDiff, Nat.reduceAdd, Nat.reduceMul, Nat.reduceSub, Nat.reduceLeDiff, Nat.reduceLT, Nat.reduceBEq, Int.reduceToNat, Int.reduceEq, Int.reduceLT, Int.reduceLE, Int.reduceAdd, Int.reduceSub, Int.reduceMul, Int.reduceNeg])]
      simp (maxDischargeDepth := 8) only [go_sem, reduceIte, reduceCtorEq, Nat.reduceEqDiff, Nat.reduceAdd, Nat.reduceMul, Nat.reduceSub, Nat.reduceLeDiff, Nat.reduceLT, Nat.reduceBEq, Int.reduceToNat, Int.reduceEq, Int.reduceLT, Int.reduceLE, Int.reduceAdd, Int.reduceSub, Int.reduceMul, Int.reduceNeg]
      rw [ih, e8, dirR, ed, if_neg (by rw [goes_eq]; simp_all)]
theorem r_ref03_Dir (m : Mem) (hm : m.Wf) (x y a b : Int) : RF tb f_ref03_Dir [.agg [.int .i64 x, .int .i64 y], .agg [.int .i64 a, .int .i64 b]] m = some (.int .i64 (dirR x y a b 8), m) := by
  rw [RF_go t_ref03_Dir _ _ rfl]
  simp (maxDischargeDepth := 8) only [go_sem, reduceIte, reduceCtorEq, Nat.reduceEqDiff, Nat.reduceAdd, Nat.reduceMul, Nat.reduceSub, Nat.reduceLeDiff, Nat.reduceLT, Nat.reduceBEq, Int.reduceToNat, Int.reduceEq, Int.reduceLT, Int.reduceLE, Int.reduceAdd, Int.reduceSub, Int.reduceMul, Int.reduceNeg, s_ref03_Dir, hm, r_ref03_Step]
  rw [KL_keep _ _ _ (by simp (maxDischargeDepth := 8) only [go_sem, reduceIte, reduceCtorEq, Nat.reduceEqDiff, Nat.reduceAdd, Nat.reduceMul, Nat.reduceSub, Nat.reduceLeDiff, Nat.reduceLT, Nat.reduceBEq, Int.reduceToNat, Int.reduceEq, Int.reduceLT, Int.reduceLE, Int.reduceAdd, Int.reduceSub, Int.reduceMul, Int.reduceNeg])]
  simp (maxDischargeDepth := 8) only [go_sem, reduceIte, reduceCtorEq, Nat.reduceEqDiff, Nat.reduceAdd, Nat.reduceMul, Nat.reduceSub, Nat.reduceLeDiff, Nat.reduceLT, Nat.reduceBEq, Int.reduceToNat, Int.reduceEq, Int.reduceLT, Int.reduceLE, Int.reduceAdd, Int.reduceSub, Int.reduceMul, Int.reduceNeg]
  refine KL_down 8 (fun i => [(2, .ptr (.st m.dep 0) 0), (3, .ptr (.st m.dep 1) 0), (5, .int .i64 i)]) (fun _ => m.fr [.cells true [.int .i64 x, .int .i64 y], .cells true [.int .i64 a, .int .i64 b]] none) (fun i => some (.int .i64 (dirR x y a b (8 - i)), m)) ?_ ?_
  · simp (maxDischargeDepth := 8) only [go_sem, reduceIte, reduceCtorEq, Nat.reduceEqDiff, Nat.reduceAdd, Nat.reduceMul, Nat.reduceSub, Nat.reduceLeDiff, Nat.reduceLT, Nat.reduceBEq, Int.reduceToNat, Int.reduceEq, Int.reduceLT, Int.reduceLE, Int.reduceAdd, Int.reduceSub, Int.reduceMul, Int.reduceNeg]
    rfl
  · intro i hi ih
    have h8 : decide ((i : Int) < 8) = true := by simp; omega
    have hw : IntKind.wrap .i64 ((i : Int) + 1) = ((i + 1 : Nat) : Int) := by rw [wrap_small (by omega) (by omega)]; rfl
    have e8 : 8 - i = (8 - (i + 1)) + 1 := by omega
    have ed : (8 : Int) - ((8 - (i + 1) + 1 : Nat) : Int) = i := by omega
    simp (maxDischargeDepth := 8) only [go_sem, reduceIte, reduceCtorEq, Nat.reduceEqDiff, Nat.reduceAdd, Nat.reduceMul, Nat.reduceSub, Nat.reduceLeDiff, Nat.reduceLT, Nat.reduceBEq, Int.reduceToNat, Int.reduceEq, Int.reduceLT, Int.reduceLE, Int.reduceAdd, Int.reduceSub, Int.reduceMul, Int.reduceNeg, hm, r_ref03_Step, h8]
    repeat' ((first | rw [KG_bool] | rw [KC_bool]); split <;> rename_i h <;> (try simp only [Bool.not_eq_true, Bool.not_not, Bool.not_eq_eq_eq_not, Bool.not_true, Bool.not_false] at h) <;> simp (maxDischargeDepth := 8) only [go_sem, reduceIte, reduceCtorEq, Nat.reduceEqDiff, Nat.reduceAdd, Nat.reduceMul, Nat.reduceSub, Nat.reduceLeDiff, Nat.reduceLT, Nat.reduceBEq, Int.reduceToNat, Int.reduceEq, Int.reduceLT, Int.reduceLE, Int.reduceAdd, Int.reduceSub, Int.reduceMul, Int.reduceNeg, h, hm, r_ref03_Step, hw])
    · rw [e8, dirR, ed, if_pos (by rw [goes_eq]; simp_all)]
    · rw [KL_keep _ _ _ (by simp (maxDischargeDepth := 8) only [go_sem, reduceIte, reduceCtorEq, Nat.reduceEqDiff, Nat.reduceAdd, Nat.reduceMul, Nat.reduceSub, Nat.reduceLeDiff, Nat.reduceLT, Nat.reduceBEq, Int.reduceToNat, Int.reduceEq, Int.reduceLT, Int.reduceLE, Int.reduceAdd, Int.reduceSub, Int.reduceMul, Int.reduceNeg])]
      simp (maxDischargeDepth := 8) only [go_sem, reduceIte, reduceCtorEq, Nat.reduceEqDiff, Nat.reduceAdd, Nat.reduceMul, Nat.reduceSub, Nat.reduceLeDiff, Nat.reduceLT, Nat.reduceBEq, Int.reduceToNat, Int.reduceEq, Int.reduceLT, Int.reduceLE, Int.reduceAdd, Int.reduceSub, Int.reduceMul, Int.reduceNeg]
      rw [ih, e8, dirR, ed, if_neg (by rw [goes_eq]; simp_all)]
    · rw [KL_keep _ _ _ (by simp (maxDischargeDepth := 8) only [go_sem, reduceIte, reduceCtorEq, Nat.reduceEqDiff, Nat.reduceAdd, Nat.reduceMul, Nat.reduceSub, Nat.reduceLeDiff, Nat.reduceLT, Nat.reduceBEq, Int.reduceToNat, Int.reduceEq, Int.reduceLT, Int.reduceLE, Int.reduceAdd, Int.reduceSub, Int.reduceMul, Int.reduceNeg])]
      simp (maxDischargeDepth := 8) only [go_sem, reduceIte, reduceCtorEq, Nat.reduceEqDiff, Nat.reduceAdd, Nat.reduceMul, Nat.reduceSub, Nat.reduceLeDiff, Nat.reduceLT, Nat.reduceBEq, Int.reduceToNat, Int.reduceEq, Int.reduceLT, Int.reduceLE, Int.reduceAdd, Int.reduceSub, Int.reduceMul, Int.reduceNeg]
      rw [ih, e8, dirR, ed, if_neg (by rw [goes_eq]; simp_all)]
def lastX (x w : Int) : Int := IntKind.wrap .i64 (IntKind.wrap .i64 (x + w) - 1)
abbrev rect (x y w h : Int) : SV := .agg [.int .i64 x, .int .i64 y, .int .i64 w, .int .i64 h]
theorem r_cell_last (m : Mem) (hm : m.Wf) (x y w h : Int) : RF tb f_cell_last [rect x y w h] m = some (.agg [.int .i64 (lastX x w), .int .i64 (lastX y h)], m) := by
  rw [RF_go t_cell_last _ _ rfl]
  simp (maxDischargeDepth := 8) only [go_sem, reduceIte, reduceCtorEq, Nat.reduceEqDiff, Nat.reduceAdd, Nat.reduceMul, Nat.reduceSub, Nat.reduceLeDiff, Nat.reduceLT, Nat.reduceBEq, Int.reduceToNat, Int.reduceEq, Int.reduceLT, Int.reduceLE, Int.reduceAdd, Int.reduceSub, Int.reduceMul, Int.reduceNeg, s_cell_last, hm, rect]
  rfl
def sideB (n : Int) : Bool := decide (1 ≤ n) && decide (n ≤ 1048576)
theorem r_cell_side (m : Mem) (n : Int) : RF tb f_cell_side [.int .i64 n] m = some (.bool (sideB n), m) := by
  rw [RF_go t_cell_side _ _ rfl]
  simp (maxDischargeDepth := 8) only [go_sem, reduceIte, reduceCtorEq, Nat.reduceEqDiff, Nat.reduceAdd, Nat.reduceMul, Nat.reduceSub, Nat.reduceLeDiff, Nat.reduceLT, Nat.reduceBEq, Int.reduceToNat, Int.reduceEq, Int.reduceLT, Int.reduceLE, Int.reduceAdd, Int.reduceSub, Int.reduceMul, Int.reduceNeg, s_cell_side]
  ((first | rw [KG_bool] | rw [KC_bool]); split <;> rename_i h <;> (try simp only [Bool.not_eq_true, Bool.not_not, Bool.not_eq_eq_eq_not, Bool.not_true, Bool.not_false] at h) <;> simp (maxDischargeDepth := 8) only [go_sem, reduceIte, reduceCtorEq, Nat.reduceEqDiff, Nat.reduceAdd, Nat.reduceMul, Nat.reduceSub, Nat.reduceLeDiff, Nat.reduceLT, Nat.reduceBEq, Int.reduceToNat, Int.reduceEq, Int.reduceLT, Int.reduceLE, Int.reduceAdd, Int.reduceSub, Int.reduceMul, Int.reduceNeg, h]) <;> simp_all [sideB] <;> omega
def mayB (x y w h : Int) : Bool := nearC x y && sideB w && sideB h && nearC (lastX x w) (lastX y h)
theorem r_cell_May (m : Mem) (hm : m.Wf) (x y w h : Int) : RF tb f_cell_May [rect x y w h] m = some (.bool (mayB x y w h), m) := by
  rw [RF_go t_cell_May _ _ rfl]
  simp (maxDischargeDepth := 8) only [go_sem, reduceIte, reduceCtorEq, Nat.reduceEqDiff, Nat.reduceAdd, Nat.reduceMul, Nat.reduceSub, Nat.reduceLeDiff, Nat.reduceLT, Nat.reduceBEq, Int.reduceToNat, Int.reduceEq, Int.reduceLT, Int.reduceLE, Int.reduceAdd, Int.reduceSub, Int.reduceMul, Int.reduceNeg, s_cell_May, hm, rect, r_cell_Near, r_cell_last, r_cell_side]
  repeat' ((first | rw [KG_bool] | rw [KC_bool]); split <;> rename_i h <;> (try simp only [Bool.not_eq_true, Bool.not_not, Bool.not_eq_eq_eq_not, Bool.not_true, Bool.not_false] at h) <;> simp (maxDischargeDepth := 8) only [go_sem, reduceIte, reduceCtorEq, Nat.reduceEqDiff, Nat.reduceAdd, Nat.reduceMul, Nat.reduceSub, Nat.reduceLeDiff, Nat.reduceLT, Nat.reduceBEq, Int.reduceToNat, Int.reduceEq, Int.reduceLT, Int.reduceLE, Int.reduceAdd, Int.reduceSub, Int.reduceMul, Int.reduceNeg, h, hm, r_cell_Near, r_cell_last, r_cell_side])
  all_goals simp_all [mayB]
def hasB (x y w h a b : Int) : Bool := mayB x y w h && (decide (x ≤ a) && decide (y ≤ b) && decide (a ≤ lastX x w) && decide (b ≤ lastX y h))
theorem r_cell_Has (m : Mem) (hm : m.Wf) (x y w h a b : Int) : RF tb f_cell_Has [rect x y w h, .agg [.int .i64 a, .int .i64 b]] m = some (.bool (hasB x y w h a b), m) := by
  rw [RF_go t_cell_Has _ _ rfl]
  simp (maxDischargeDepth := 8) only [go_sem, reduceIte, reduceCtorEq, Nat.reduceEqDiff, Nat.reduceAdd, Nat.reduceMul, Nat.reduceSub, Nat.reduceLeDiff, Nat.reduceLT, Nat.reduceBEq, Int.reduceToNat, Int.reduceEq, Int.reduceLT, Int.reduceLE, Int.reduceAdd, Int.reduceSub, Int.reduceMul, Int.reduceNeg, s_cell_Has, hm, rect, r_cell_May, r_cell_last]
  repeat' ((first | rw [KG_bool] | rw [KC_bool]); split <;> rename_i h <;> (try simp only [Bool.not_eq_true, Bool.not_not, Bool.not_eq_eq_eq_not, Bool.not_true, Bool.not_false] at h) <;> simp (maxDischargeDepth := 8) only [go_sem, reduceIte, reduceCtorEq, Nat.reduceEqDiff, Nat.reduceAdd, Nat.reduceMul, Nat.reduceSub, Nat.reduceLeDiff, Nat.reduceLT, Nat.reduceBEq, Int.reduceToNat, Int.reduceEq, Int.reduceLT, Int.reduceLE, Int.reduceAdd, Int.reduceSub, Int.reduceMul, Int.reduceNeg, h, hm, r_cell_May, r_cell_last])
  all_goals simp_all [hasB]
  all_goals omega
def withinB (x y w h a b c d : Int) : Bool := mayB x y w h && hasB a b c d x y && hasB a b c d (lastX x w) (lastX y h)
def wl (p x : Int) : Int := IntKind.wrap .i64 (IntKind.wrap .i64 (p - x) + 1)
def meetB (x y w h a b c d : Int) : Bool := mayB x y w h && mayB a b c d && (decide (mxI x a ≤ mnI (lastX x w) (lastX a c)) && decide (mxI y b ≤ mnI (lastX y h) (lastX b d)))
def iB (b : Bool) (n : Int) : Int := if b then n else 0
theorem iB_t (n : Int) : iB true n = n := rfl
theorem iB_f (n : Int) : iB false n = 0 := rfl
abbrev meetV (x y w h a b c d : Int) : SV := rect (iB (meetB x y w h a b c d) (mxI x a)) (iB (meetB x y w h a b c d) (mxI y b)) (iB (meetB x y w h a b c d) (wl (mnI (lastX x w) (lastX a c)) (mxI x a))) (iB (meetB x y w h a b c d) (wl (mnI (lastX y h) (lastX b d)) (mxI y b)))
theorem wl1 {p x : Int} (h1 : -3000000 ≤ p ∧ p ≤ 3000000) (h2 : -3000000 ≤ x ∧ x ≤ 3000000) : wl p x = p - x + 1 := by
  unfold wl
  rw [wrap_small (x := p - x) (by omega) (by omega), wrap_small (by omega) (by omega)]
theorem may_in {x y w hh : Int} (h : mayB x y w hh = true) : (-1048576 ≤ x ∧ x ≤ 1048576) ∧ (-1048576 ≤ y ∧ y ≤ 1048576) ∧ (-1048576 ≤ lastX x w ∧ lastX x w ≤ 1048576) ∧ (-1048576 ≤ lastX y hh ∧ lastX y hh ≤ 1048576) := by
  simp only [mayB, Bool.and_eq_true] at h
  have h1 := nearC_in h.1.1.1
  have h2 := nearC_in h.2
  exact ⟨h1.1, h1.2, h2.1, h2.2⟩
theorem mx_in {a b : Int} (ha : -1048576 ≤ a ∧ a ≤ 1048576) (hb : -1048576 ≤ b ∧ b ≤ 1048576) : -3000000 ≤ mxI a b ∧ mxI a b ≤ 3000000 := by unfold mxI; split <;> omega
theorem mn_in {a b : Int} (ha : -1048576 ≤ a ∧ a ≤ 1048576) (hb : -1048576 ≤ b ∧ b ≤ 1048576) : -3000000 ≤ mnI a b ∧ mnI a b ≤ 3000000 := by unfold mnI; split <;> omega
theorem wl2 {p x : Int} (h1 : -3000000 ≤ p ∧ p ≤ 3000000) (h2 : -3000000 ≤ x ∧ x ≤ 3000000) : IntKind.wrap .i64 (IntKind.wrap .i64 (p - x) + 1) = p - x + 1 := wl1 h1 h2
theorem meet_no {x y w hh a b c d : Int} (h : meetB x y w hh a b c d = false) : meetV x y w hh a b c d = rect 0 0 0 0 := by simp [meetV, h, iB]
theorem meet_yes {x y w hh a b c d : Int} (h : meetB x y w hh a b c d = true) : meetV x y w hh a b c d = rect (mxI x a) (mxI y b) (wl (mnI (lastX x w) (lastX a c)) (mxI x a)) (wl (mnI (lastX y hh) (lastX b d)) (mxI y b)) := by simp [meetV, h, iB]
theorem meet_lt {x y w hh a b c d : Int} (h1 : mayB x y w hh = true) (h2 : mayB a b c d = true) : meetB x y w hh a b c d = (!decide (wl (mnI (lastX x w) (lastX a c)) (mxI x a) < 1) && !decide (wl (mnI (lastX y hh) (lastX b d)) (mxI y b) < 1)) := by
  obtain ⟨a1, a2, a3, a4⟩ := may_in h1
  obtain ⟨b1, b2, b3, b4⟩ := may_in h2
  rw [wl1 (mn_in a3 b3) (mx_in a1 b1), wl1 (mn_in a4 b4) (mx_in a2 b2)]
  simp only [meetB, h1, h2, Bool.true_and]
  rw [Bool.eq_iff_iff]
  simp
  omega
theorem mxI_lt {x a : Int} (h : x < a) : mxI x a = a := by simp [mxI, h]
theorem mxI_ge {x a : Int} (h : a ≤ x) : mxI x a = x := by unfold mxI; split <;> omega
theorem mnI_lt {x a : Int} (h : a < x) : mnI x a = a := by simp [mnI, h]
theorem mnI_ge {x a : Int} (h : x ≤ a) : mnI x a = x := by unfold mnI; split <;> omega
def hullB (x y w h a b c d : Int) : Bool := mayB x y w h && mayB a b c d && mayB (mnI x a) (mnI y b) (wl (mxI (lastX x w) (lastX a c)) (mnI x a)) (wl (mxI (lastX y h) (lastX b d)) (mnI y b))
abbrev hullV (x y w h a b c d : Int) : SV := rect (iB (hullB x y w h a b c d) (mnI x a)) (iB (hullB x y w h a b c d) (mnI y b)) (iB (hullB x y w h a b c d) (wl (mxI (lastX x w) (lastX a c)) (mnI x a))) (iB (hullB x y w h a b c d) (wl (mxI (lastX y h) (lastX b d)) (mnI y b)))
end Go.Sh.T
