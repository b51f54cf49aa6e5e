import Derived.Test.YtjhiccoooaleoaaShWb
set_option linter.all false
set_option linter.unusedVariables false
set_option linter.unusedSimpArgs false
set_option autoImplicit false
namespace Go.Sh.T
open Go.Sh
set_option maxHeartbeats 4000000
set_option maxRecDepth 20000
theorem wrapu_small {x : Int} (h1 : 0 ≤ x) (h2 : x ≤ 18446744073709551615) : IntKind.wrap .u64 x = x := by
  simp only [IntKind.wrap, IntKind.bits, IntKind.signed]
  simp
  omega
theorem and32 {x : Int} (h1 : 0 ≤ x) (h2 : x < 4294967296) : ibits .and .u64 x 4294967295 = some x := by
  obtain ⟨n, rfl⟩ := Int.eq_ofNat_of_zero_le h1
  have e1 : (BitVec.ofInt (IntKind.bits .u64) (n : Int)).toNat = n := by
    simp only [IntKind.bits, BitVec.toNat_ofInt]
    omega
  have e2 : (BitVec.ofInt (IntKind.bits .u64) 4294967295).toNat = 4294967295 := by decide
  simp only [ibits]
  rw [BitVec.toNat_and, e1, e2]
  have e3 : n &&& 4294967295 = n % 4294967296 := Nat.and_two_pow_sub_one_eq_mod n 32
  rw [e3, Nat.mod_eq_of_lt (by omega)]
  exact congrArg some (wrapu_small (by omega) (by omega))
theorem shr32 {x : Int} (h1 : 0 ≤ x) (h2 : x < 4294967296) : Int.fdiv x (2 ^ min 32 64) = 0 := by
  have e : (2 ^ min 32 64 : Int) = 4294967296 := by decide
  rw [e, Int.fdiv_eq_ediv_of_nonneg _ (by omega)]
  omega
theorem r_math_bits_Mul64 (m : Mem) {x y : Int} (hx : 0 ≤ x ∧ x < 4194304) (hy : 0 ≤ y ∧ y < 1024) : RF tb f_math_bits_Mul64 [.int .u64 x, .int .u64 y] m = some (.tup [.int .u64 0, .int .u64 (x * y)], m) := by
  have h0 : 0 ≤ x * y := Int.mul_nonneg hx.1 hy.1
  have h1 : x * y ≤ 4194303 * 1023 := Int.mul_le_mul (by omega) (by omega) (by omega) (by omega)
  rw [RF_go t_math_bits_Mul64 _ _ rfl]
  have w0 : IntKind.wrap .u64 0 = 0 := rfl
  simp (maxDischargeDepth := 8) only [go_sem, reduceIte, reduceCtorEq, Nat.reduceEqDiff, Nat.reduceAdd, Nat.reduceMul, Nat.reduceSub, Nat.reduceLeDiff, Nat.reduceLT, Nat.reduceBEq, Int.reduceToNat, Int.reduceEq, Int.reduceLT, Int.reduceLE, Int.reduceAdd, Int.reduceSub, Int.reduceMul, Int.reduceNeg, s_math_bits_Mul64, and32 hx.1 (show x < 4294967296 by omega), and32 hy.1 (show y < 4294967296 by omega), shr32 hx.1 (show x < 4294967296 by omega), shr32 hy.1 (show y < 4294967296 by omega), wrapu_small h0 (by omega), shr32 h0 (show x * y < 4294967296 by omega),
    Int.zero_mul, Int.mul_zero, Int.zero_add, Int.add_zero, w0, and32 (x := 0) (by omega) (by omega), shr32 (x := 0) (by omega) (by omega)]
theorem r_fixed_amount (m : Mem) (a : Int) (h : -4611686018427387904 ≤ a ∧ a ≤ 4611686018427387904) : RF tb f_fixed_amount [.int .i64 a] m = some (.int .u64 (mxI a (-a)), m) := by
  rw [RF_go t_fixed_amount _ _ rfl]
  simp (maxDischargeDepth := 8) only [go_sem, reduceIte, reduceCtorEq, Nat.reduceEqDiff, Nat.reduceAdd, Nat.reduceMul, Nat.reduceSub, Nat.reduceLeDiff, Nat.reduceLT, Nat.reduceBEq, Int.reduceToNat, Int.reduceEq, Int.reduceLT, Int.reduceLE, Int.reduceAdd, Int.reduceSub, Int.reduceMul, Int.reduceNeg, s_fixed_amount]
  repeat' ((first | rw [KG_bool] | rw [KC_bool]); split <;> rename_i h <;> (try simp only [Bool.not_eq_true, Bool.not_not, Bool.not_eq_eq_eq_not, Bool.not_true, Bool.not_false] at h) <;> simp (maxDischargeDepth := 8) only [go_sem, reduceIte, reduceCtorEq, Nat.reduceEqDiff, Nat.reduceAdd, Nat.reduceMul, Nat.reduceSub, Nat.reduceLeDiff, Nat.reduceLT, Nat.reduceBEq, Int.reduceToNat, Int.reduceEq, Int.reduceLT, Int.reduceLE, Int.reduceAdd, Int.reduceSub, Int.reduceMul, Int.reduceNeg, h])
  all_goals simp only [decide_eq_true_eq, decide_eq_false_iff_not] at *
  all_goals simp only [mxI, IntKind.wrap, IntKind.bits, IntKind.signed]
  all_goals simp
  all_goals (repeat' split) <;> omega
theorem r_fixed_signed (m : Mem) (n : Int) (h : 0 ≤ n ∧ n < 4611686018427387904) : RF tb f_fixed_signed [.int .u64 n, .bool false] m = some (.tup [.int .i64 n, .bool true], m) := by
  rw [RF_go t_fixed_signed _ _ rfl]
  simp (maxDischargeDepth := 8) only [go_sem, reduceIte, reduceCtorEq, Nat.reduceEqDiff, Nat.reduceAdd, Nat.reduceMul, Nat.reduceSub, Nat.reduceLeDiff, Nat.reduceLT, Nat.reduceBEq, Int.reduceToNat, Int.reduceEq, Int.reduceLT, Int.reduceLE, Int.reduceAdd, Int.reduceSub, Int.reduceMul, Int.reduceNeg, s_fixed_signed, show decide (n < 9223372036854775808) = true from decide_eq_true (by omega), wrap_small (x := n) (by omega) (by omega)]
/-- The octile distance of two differences. -/
def octI (x y : Int) : Int := if x < y then 14 * x + 10 * (y - x) else 14 * y + 10 * (x - y)
theorem oct_in {x y : Int} (hx : 0 ≤ x ∧ x < 4194304) (hy : 0 ≤ y ∧ y < 4194304) : 0 ≤ octI x y ∧ octI x y ≤ 104857600 := by unfold octI; split <;> omega
theorem r_fixed_Octile (m : Mem) (a b : Int) (ha : -4194303 ≤ a ∧ a ≤ 4194303) (hb : -4194303 ≤ b ∧ b ≤ 4194303) : RF tb f_fixed_Octile [.int .i64 a, .int .i64 b] m = some (.tup [.int .i64 (octI (mxI a (-a)) (mxI b (-b))), .bool true], m) := by
  have hx : 0 ≤ mxI a (-a) ∧ mxI a (-a) < 4194304 := by unfold mxI; split <;> omega
  have hy : 0 ≤ mxI b (-b) ∧ mxI b (-b) < 4194304 := by unfold mxI; split <;> omega
  rw [RF_go t_fixed_Octile _ _ rfl]
  simp (maxDischargeDepth := 8) only [go_sem, reduceIte, reduceCtorEq, Nat.reduceEqDiff, Nat.reduceAdd, Nat.reduceMul, Nat.reduceSub, Nat.reduceLeDiff, Nat.reduceLT, Nat.reduceBEq, Int.reduceToNat, Int.reduceEq, Int.reduceLT, Int.reduceLE, Int.reduceAdd, Int.reduceSub, Int.reduceMul, Int.reduceNeg, s_fixed_Octile, fun m => r_fixed_amount m a (by omega), fun m => r_fixed_amount m b (by omega)]
  generalize mxI a (-a) = p at *
  generalize mxI b (-b) = q at *
  have key : ∀ p q : Int, 0 ≤ q → q ≤ p → p < 4194304 → (∀ m, RF tb f_math_bits_Mul64 [.int .u64 q, .int .u64 14] m = some (.tup [.int .u64 0, .int .u64 (q * 14)], m)) ∧ (∀ m, RF tb f_math_bits_Mul64 [.int .u64 (IntKind.wrap .u64 (p - q)), .int .u64 10] m = some (.tup [.int .u64 0, .int .u64 ((p - q) * 10)], m)) ∧
      add64v (.int .u64 (q * 14)) (.int .u64 ((p - q) * 10)) (.int .u64 0) = some (.tup [.int .u64 (q * 14 + (p - q) * 10), .int .u64 0]) ∧ (∀ m, RF tb f_fixed_signed [.int .u64 (q * 14 + (p - q) * 10), .bool false] m = some (.tup [.int .i64 (q * 14 + (p - q) * 10), .bool true], m)) := by
    intro p q h1 h2 h3
    refine ⟨fun m => r_math_bits_Mul64 m (by omega) (by omega), fun m => ?_, ?_, fun m => r_fixed_signed m _ (by omega)⟩
    · rw [wrapu_small (by omega) (by omega)]
      exact r_math_bits_Mul64 m (by omega) (by omega)
    · simp only [add64v]
      rw [if_pos (by omega)]
      have e1 : (q * 14 + (p - q) * 10 + 0) % 18446744073709551616 = q * 14 + (p - q) * 10 := by omega
      have e2 : (q * 14 + (p - q) * 10 + 0) / 18446744073709551616 = 0 := by omega
      rw [e1, e2]
  by_cases hlt : p < q
  · obtain ⟨k1, k2, k3, k4⟩ := key q p hx.1 (by omega) hy.2
    have e : octI p q = p * 14 + (q - p) * 10 := by unfold octI; rw [if_pos hlt]; omega
    rw [e]
    simp (maxDischargeDepth := 8) only [go_sem, reduceIte, reduceCtorEq, Nat.reduceEqDiff, Nat.reduceAdd, Nat.reduceMul, Nat.reduceSub, Nat.reduceLeDiff, Nat.reduceLT, Nat.reduceBEq, Int.reduceToNat, Int.reduceEq, Int.reduceLT, Int.reduceLE, Int.reduceAdd, Int.reduceSub, Int.reduceMul, Int.reduceNeg, decide_eq_true hlt, k1, k2, k3, k4]
  · obtain ⟨k1, k2, k3, k4⟩ := key p q hy.1 (by omega) hx.2
    have e : octI p q = q * 14 + (p - q) * 10 := by unfold octI; rw [if_neg hlt]; omega
    rw [e]
    simp (maxDischargeDepth := 8) only [go_sem, reduceIte, reduceCtorEq, Nat.reduceEqDiff, Nat.reduceAdd, Nat.reduceMul, Nat.reduceSub, Nat.reduceLeDiff, Nat.reduceLT, Nat.reduceBEq, Int.reduceToNat, Int.reduceEq, Int.reduceLT, Int.reduceLE, Int.reduceAdd, Int.reduceSub, Int.reduceMul, Int.reduceNeg, decide_eq_false hlt, k1, k2, k3, k4]
end Go.Sh.T
