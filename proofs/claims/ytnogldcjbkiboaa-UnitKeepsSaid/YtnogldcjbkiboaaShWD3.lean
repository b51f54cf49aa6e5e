import Derived.Test.YtnogldcjbkiboaaShWD2
set_option linter.all false
set_option linter.unusedVariables false
set_option linter.unusedSimpArgs false
set_option autoImplicit false
namespace Go.Sh.T
open Go.Sh
set_option maxHeartbeats 8000000
set_option maxRecDepth 20000
def shapeB (cl sz : Int) : Bool := decide (0 ≤ cl) && decide (cl < 4) && (decide (1 ≤ sz) && decide (sz ≤ 4))
theorem r_class_May (m : Mem) (hm : m.Wf) (cl sz : Int) : RF tb f_class_May [.agg [.int .i64 cl, .int .i64 sz]] m = some (.bool (shapeB cl sz), m) := by
  rw [RF_go t_class_May _ _ rfl]
  simp (maxDischargeDepth := 8) only [go_sem, reduceIte, reduceCtorEq, Nat.reduceEqDiff, Nat.reduceAdd, Nat.reduceMul, Nat.reduceSub, Nat.reduceLeDiff, Nat.reduceLT, Nat.reduceBEq, Int.reduceToNat, Int.reduceEq, Int.reduceLT, Int.reduceLE, Int.reduceAdd, Int.reduceSub, Int.reduceMul, Int.reduceNeg, s_class_May, hm]
  repeat' ((first | rw [KG_bool] | rw [KC_bool]); split <;> rename_i h <;> (try simp only [Bool.not_eq_true, Bool.not_not, Bool.not_eq_eq_eq_not, Bool.not_true, Bool.not_false] at h) <;> simp (maxDischargeDepth := 8) only [go_sem, reduceIte, reduceCtorEq, Nat.reduceEqDiff, Nat.reduceAdd, Nat.reduceMul, Nat.reduceSub, Nat.reduceLeDiff, Nat.reduceLT, Nat.reduceBEq, Int.reduceToNat, Int.reduceEq, Int.reduceLT, Int.reduceLE, Int.reduceAdd, Int.reduceSub, Int.reduceMul, Int.reduceNeg, h, hm])
  all_goals simp_all [shapeB]
  all_goals omega
theorem r_ref06_May (m : Mem) (hm : m.Wf) (cl sz : Int) : RF tb f_ref06_May [.agg [.int .i64 cl, .int .i64 sz]] m = some (.bool (shapeB cl sz), m) := by
  rw [RF_go t_ref06_May _ _ rfl]
  simp (maxDischargeDepth := 8) only [go_sem, reduceIte, reduceCtorEq, Nat.reduceEqDiff, Nat.reduceAdd, Nat.reduceMul, Nat.reduceSub, Nat.reduceLeDiff, Nat.reduceLT, Nat.reduceBEq, Int.reduceToNat, Int.reduceEq, Int.reduceLT, Int.reduceLE, Int.reduceAdd, Int.reduceSub, Int.reduceMul, Int.reduceNeg, s_ref06_May, hm]
  repeat' ((first | rw [KG_bool] | rw [KC_bool]); split <;> rename_i h <;> (try simp only [Bool.not_eq_true, Bool.not_not, Bool.not_eq_eq_eq_not, Bool.not_true, Bool.not_false] at h) <;> simp (maxDischargeDepth := 8) only [go_sem, reduceIte, reduceCtorEq, Nat.reduceEqDiff, Nat.reduceAdd, Nat.reduceMul, Nat.reduceSub, Nat.reduceLeDiff, Nat.reduceLT, Nat.reduceBEq, Int.reduceToNat, Int.reduceEq, Int.reduceLT, Int.reduceLE, Int.reduceAdd, Int.reduceSub, Int.reduceMul, Int.reduceNeg, h, hm])
  all_goals simp_all [shapeB]
  all_goals omega
def headB (id pl cl sz ax ay gx gy wt : Int) : Bool := (decide (1 ≤ id) && decide (id ≤ 2147483647) && (decide (0 ≤ pl) && decide (pl < 8))) && (shapeB cl sz && cellB ax ay && cellB gx gy && (decide (0 ≤ wt) && decide (wt ≤ 15)))
def phaseB (ax ay ph gx gy wt : Int) (l : List (Int × Int)) : Bool := if ph = 0 then idleB l.length gx gy wt else if ph = 1 then movingB ax ay gx gy l else if ph = 2 then stuckB l.length wt else false
def mayU (id pl cl sz ax ay ph gx gy wt : Int) (l : List (Int × Int)) : Bool := headB id pl cl sz ax ay gx gy wt && phaseB ax ay ph gx gy wt l
def errI (b : Bool) : Int := if b then 0 else 1
theorem errI_t : errI true = 0 := rfl
theorem errI_f : errI false = 1 := rfl
theorem r_unit_Check {m : Mem} {p : SV} {l : List (Int × Int)} (hp : LiesD cellF m p l) (hb : 2 * l.length * 16 ≤ two48) {X : Mem} (hX : HpSub m X) (hw : X.Wf) (id pl cl sz ax ay ph gx gy wt : Int) : RF tb f_unit_Check [unitV id pl cl sz ax ay ph gx gy p wt] X = some (.int .i64 (errI (mayU id pl cl sz ax ay ph gx gy wt l)), X) := by
  rw [RF_go t_unit_Check _ _ rfl]
  simp (maxDischargeDepth := 8) only [go_sem, reduceIte, reduceCtorEq, Nat.reduceEqDiff, Nat.reduceAdd, Nat.reduceMul, Nat.reduceSub, Nat.reduceLeDiff, Nat.reduceLT, Nat.reduceBEq, Int.reduceToNat, Int.reduceEq, Int.reduceLT, Int.reduceLE, Int.reduceAdd, Int.reduceSub, Int.reduceMul, Int.reduceNeg, s_unit_Check, hw, unitV, hp.cell, r_class_May, r_unit_inside]
  have no : ∀ {Y : Mem}, headB id pl cl sz ax ay gx gy wt = false → some (SV.int .i64 1, Y) = some (SV.int .i64 (errI (mayU id pl cl sz ax ay ph gx gy wt l)), Y) := fun h => by simp [mayU, h, errI]
  have no2 : ∀ {Y : Mem}, phaseB ax ay ph gx gy wt l = false → some (SV.int .i64 1, Y) = some (SV.int .i64 (errI (mayU id pl cl sz ax ay ph gx gy wt l)), Y) := fun h => by simp [mayU, h, errI]
  repeat' ((first | rw [KG_bool] | rw [KC_bool]); split <;> rename_i h <;> (try simp only [Bool.not_eq_true, Bool.not_not, Bool.not_eq_eq_eq_not, Bool.not_true, Bool.not_false] at h) <;> simp (maxDischargeDepth := 8) only [go_sem, reduceIte, reduceCtorEq, Nat.reduceEqDiff, Nat.reduceAdd, Nat.reduceMul, Nat.reduceSub, Nat.reduceLeDiff, Nat.reduceLT, Nat.reduceBEq, Int.reduceToNat, Int.reduceEq, Int.reduceLT, Int.reduceLE, Int.reduceAdd, Int.reduceSub, Int.reduceMul, Int.reduceNeg, h, hw, hp.cell, r_class_May, r_unit_inside])
  all_goals (try simp only [decide_eq_true_eq, decide_eq_false_iff_not, Bool.not_eq_true, Bool.not_eq_false] at *)
  all_goals first
    | (refine no ?_; simp only [headB, Bool.and_eq_false_iff, decide_eq_false_iff_not, *]; first | (simp; done) | omega | (simp; omega))
    | (refine no2 ?_; unfold phaseB; rw [if_neg (by omega), if_neg (by omega), if_neg (by omega)])
    | skip
  have hH : headB id pl cl sz ax ay gx gy wt = true := by
    clear hp hX no no2
    simp only [headB, Bool.and_eq_true, decide_eq_true_eq, *, and_true, true_and]
    omega
  have hR : mayU id pl cl sz ax ay ph gx gy wt l = phaseB ax ay ph gx gy wt l := by simp [mayU, hH]
  rw [hR]
  have hph : ph = 0 ∨ ph = 1 ∨ ph = 2 := by omega
  rcases hph with rfl | rfl | rfl
  · have e : phaseB ax ay 0 gx gy wt l = idleB l.length gx gy wt := rfl
    rw [e]
    simp (maxDischargeDepth := 8) only [go_sem, reduceIte, reduceCtorEq, Nat.reduceEqDiff, Nat.reduceAdd, Nat.reduceMul, Nat.reduceSub, Nat.reduceLeDiff, Nat.reduceLT, Nat.reduceBEq, Int.reduceToNat, Int.reduceEq, Int.reduceLT, Int.reduceLE, Int.reduceAdd, Int.reduceSub, Int.reduceMul, Int.reduceNeg, hw, show inB 0 3 = true from rfl, hp.cell, RV_fn, fun {X : Mem} (hw : X.Wf) => r_unit_idle hp hw]
    cases idleB l.length gx gy wt <;> simp (maxDischargeDepth := 8) only [go_sem, reduceIte, reduceCtorEq, Nat.reduceEqDiff, Nat.reduceAdd, Nat.reduceMul, Nat.reduceSub, Nat.reduceLeDiff, Nat.reduceLT, Nat.reduceBEq, Int.reduceToNat, Int.reduceEq, Int.reduceLT, Int.reduceLE, Int.reduceAdd, Int.reduceSub, Int.reduceMul, Int.reduceNeg, errI_t, errI_f]
  · have e : phaseB ax ay 1 gx gy wt l = movingB ax ay gx gy l := rfl
    rw [e]
    simp (maxDischargeDepth := 8) only [go_sem, reduceIte, reduceCtorEq, Nat.reduceEqDiff, Nat.reduceAdd, Nat.reduceMul, Nat.reduceSub, Nat.reduceLeDiff, Nat.reduceLT, Nat.reduceBEq, Int.reduceToNat, Int.reduceEq, Int.reduceLT, Int.reduceLE, Int.reduceAdd, Int.reduceSub, Int.reduceMul, Int.reduceNeg, hw, show inB 1 3 = true from rfl, hp.cell, RV_fn, r_unit_moving hp hb, hX]
    cases movingB ax ay gx gy l <;> simp (maxDischargeDepth := 8) only [go_sem, reduceIte, reduceCtorEq, Nat.reduceEqDiff, Nat.reduceAdd, Nat.reduceMul, Nat.reduceSub, Nat.reduceLeDiff, Nat.reduceLT, Nat.reduceBEq, Int.reduceToNat, Int.reduceEq, Int.reduceLT, Int.reduceLE, Int.reduceAdd, Int.reduceSub, Int.reduceMul, Int.reduceNeg, errI_t, errI_f]
  · have e : phaseB ax ay 2 gx gy wt l = stuckB l.length wt := rfl
    rw [e]
    simp (maxDischargeDepth := 8) only [go_sem, reduceIte, reduceCtorEq, Nat.reduceEqDiff, Nat.reduceAdd, Nat.reduceMul, Nat.reduceSub, Nat.reduceLeDiff, Nat.reduceLT, Nat.reduceBEq, Int.reduceToNat, Int.reduceEq, Int.reduceLT, Int.reduceLE, Int.reduceAdd, Int.reduceSub, Int.reduceMul, Int.reduceNeg, hw, show inB 2 3 = true from rfl, hp.cell, RV_fn, fun {X : Mem} (hw : X.Wf) => r_unit_stuck hp hw]
    cases stuckB l.length wt <;> simp (maxDischargeDepth := 8) only [go_sem, reduceIte, reduceCtorEq, Nat.reduceEqDiff, Nat.reduceAdd, Nat.reduceMul, Nat.reduceSub, Nat.reduceLeDiff, Nat.reduceLT, Nat.reduceBEq, Int.reduceToNat, Int.reduceEq, Int.reduceLT, Int.reduceLE, Int.reduceAdd, Int.reduceSub, Int.reduceMul, Int.reduceNeg, errI_t, errI_f]
end Go.Sh.T
