import Derived.Test.YtnogldcjbkiboaaShWD8
set_option linter.all false
set_option linter.unusedVariables false
set_option linter.unusedSimpArgs false
set_option autoImplicit false
namespace Go.Sh.T
open Go.Sh
set_option maxHeartbeats 8000000
set_option maxRecDepth 20000
theorem r_law21_UnitChecks {m : Mem} {p : SV} {l : List (Int × Int)} (hp : LiesD cellF m p l) (hb : 2 * l.length * 16 ≤ two48) (hm : m.Wf) (id pl cl sz ax ay ph gx gy wt : Int) :
    RF tb f_law21_UnitChecks [unitV id pl cl sz ax ay ph gx gy p wt] m = some (.bool true, m) := by
  rw [RF_go t_law21_UnitChecks _ _ rfl]
  simp (maxDischargeDepth := 8) only [go_sem, reduceIte, reduceCtorEq, Nat.reduceEqDiff, Nat.reduceAdd, Nat.reduceMul, Nat.reduceSub, Nat.reduceLeDiff, Nat.reduceLT, Nat.reduceBEq, Int.reduceToNat, Int.reduceEq, Int.reduceLT, Int.reduceLE, Int.reduceAdd, Int.reduceSub, Int.reduceMul, Int.reduceNeg, s_law21_UnitChecks, hm, unitV, hp.cell, r_unit_Next hp, r_ref21_Next hp, r_unit_Check hp hb, r_ref21_Check hp hb, r_law21_awake]
theorem r_law21_UnitAims {m : Mem} {p : SV} {l : List (Int × Int)} (hp : LiesD cellF m p l) (hm : m.Wf) (id pl cl sz ax ay ph gx gy wt a b : Int) :
    RF tb f_law21_UnitAims [unitV id pl cl sz ax ay ph gx gy p wt, .agg [.int .i64 a, .int .i64 b]] m = some (.bool true, m) := by
  rw [RF_go t_law21_UnitAims _ _ rfl]
  have h0 : LiesD cellF m .nils [] := LiesD.nil _ _
  simp (maxDischargeDepth := 8) only [go_sem, reduceIte, reduceCtorEq, Nat.reduceEqDiff, Nat.reduceAdd, Nat.reduceMul, Nat.reduceSub, Nat.reduceLeDiff, Nat.reduceLT, Nat.reduceBEq, Int.reduceToNat, Int.reduceEq, Int.reduceLT, Int.reduceLE, Int.reduceAdd, Int.reduceSub, Int.reduceMul, Int.reduceNeg, s_law21_UnitAims, hm, unitV, hp.cell, fun {X : Mem} (hw : X.Wf) => r_unit_Stop hp hw, fun {X : Mem} (hw : X.Wf) => r_ref21_Stop hp hw, fun {X : Mem} (hw : X.Wf) => r_unit_Aim hp hw, fun {X : Mem} (hw : X.Wf) => r_ref21_Aim hp hw,
    fun {X : Mem} (hX : HpSub m X) (hw : X.Wf) => r_ref21_Same h0 h0 (by decide) hX hw rfl, r_law21_awake]
end Go.Sh.T
