import Derived.Test.YtnogldcjbkiboaaShWD4
set_option linter.all false
set_option linter.unusedVariables false
set_option linter.unusedSimpArgs false
set_option autoImplicit false
namespace Go.Sh.T
open Go.Sh
set_option maxHeartbeats 8000000
set_option maxRecDepth 20000
theorem r_unit_Stop {m : Mem} {p : SV} {l : List (Int × Int)} (hp : LiesD cellF m p l) {X : Mem} (hw : X.Wf) (id pl cl sz ax ay ph gx gy wt : Int) : RF tb f_unit_Stop [unitV id pl cl sz ax ay ph gx gy p wt] X = some (unitV id pl cl sz ax ay 0 0 0 .nils 0, X) := by
  rw [RF_go t_unit_Stop _ _ rfl]
  simp (maxDischargeDepth := 8) only [go_sem, reduceIte, reduceCtorEq, Nat.reduceEqDiff, Nat.reduceAdd, Nat.reduceMul, Nat.reduceSub, Nat.reduceLeDiff, Nat.reduceLT, Nat.reduceBEq, Int.reduceToNat, Int.reduceEq, Int.reduceLT, Int.reduceLE, Int.reduceAdd, Int.reduceSub, Int.reduceMul, Int.reduceNeg, s_unit_Stop, hw, unitV, hp.cell]
theorem r_ref21_Stop {m : Mem} {p : SV} {l : List (Int × Int)} (hp : LiesD cellF m p l) {X : Mem} (hw : X.Wf) (id pl cl sz ax ay ph gx gy wt : Int) : RF tb f_ref21_Stop [unitV id pl cl sz ax ay ph gx gy p wt] X = some (unitV id pl cl sz ax ay 0 0 0 .nils 0, X) := by
  rw [RF_go t_ref21_Stop _ _ rfl]
  simp (maxDischargeDepth := 8) only [go_sem, reduceIte, reduceCtorEq, Nat.reduceEqDiff, Nat.reduceAdd, Nat.reduceMul, Nat.reduceSub, Nat.reduceLeDiff, Nat.reduceLT, Nat.reduceBEq, Int.reduceToNat, Int.reduceEq, Int.reduceLT, Int.reduceLE, Int.reduceAdd, Int.reduceSub, Int.reduceMul, Int.reduceNeg, s_ref21_Stop, hw, unitV, hp.cell]
def aimB (ax ay gx gy : Int) : Bool := !(gx == ax && gy == ay)
abbrev aimV (id pl cl sz ax ay gx gy : Int) : SV := unitV id pl cl sz ax ay (iB (aimB ax ay gx gy) 2) (iB (aimB ax ay gx gy) gx) (iB (aimB ax ay gx gy) gy) .nils 0
theorem r_unit_Aim {m : Mem} {p : SV} {l : List (Int × Int)} (hp : LiesD cellF m p l) {X : Mem} (hw : X.Wf) (id pl cl sz ax ay ph gx gy wt a b : Int) : RF tb f_unit_Aim [unitV id pl cl sz ax ay ph gx gy p wt, .agg [.int .i64 a, .int .i64 b]] X = some (aimV id pl cl sz ax ay a b, X) := by
  rw [RF_go t_unit_Aim _ _ rfl]
  simp (maxDischargeDepth := 8) only [go_sem, reduceIte, reduceCtorEq, Nat.reduceEqDiff, Nat.reduceAdd, Nat.reduceMul, Nat.reduceSub, Nat.reduceLeDiff, Nat.reduceLT, Nat.reduceBEq, Int.reduceToNat, Int.reduceEq, Int.reduceLT, Int.reduceLE, Int.reduceAdd, Int.reduceSub, Int.reduceMul, Int.reduceNeg, s_unit_Aim, hw, unitV, hp.cell, fun {X : Mem} (hw : X.Wf) => r_unit_Stop hp hw]
  repeat' ((first | rw [KG_bool] | rw [KC_bool]); split <;> rename_i h <;> (try simp only [Bool.not_eq_true, Bool.not_not, Bool.not_eq_eq_eq_not, Bool.not_true, Bool.not_false] at h) <;> simp (maxDischargeDepth := 8) only [go_sem, reduceIte, reduceCtorEq, Nat.reduceEqDiff, Nat.reduceAdd, Nat.reduceMul, Nat.reduceSub, Nat.reduceLeDiff, Nat.reduceLT, Nat.reduceBEq, Int.reduceToNat, Int.reduceEq, Int.reduceLT, Int.reduceLE, Int.reduceAdd, Int.reduceSub, Int.reduceMul, Int.reduceNeg, h, hw])
  all_goals simp_all [iB, aimB]
theorem r_ref21_Aim {m : Mem} {p : SV} {l : List (Int × Int)} (hp : LiesD cellF m p l) {X : Mem} (hw : X.Wf) (id pl cl sz ax ay ph gx gy wt a b : Int) : RF tb f_ref21_Aim [unitV id pl cl sz ax ay ph gx gy p wt, .agg [.int .i64 a, .int .i64 b]] X = some (aimV id pl cl sz ax ay a b, X) := by
  rw [RF_go t_ref21_Aim _ _ rfl]
  simp (maxDischargeDepth := 8) only [go_sem, reduceIte, reduceCtorEq, Nat.reduceEqDiff, Nat.reduceAdd, Nat.reduceMul, Nat.reduceSub, Nat.reduceLeDiff, Nat.reduceLT, Nat.reduceBEq, Int.reduceToNat, Int.reduceEq, Int.reduceLT, Int.reduceLE, Int.reduceAdd, Int.reduceSub, Int.reduceMul, Int.reduceNeg, s_ref21_Aim, hw, unitV, hp.cell, fun {X : Mem} (hw : X.Wf) => r_ref21_Stop hp hw]
  repeat' ((first | rw [KG_bool] | rw [KC_bool]); split <;> rename_i h <;> (try simp only [Bool.not_eq_true, Bool.not_not, Bool.not_eq_eq_eq_not, Bool.not_true, Bool.not_false] at h) <;> simp (maxDischargeDepth := 8) only [go_sem, reduceIte, reduceCtorEq, Nat.reduceEqDiff, Nat.reduceAdd, Nat.reduceMul, Nat.reduceSub, Nat.reduceLeDiff, Nat.reduceLT, Nat.reduceBEq, Int.reduceToNat, Int.reduceEq, Int.reduceLT, Int.reduceLE, Int.reduceAdd, Int.reduceSub, Int.reduceMul, Int.reduceNeg, h, hw])
  all_goals simp_all [iB, aimB]
/-- Are units alike? -/
theorem r_ref21_Same {m : Mem} {p q : SV} {l k : List (Int × Int)} (hp : LiesD cellF m p l) (hq : LiesD cellF m q k) (hb : l.length ≤ two48) {X : Mem} (hX : HpSub m X) (hw : X.Wf) (hlk : l = k) (id pl cl sz ax ay ph gx gy wt : Int) : RF tb f_ref21_Same [unitV id pl cl sz ax ay ph gx gy p wt, unitV id pl cl sz ax ay ph gx gy q wt] X = some (.bool true, X) := by
  subst hlk
  rw [RF_go t_ref21_Same _ _ rfl]
  simp (maxDischargeDepth := 8) only [go_sem, reduceIte, reduceCtorEq, Nat.reduceEqDiff, Nat.reduceAdd, Nat.reduceMul, Nat.reduceSub, Nat.reduceLeDiff, Nat.reduceLT, Nat.reduceBEq, Int.reduceToNat, Int.reduceEq, Int.reduceLT, Int.reduceLE, Int.reduceAdd, Int.reduceSub, Int.reduceMul, Int.reduceNeg, s_ref21_Same, hw, unitV, hp.cell, hq.cell, hp.len, hq.len]
  rw [KL_keep _ _ _ (by simp (maxDischargeDepth := 8) only [go_sem, reduceIte, reduceCtorEq, Nat.reduceEqDiff, Nat.reduceAdd, Nat.reduceMul, Nat.reduceSub, Nat.reduceLeDiff, Nat.reduceLT, Nat.reduceBEq, Int.reduceToNat, Int.reduceEq, Int.reduceLT, Int.reduceLE, Int.reduceAdd, Int.reduceSub, Int.reduceMul, Int.reduceNeg])]
  simp (maxDischargeDepth := 8) only [go_sem, reduceIte, reduceCtorEq, Nat.reduceEqDiff, Nat.reduceAdd, Nat.reduceMul, Nat.reduceSub, Nat.reduceLeDiff, Nat.reduceLT, Nat.reduceBEq, Int.reduceToNat, Int.reduceEq, Int.reduceLT, Int.reduceLE, Int.reduceAdd, Int.reduceSub, Int.reduceMul, Int.reduceNeg]
  refine KL_indE (α := Nat) (fun i => l.length - i) (fun i => [(2, .ptr (.st X.dep 0) 0), (3, .ptr (.st X.dep 1) 0), (5, .int .i64 (i : Int))])
    (fun i => X.fr [.cells true [.int .i64 id, .int .i64 pl, .int .i64 cl, .int .i64 sz, .int .i64 ax, .int .i64 ay, .int .i64 ph, .int .i64 gx, .int .i64 gy, p, .int .i64 wt], .cells true [.int .i64 id, .int .i64 pl, .int .i64 cl, .int .i64 sz, .int .i64 ax, .int .i64 ay, .int .i64 ph, .int .i64 gx, .int .i64 gy, q, .int .i64 wt]] none)
    (fun i => i ≤ l.length) ?_ 0 (Nat.zero_le _)
  intro i hi ih
  simp (maxDischargeDepth := 8) only [go_sem, reduceIte, reduceCtorEq, Nat.reduceEqDiff, Nat.reduceAdd, Nat.reduceMul, Nat.reduceSub, Nat.reduceLeDiff, Nat.reduceLT, Nat.reduceBEq, Int.reduceToNat, Int.reduceEq, Int.reduceLT, Int.reduceLE, Int.reduceAdd, Int.reduceSub, Int.reduceMul, Int.reduceNeg, hw, hp.len]
  by_cases hlt : i < l.length
  · have hel : l[i]? = some l[i] := List.getElem?_eq_getElem hlt
    have hw2 : IntKind.wrap .i64 ((i : Int) + 1) = ((i + 1 : Nat) : Int) := by rw [wrap_small (by omega) (by simp only [two48] at hb; omega)]; rfl
    simp (maxDischargeDepth := 8) only [go_sem, reduceIte, reduceCtorEq, Nat.reduceEqDiff, Nat.reduceAdd, Nat.reduceMul, Nat.reduceSub, Nat.reduceLeDiff, Nat.reduceLT, Nat.reduceBEq, Int.reduceToNat, Int.reduceEq, Int.reduceLT, Int.reduceLE, Int.reduceAdd, Int.reduceSub, Int.reduceMul, Int.reduceNeg, show decide ((i : Int) < (l.length : Int)) = true from decide_eq_true (by omega), hw, hp.iaddrC hlt, hp.loadC hel, hq.iaddrC hlt, hq.loadC hel, hX, hw2]
    rw [KL_keep _ _ _ (by simp (maxDischargeDepth := 8) only [go_sem, reduceIte, reduceCtorEq, Nat.reduceEqDiff, Nat.reduceAdd, Nat.reduceMul, Nat.reduceSub, Nat.reduceLeDiff, Nat.reduceLT, Nat.reduceBEq, Int.reduceToNat, Int.reduceEq, Int.reduceLT, Int.reduceLE, Int.reduceAdd, Int.reduceSub, Int.reduceMul, Int.reduceNeg])]
    simp (maxDischargeDepth := 8) only [go_sem, reduceIte, reduceCtorEq, Nat.reduceEqDiff, Nat.reduceAdd, Nat.reduceMul, Nat.reduceSub, Nat.reduceLeDiff, Nat.reduceLT, Nat.reduceBEq, Int.reduceToNat, Int.reduceEq, Int.reduceLT, Int.reduceLE, Int.reduceAdd, Int.reduceSub, Int.reduceMul, Int.reduceNeg]
    exact ih (i + 1) (by omega) (by omega)
  · obtain rfl : i = l.length := by omega
    simp (maxDischargeDepth := 8) only [go_sem, reduceIte, reduceCtorEq, Nat.reduceEqDiff, Nat.reduceAdd, Nat.reduceMul, Nat.reduceSub, Nat.reduceLeDiff, Nat.reduceLT, Nat.reduceBEq, Int.reduceToNat, Int.reduceEq, Int.reduceLT, Int.reduceLE, Int.reduceAdd, Int.reduceSub, Int.reduceMul, Int.reduceNeg, show decide (((l.length : Nat) : Int) < (l.length : Int)) = false from decide_eq_false (by omega), hw]
theorem r_law21_same {m : Mem} {p q : SV} {l k : List (Int × Int)} (hp : LiesD cellF m p l) (hq : LiesD cellF m q k) (hb : l.length ≤ two48) {X : Mem} (hX : HpSub m X) (hw : X.Wf) (hlk : l = k) (id pl cl sz ax ay ph gx gy wt e : Int) : RF tb f_law21_same [unitV id pl cl sz ax ay ph gx gy p wt, .int .i64 e, unitV id pl cl sz ax ay ph gx gy q wt, .int .i64 e] X = some (.bool true, X) := by
  rw [RF_go t_law21_same _ _ rfl]
  simp (maxDischargeDepth := 8) only [go_sem, reduceIte, reduceCtorEq, Nat.reduceEqDiff, Nat.reduceAdd, Nat.reduceMul, Nat.reduceSub, Nat.reduceLeDiff, Nat.reduceLT, Nat.reduceBEq, Int.reduceToNat, Int.reduceEq, Int.reduceLT, Int.reduceLE, Int.reduceAdd, Int.reduceSub, Int.reduceMul, Int.reduceNeg, s_law21_same, hw, unitV, hp.cell, hq.cell, fun {X : Mem} (hX : HpSub m X) (hw : X.Wf) => r_ref21_Same hp hq hb hX hw hlk, hX]
end Go.Sh.T
