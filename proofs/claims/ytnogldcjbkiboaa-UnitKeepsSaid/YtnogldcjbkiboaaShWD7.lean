import Derived.Test.YtnogldcjbkiboaaShWD6
set_option linter.all false
set_option linter.unusedVariables false
set_option linter.unusedSimpArgs false
set_option autoImplicit false
namespace Go.Sh.T
open Go.Sh
set_option maxHeartbeats 8000000
set_option maxRecDepth 20000
def goB (id pl cl sz ax ay ph gx gy wt : Int) (l : List (Int × Int)) : Bool := decide (ph = 1) && mayU id pl cl sz ax ay ph gx gy wt l
theorem goB_pos {id pl cl sz ax ay ph gx gy wt : Int} {l : List (Int × Int)} (h : goB id pl cl sz ax ay ph gx gy wt l = true) : ph = 1 ∧ movingB ax ay gx gy l = true ∧ 0 < l.length ∧ (0 ≤ wt ∧ wt ≤ 15) ∧ mayU id pl cl sz ax ay 1 gx gy wt l = true := by
  simp only [goB, Bool.and_eq_true, decide_eq_true_eq] at h
  obtain ⟨rfl, h⟩ := h
  have h2 := h
  simp only [mayU, Bool.and_eq_true] at h
  have hm : movingB ax ay gx gy l = true := h.2
  have hh := h.1
  simp only [headB, Bool.and_eq_true, decide_eq_true_eq] at hh
  refine ⟨rfl, hm, ?_, hh.2.2, h2⟩
  simp only [movingB, Bool.and_eq_true, decide_eq_true_eq] at hm
  exact hm.1.1.1
theorem r_unit_Step {m : Mem} {p : SV} {l : List (Int × Int)} (hp : LiesD cellF m p l) (hb : 2 * l.length * 16 ≤ two48) {X : Mem} (hX : HpSub m X) (hw : X.Wf) (id pl cl sz ax ay ph gx gy wt : Int) :
    RF tb f_unit_Step [unitV id pl cl sz ax ay ph gx gy p wt] X = if goB id pl cl sz ax ay ph gx gy wt l then
        (if l.length = 1 then some (.tup [unitV id pl cl sz (l.headD (0, 0)).1 (l.headD (0, 0)).2 0 0 0 .nils 0, .int .i64 0], X)
         else some (.tup [unitV id pl cl sz (l.headD (0, 0)).1 (l.headD (0, 0)).2 1 gx gy (cloneV X.hl (dropV 2 1 p) (l.drop 1).length 2) 0, .int .i64 0], X.hap (cloneL (dropV 2 1 p) (l.drop 1).length ((l.drop 1).flatMap cellF.enc))))
      else some (.tup [zeroU, .int .i64 1], X) := by
  rw [RF_go t_unit_Step _ _ rfl]
  simp (maxDischargeDepth := 8) only [go_sem, reduceIte, reduceCtorEq, Nat.reduceEqDiff, Nat.reduceAdd, Nat.reduceMul, Nat.reduceSub, Nat.reduceLeDiff, Nat.reduceLT, Nat.reduceBEq, Int.reduceToNat, Int.reduceEq, Int.reduceLT, Int.reduceLE, Int.reduceAdd, Int.reduceSub, Int.reduceMul, Int.reduceNeg, s_unit_Step, hw, unitV, hp.cell, r_unit_goes hp hb, hX]
  rw [show (decide (ph = 1) && mayU id pl cl sz ax ay ph gx gy wt l) = goB id pl cl sz ax ay ph gx gy wt l from rfl]
  cases h1 : goB id pl cl sz ax ay ph gx gy wt l with
  | false => simp (maxDischargeDepth := 8) only [go_sem, reduceIte, reduceCtorEq, Nat.reduceEqDiff, Nat.reduceAdd, Nat.reduceMul, Nat.reduceSub, Nat.reduceLeDiff, Nat.reduceLT, Nat.reduceBEq, Int.reduceToNat, Int.reduceEq, Int.reduceLT, Int.reduceLE, Int.reduceAdd, Int.reduceSub, Int.reduceMul, Int.reduceNeg, hw]
  | true =>
    obtain ⟨rfl, hm, hpos, _, _⟩ := goB_pos h1
    have hd : LiesD cellF m (dropV 2 1 p) (l.drop 1) := LiesD.drop cellF_even hp hpos
    have hq := cloneL_lies (hd.sub hX)
    have hbd : 2 * (l.drop 1).length * 16 ≤ two48 := by rw [List.length_drop]; simp only [two48] at *; omega
    have hhd : l[0]? = some (l.headD (0, 0)) := by cases l with
      | nil => simp at hpos
      | cons c r => rfl
    have hlen : (l.drop 1).length = l.length - 1 := List.length_drop
    simp (maxDischargeDepth := 8) only [go_sem, reduceIte, reduceCtorEq, Nat.reduceEqDiff, Nat.reduceAdd, Nat.reduceMul, Nat.reduceSub, Nat.reduceLeDiff, Nat.reduceLT, Nat.reduceBEq, Int.reduceToNat, Int.reduceEq, Int.reduceLT, Int.reduceLE, Int.reduceAdd, Int.reduceSub, Int.reduceMul, Int.reduceNeg, hw, hp.cell, hp.iaddrC0 hpos, hp.loadC0 hhd, hX, hp.dropC1 hpos, r_slices_Clone_api_Cell_api_Cell hd hbd, cells_clone, cell_clone, lv_clone, hq.len, nat_beq0]
    by_cases hn : l.length = 1
    · simp (maxDischargeDepth := 8) only [go_sem, reduceIte, reduceCtorEq, Nat.reduceEqDiff, Nat.reduceAdd, Nat.reduceMul, Nat.reduceSub, Nat.reduceLeDiff, Nat.reduceLT, Nat.reduceBEq, Int.reduceToNat, Int.reduceEq, Int.reduceLT, Int.reduceLE, Int.reduceAdd, Int.reduceSub, Int.reduceMul, Int.reduceNeg, show decide ((l.drop 1).length = 0) = true from decide_eq_true (by omega), hw, cells_clone, cell_clone, lv_clone, fun {X : Mem} (hw : X.Wf) => r_unit_Stop hq hw]
      rw [if_pos hn]
    · simp (maxDischargeDepth := 8) only [go_sem, reduceIte, reduceCtorEq, Nat.reduceEqDiff, Nat.reduceAdd, Nat.reduceMul, Nat.reduceSub, Nat.reduceLeDiff, Nat.reduceLT, Nat.reduceBEq, Int.reduceToNat, Int.reduceEq, Int.reduceLT, Int.reduceLE, Int.reduceAdd, Int.reduceSub, Int.reduceMul, Int.reduceNeg, show decide ((l.drop 1).length = 0) = false from decide_eq_false (by omega), hw, cells_clone, cell_clone, lv_clone, clone_back]
      rw [if_neg hn]
theorem r_ref21_Step {m : Mem} {p : SV} {l : List (Int × Int)} (hp : LiesD cellF m p l) (hb : 2 * l.length * 16 ≤ two48) {X : Mem} (hX : HpSub m X) (hw : X.Wf) (id pl cl sz ax ay ph gx gy wt : Int) :
    RF tb f_ref21_Step [unitV id pl cl sz ax ay ph gx gy p wt] X = if goB id pl cl sz ax ay ph gx gy wt l then
        (if l.length = 1 then some (.tup [unitV id pl cl sz (l.headD (0, 0)).1 (l.headD (0, 0)).2 0 0 0 .nils 0, .int .i64 0], X)
         else some (.tup [unitV id pl cl sz (l.headD (0, 0)).1 (l.headD (0, 0)).2 1 gx gy (copyV X.hl (l.drop 1).length 2) 0, .int .i64 0], X.hap (copyL (l.drop 1).length ((l.drop 1).flatMap cellF.enc))))
      else some (.tup [zeroU, .int .i64 1], X) := by
  rw [RF_go t_ref21_Step _ _ rfl]
  simp (maxDischargeDepth := 8) only [go_sem, reduceIte, reduceCtorEq, Nat.reduceEqDiff, Nat.reduceAdd, Nat.reduceMul, Nat.reduceSub, Nat.reduceLeDiff, Nat.reduceLT, Nat.reduceBEq, Int.reduceToNat, Int.reduceEq, Int.reduceLT, Int.reduceLE, Int.reduceAdd, Int.reduceSub, Int.reduceMul, Int.reduceNeg, s_ref21_Step, hw, unitV, hp.cell, r_ref21_May hp hb, hX]
  cases h0 : mayU id pl cl sz ax ay ph gx gy wt l with
  | false =>
    rw [if_neg (by simp [goB, h0])]
    simp (maxDischargeDepth := 8) only [go_sem, reduceIte, reduceCtorEq, Nat.reduceEqDiff, Nat.reduceAdd, Nat.reduceMul, Nat.reduceSub, Nat.reduceLeDiff, Nat.reduceLT, Nat.reduceBEq, Int.reduceToNat, Int.reduceEq, Int.reduceLT, Int.reduceLE, Int.reduceAdd, Int.reduceSub, Int.reduceMul, Int.reduceNeg, hw]
  | true =>
  simp (maxDischargeDepth := 8) only [go_sem, reduceIte, reduceCtorEq, Nat.reduceEqDiff, Nat.reduceAdd, Nat.reduceMul, Nat.reduceSub, Nat.reduceLeDiff, Nat.reduceLT, Nat.reduceBEq, Int.reduceToNat, Int.reduceEq, Int.reduceLT, Int.reduceLE, Int.reduceAdd, Int.reduceSub, Int.reduceMul, Int.reduceNeg, hw, hp.cell]
  cases h2 : decide (ph = 1) with
  | false =>
    rw [if_neg (by simp [goB, h2])]
    simp (maxDischargeDepth := 8) only [go_sem, reduceIte, reduceCtorEq, Nat.reduceEqDiff, Nat.reduceAdd, Nat.reduceMul, Nat.reduceSub, Nat.reduceLeDiff, Nat.reduceLT, Nat.reduceBEq, Int.reduceToNat, Int.reduceEq, Int.reduceLT, Int.reduceLE, Int.reduceAdd, Int.reduceSub, Int.reduceMul, Int.reduceNeg, show (ph != 1) = true by simpa using h2, hw]
  | true =>
    have h1 : goB id pl cl sz ax ay ph gx gy wt l = true := by simp [goB, h0, h2]
    rw [if_pos h1]
    obtain ⟨rfl, hm, hpos, _, _⟩ := goB_pos h1
    have hd : LiesD cellF m (dropV 2 1 p) (l.drop 1) := LiesD.drop cellF_even hp hpos
    have hq := copy_liesC (l.drop 1) X
    have hbd : 2 * (l.drop 1).length * 16 ≤ two48 := by rw [List.length_drop]; simp only [two48] at *; omega
    have hhd : l[0]? = some (l.headD (0, 0)) := by cases l with
      | nil => simp at hpos
      | cons c r => rfl
    have hlen : (l.drop 1).length = l.length - 1 := List.length_drop
    simp (maxDischargeDepth := 8) only [go_sem, reduceIte, reduceCtorEq, Nat.reduceEqDiff, Nat.reduceAdd, Nat.reduceMul, Nat.reduceSub, Nat.reduceLeDiff, Nat.reduceLT, Nat.reduceBEq, Int.reduceToNat, Int.reduceEq, Int.reduceLT, Int.reduceLE, Int.reduceAdd, Int.reduceSub, Int.reduceMul, Int.reduceNeg, show ((1 : Int) != 1) = false from rfl, hw, hp.cell, hp.iaddrC0 hpos, hp.loadC0 hhd, hX, hp.dropC1 hpos, List.replicate, List.flatten_nil, app_copyC hd hbd, hq.len, nat_beq0]
    by_cases hn : l.length = 1
    · simp (maxDischargeDepth := 8) only [go_sem, reduceIte, reduceCtorEq, Nat.reduceEqDiff, Nat.reduceAdd, Nat.reduceMul, Nat.reduceSub, Nat.reduceLeDiff, Nat.reduceLT, Nat.reduceBEq, Int.reduceToNat, Int.reduceEq, Int.reduceLT, Int.reduceLE, Int.reduceAdd, Int.reduceSub, Int.reduceMul, Int.reduceNeg, show decide ((l.drop 1).length = 0) = true from decide_eq_true (by omega), hw, fun {X : Mem} (hw : X.Wf) => r_ref21_Stop hq hw]
      rw [if_pos hn]
    · simp (maxDischargeDepth := 8) only [go_sem, reduceIte, reduceCtorEq, Nat.reduceEqDiff, Nat.reduceAdd, Nat.reduceMul, Nat.reduceSub, Nat.reduceLeDiff, Nat.reduceLT, Nat.reduceBEq, Int.reduceToNat, Int.reduceEq, Int.reduceLT, Int.reduceLE, Int.reduceAdd, Int.reduceSub, Int.reduceMul, Int.reduceNeg, show decide ((l.drop 1).length = 0) = false from decide_eq_false (by omega), hw]
      rw [if_neg hn]
end Go.Sh.T
