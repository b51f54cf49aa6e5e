import Derived.Test.YtnogldcjbkiboaaShWD3
set_option linter.all false
set_option linter.unusedVariables false
set_option linter.unusedSimpArgs false
set_option autoImplicit false
namespace Go.Sh.T
open Go.Sh
set_option maxHeartbeats 8000000
set_option maxRecDepth 20000
theorem r_ref21_May {m : Mem} {p : SV} {l : List (Int × Int)} (hp : LiesD cellF m p l) (hb : 2 * l.length * 16 ≤ two48) {X : Mem} (hX : HpSub m X) (hw : X.Wf) (id pl cl sz ax ay ph gx gy wt : Int) : RF tb f_ref21_May [unitV id pl cl sz ax ay ph gx gy p wt] X = some (.bool (mayU id pl cl sz ax ay ph gx gy wt l), X) := by
  rw [RF_go t_ref21_May _ _ rfl]
  simp (maxDischargeDepth := 8) only [go_sem, reduceIte, reduceCtorEq, Nat.reduceEqDiff, Nat.reduceAdd, Nat.reduceMul, Nat.reduceSub, Nat.reduceLeDiff, Nat.reduceLT, Nat.reduceBEq, Int.reduceToNat, Int.reduceEq, Int.reduceLT, Int.reduceLE, Int.reduceAdd, Int.reduceSub, Int.reduceMul, Int.reduceNeg, s_ref21_May, hw, unitV, hp.cell]
  have no : ∀ {Y : Mem}, headB id pl cl sz ax ay gx gy wt = false → some (SV.bool false, Y) = some (SV.bool (mayU id pl cl sz ax ay ph gx gy wt l), Y) := fun h => by simp [mayU, h]
  repeat' ((first | rw [KG_bool] | rw [KC_bool]); split <;> rename_i h <;> (try simp only [Bool.not_eq_true, Bool.not_not, Bool.not_eq_eq_eq_not, Bool.not_true, Bool.not_false] at h) <;> simp (maxDischargeDepth := 8) only [go_sem, reduceIte, reduceCtorEq, Nat.reduceEqDiff, Nat.reduceAdd, Nat.reduceMul, Nat.reduceSub, Nat.reduceLeDiff, Nat.reduceLT, Nat.reduceBEq, Int.reduceToNat, Int.reduceEq, Int.reduceLT, Int.reduceLE, Int.reduceAdd, Int.reduceSub, Int.reduceMul, Int.reduceNeg, h, hw, hp.cell, hp.len, nat_beq0, r_ref06_May, r_ref21_cell])
  all_goals (try simp only [decide_eq_true_eq, decide_eq_false_iff_not, Bool.not_eq_true, Bool.not_eq_false, beq_iff_eq, beq_eq_false_iff_ne, ne_eq] at *)
  all_goals (try subst ph)
  all_goals first
    | (refine no ?_; simp only [headB, Bool.and_eq_false_iff, decide_eq_false_iff_not, *]; first | (simp; done) | omega | (simp; omega))
    | skip
  all_goals have hH : headB id pl cl sz ax ay gx gy wt = true := (by clear hp hX no; simp only [headB, Bool.and_eq_true, decide_eq_true_eq, *, and_true, true_and]; omega)
  all_goals simp only [mayU, hH, Bool.true_and]
  all_goals clear no hH
  all_goals first
    | (simp only [phaseB, idleB, stuckB, movingB, *, decide_true, decide_false, Bool.true_and, Bool.false_and, Bool.and_false, if_true, if_false, reduceIte]; simp; done)
    | (simp only [phaseB]; simp_all [idleB, stuckB]; first | done | rfl)
    | (simp only [phaseB]; simp_all [movingB]; omega)
    | skip
  have hpos : 0 < l.length := by omega
  have hle : l.length ≤ 16384 := by omega
  have hR : phaseB ax ay 1 gx gy wt l = (decide (endC (ax, ay) l = (gx, gy)) && wayB (ax, ay) l) := by
    have e : phaseB ax ay 1 gx gy wt l = movingB ax ay gx gy l := rfl
    rw [e, movingB, decide_eq_true hpos, decide_eq_true hle]
    rfl
  rw [hR]
  rw [KL_keep _ _ _ (by simp (maxDischargeDepth := 8) only [go_sem, reduceIte, reduceCtorEq, Nat.reduceEqDiff, Nat.reduceAdd, Nat.reduceMul, Nat.reduceSub, Nat.reduceLeDiff, Nat.reduceLT, Nat.reduceBEq, Int.reduceToNat, Int.reduceEq, Int.reduceLT, Int.reduceLE, Int.reduceAdd, Int.reduceSub, Int.reduceMul, Int.reduceNeg])]
  simp (maxDischargeDepth := 8) only [go_sem, reduceIte, reduceCtorEq, Nat.reduceEqDiff, Nat.reduceAdd, Nat.reduceMul, Nat.reduceSub, Nat.reduceLeDiff, Nat.reduceLT, Nat.reduceBEq, Int.reduceToNat, Int.reduceEq, Int.reduceLT, Int.reduceLE, Int.reduceAdd, Int.reduceSub, Int.reduceMul, Int.reduceNeg]
  refine KL_indE (α := Nat × Int × Int) (fun s => l.length - s.1) (fun s => [(1, .ptr (.st X.dep 0) 0), (3, .ptr (.st X.dep 1) 0), (4, .int .i64 (s.1 : Int))])
    (fun s => X.fr [.cells true [.int .i64 id, .int .i64 pl, .int .i64 cl, .int .i64 sz, .int .i64 ax, .int .i64 ay, .int .i64 1, .int .i64 gx, .int .i64 gy, p, .int .i64 wt], .cells true [.int .i64 s.2.1, .int .i64 s.2.2]] none)
    (fun s => s.1 ≤ l.length ∧ wayB s.2 (l.drop s.1) = wayB (ax, ay) l ∧ endC s.2 (l.drop s.1) = endC (ax, ay) l) ?_ (0, ax, ay) ⟨Nat.zero_le _, rfl, rfl⟩
  rintro ⟨i, a⟩ ⟨hi, hwy, hen⟩ ih
  dsimp only at hi hwy hen ⊢
  simp (maxDischargeDepth := 8) only [go_sem, reduceIte, reduceCtorEq, Nat.reduceEqDiff, Nat.reduceAdd, Nat.reduceMul, Nat.reduceSub, Nat.reduceLeDiff, Nat.reduceLT, Nat.reduceBEq, Int.reduceToNat, Int.reduceEq, Int.reduceLT, Int.reduceLE, Int.reduceAdd, Int.reduceSub, Int.reduceMul, Int.reduceNeg, hw, hp.len]
  by_cases hlt : i < l.length
  · have hel : l[i]? = some l[i] := List.getElem?_eq_getElem hlt
    generalize l[i] = c at hel
    have hdr : l.drop i = c :: l.drop (i + 1) := by
      rw [List.drop_eq_getElem_cons hlt]
      congr 1
      exact Option.some.inj ((List.getElem?_eq_getElem hlt).symm.trans hel)
    rw [hdr, wayB] at hwy
    rw [hdr, endC] at hen
    have hw2 : IntKind.wrap .i64 ((i : Int) + 1) = ((i + 1 : Nat) : Int) := by rw [wrap_small (by omega) (by omega)]; rfl
    simp (maxDischargeDepth := 8) only [go_sem, reduceIte, reduceCtorEq, Nat.reduceEqDiff, Nat.reduceAdd, Nat.reduceMul, Nat.reduceSub, Nat.reduceLeDiff, Nat.reduceLT, Nat.reduceBEq, Int.reduceToNat, Int.reduceEq, Int.reduceLT, Int.reduceLE, Int.reduceAdd, Int.reduceSub, Int.reduceMul, Int.reduceNeg, show decide ((i : Int) < (l.length : Int)) = true from decide_eq_true (by omega), hw, hp.iaddrC hlt, hp.loadC hel, hX, r_ref21_cell]
    cases h1 : cellB c.1 c.2 with
    | false =>
      simp (maxDischargeDepth := 8) only [go_sem, reduceIte, reduceCtorEq, Nat.reduceEqDiff, Nat.reduceAdd, Nat.reduceMul, Nat.reduceSub, Nat.reduceLeDiff, Nat.reduceLT, Nat.reduceBEq, Int.reduceToNat, Int.reduceEq, Int.reduceLT, Int.reduceLE, Int.reduceAdd, Int.reduceSub, Int.reduceMul, Int.reduceNeg]
      rw [← hwy, h1]
      simp
    | true =>
      simp (maxDischargeDepth := 8) only [go_sem, reduceIte, reduceCtorEq, Nat.reduceEqDiff, Nat.reduceAdd, Nat.reduceMul, Nat.reduceSub, Nat.reduceLeDiff, Nat.reduceLT, Nat.reduceBEq, Int.reduceToNat, Int.reduceEq, Int.reduceLT, Int.reduceLE, Int.reduceAdd, Int.reduceSub, Int.reduceMul, Int.reduceNeg, hw, r_ref03_Dir, hp.iaddrC hlt, hp.loadC hel, hX]
      cases h2 : decide (dirR a.1 a.2 c.1 c.2 8 < 0) with
      | true =>
        simp (maxDischargeDepth := 8) only [go_sem, reduceIte, reduceCtorEq, Nat.reduceEqDiff, Nat.reduceAdd, Nat.reduceMul, Nat.reduceSub, Nat.reduceLeDiff, Nat.reduceLT, Nat.reduceBEq, Int.reduceToNat, Int.reduceEq, Int.reduceLT, Int.reduceLE, Int.reduceAdd, Int.reduceSub, Int.reduceMul, Int.reduceNeg]
        rw [← hwy, h1, decide_eq_false (show ¬ 0 ≤ dirR a.1 a.2 c.1 c.2 8 by simp at h2; omega)]
        simp
      | false =>
        simp (maxDischargeDepth := 8) only [go_sem, reduceIte, reduceCtorEq, Nat.reduceEqDiff, Nat.reduceAdd, Nat.reduceMul, Nat.reduceSub, Nat.reduceLeDiff, Nat.reduceLT, Nat.reduceBEq, Int.reduceToNat, Int.reduceEq, Int.reduceLT, Int.reduceLE, Int.reduceAdd, Int.reduceSub, Int.reduceMul, Int.reduceNeg, hw, hw2, hp.iaddrC hlt, hp.loadC hel, hX]
        rw [KL_keep _ _ _ (by simp (maxDischargeDepth := 8) only [go_sem, reduceIte, reduceCtorEq, Nat.reduceEqDiff, Nat.reduceAdd, Nat.reduceMul, Nat.reduceSub, Nat.reduceLeDiff, Nat.reduceLT, Nat.reduceBEq, Int.reduceToNat, Int.reduceEq, Int.reduceLT, Int.reduceLE, Int.reduceAdd, Int.reduceSub, Int.reduceMul, Int.reduceNeg])]
        simp (maxDischargeDepth := 8) only [go_sem, reduceIte, reduceCtorEq, Nat.reduceEqDiff, Nat.reduceAdd, Nat.reduceMul, Nat.reduceSub, Nat.reduceLeDiff, Nat.reduceLT, Nat.reduceBEq, Int.reduceToNat, Int.reduceEq, Int.reduceLT, Int.reduceLE, Int.reduceAdd, Int.reduceSub, Int.reduceMul, Int.reduceNeg]
        refine ih (i + 1, c) ⟨by omega, ?_, hen⟩ (by dsimp only; omega)
        rw [← hwy, h1, decide_eq_true (show 0 ≤ dirR a.1 a.2 c.1 c.2 8 by simp at h2; omega)]
        rfl
  · obtain rfl : i = l.length := by omega
    rw [List.drop_length] at hwy hen
    simp (maxDischargeDepth := 8) only [go_sem, reduceIte, reduceCtorEq, Nat.reduceEqDiff, Nat.reduceAdd, Nat.reduceMul, Nat.reduceSub, Nat.reduceLeDiff, Nat.reduceLT, Nat.reduceBEq, Int.reduceToNat, Int.reduceEq, Int.reduceLT, Int.reduceLE, Int.reduceAdd, Int.reduceSub, Int.reduceMul, Int.reduceNeg, show decide (((l.length : Nat) : Int) < (l.length : Int)) = false from decide_eq_false (by omega), hw]
    rw [← hwy, ← hen]
    simp only [wayB, endC, Bool.and_true]
    congr 3
    rw [Bool.eq_iff_iff]
    simp [Prod.ext_iff]
theorem r_ref21_errno (m : Mem) (b : Bool) : RF tb f_ref21_errno [.bool b] m = some (.int .i64 (errI b), m) := by
  rw [RF_go t_ref21_errno _ _ rfl]
  simp (maxDischargeDepth := 8) only [go_sem, reduceIte, reduceCtorEq, Nat.reduceEqDiff, Nat.reduceAdd, Nat.reduceMul, Nat.reduceSub, Nat.reduceLeDiff, Nat.reduceLT, Nat.reduceBEq, Int.reduceToNat, Int.reduceEq, Int.reduceLT, Int.reduceLE, Int.reduceAdd, Int.reduceSub, Int.reduceMul, Int.reduceNeg, s_ref21_errno]
  cases b <;> simp (maxDischargeDepth := 8) only [go_sem, reduceIte, reduceCtorEq, Nat.reduceEqDiff, Nat.reduceAdd, Nat.reduceMul, Nat.reduceSub, Nat.reduceLeDiff, Nat.reduceLT, Nat.reduceBEq, Int.reduceToNat, Int.reduceEq, Int.reduceLT, Int.reduceLE, Int.reduceAdd, Int.reduceSub, Int.reduceMul, Int.reduceNeg, errI_t, errI_f]
theorem r_ref21_Check {m : Mem} {p : SV} {l : List (Int × Int)} (hp : LiesD cellF m p l) (hb : 2 * l.length * 16 ≤ two48) {X : Mem} (hX : HpSub m X) (hw : X.Wf) (id pl cl sz ax ay ph gx gy wt : Int) : RF tb f_ref21_Check [unitV id pl cl sz ax ay ph gx gy p wt] X = some (.int .i64 (errI (mayU id pl cl sz ax ay ph gx gy wt l)), X) := by
  rw [RF_go t_ref21_Check _ _ rfl]
  simp (maxDischargeDepth := 8) only [go_sem, reduceIte, reduceCtorEq, Nat.reduceEqDiff, Nat.reduceAdd, Nat.reduceMul, Nat.reduceSub, Nat.reduceLeDiff, Nat.reduceLT, Nat.reduceBEq, Int.reduceToNat, Int.reduceEq, Int.reduceLT, Int.reduceLE, Int.reduceAdd, Int.reduceSub, Int.reduceMul, Int.reduceNeg, s_ref21_Check, hw, unitV, hp.cell, r_ref21_May hp hb, hX, r_ref21_errno]
theorem r_unit_goes {m : Mem} {p : SV} {l : List (Int × Int)} (hp : LiesD cellF m p l) (hb : 2 * l.length * 16 ≤ two48) {X : Mem} (hX : HpSub m X) (hw : X.Wf) (id pl cl sz ax ay ph gx gy wt : Int) : RF tb f_unit_goes [unitV id pl cl sz ax ay ph gx gy p wt] X = some (.bool (decide (ph = 1) && mayU id pl cl sz ax ay ph gx gy wt l), X) := by
  rw [RF_go t_unit_goes _ _ rfl]
  simp (maxDischargeDepth := 8) only [go_sem, reduceIte, reduceCtorEq, Nat.reduceEqDiff, Nat.reduceAdd, Nat.reduceMul, Nat.reduceSub, Nat.reduceLeDiff, Nat.reduceLT, Nat.reduceBEq, Int.reduceToNat, Int.reduceEq, Int.reduceLT, Int.reduceLE, Int.reduceAdd, Int.reduceSub, Int.reduceMul, Int.reduceNeg, s_unit_goes, hw, unitV, hp.cell, r_unit_Check hp hb, hX]
  repeat' ((first | rw [KG_bool] | rw [KC_bool]); split <;> rename_i h <;> (try simp only [Bool.not_eq_true, Bool.not_not, Bool.not_eq_eq_eq_not, Bool.not_true, Bool.not_false] at h) <;> simp (maxDischargeDepth := 8) only [go_sem, reduceIte, reduceCtorEq, Nat.reduceEqDiff, Nat.reduceAdd, Nat.reduceMul, Nat.reduceSub, Nat.reduceLeDiff, Nat.reduceLT, Nat.reduceBEq, Int.reduceToNat, Int.reduceEq, Int.reduceLT, Int.reduceLE, Int.reduceAdd, Int.reduceSub, Int.reduceMul, Int.reduceNeg, h, hw, hp.cell, r_unit_Check hp hb, hX])
  all_goals simp_all
  cases mayU id pl cl sz ax ay 1 gx gy wt l <;> rfl
/-- Where one goes next. -/
def nextB (ph : Int) (l : List (Int × Int)) : Bool := decide (ph = 1) && decide (0 < l.length)
def nextC (ph : Int) (l : List (Int × Int)) : Int × Int := if nextB ph l then l.headD (0, 0) else (0, 0)
theorem r_unit_Next {m : Mem} {p : SV} {l : List (Int × Int)} (hp : LiesD cellF m p l) {X : Mem} (hX : HpSub m X) (hw : X.Wf) (id pl cl sz ax ay ph gx gy wt : Int) : RF tb f_unit_Next [unitV id pl cl sz ax ay ph gx gy p wt] X = some (.tup [.agg [.int .i64 (nextC ph l).1, .int .i64 (nextC ph l).2], .bool (nextB ph l)], X) := by
  rw [RF_go t_unit_Next _ _ rfl]
  simp (maxDischargeDepth := 8) only [go_sem, reduceIte, reduceCtorEq, Nat.reduceEqDiff, Nat.reduceAdd, Nat.reduceMul, Nat.reduceSub, Nat.reduceLeDiff, Nat.reduceLT, Nat.reduceBEq, Int.reduceToNat, Int.reduceEq, Int.reduceLT, Int.reduceLE, Int.reduceAdd, Int.reduceSub, Int.reduceMul, Int.reduceNeg, s_unit_Next, hw, unitV, hp.cell]
  cases l with
  | nil =>
    repeat' ((first | rw [KG_bool] | rw [KC_bool]); split <;> rename_i h <;> (try simp only [Bool.not_eq_true, Bool.not_not, Bool.not_eq_eq_eq_not, Bool.not_true, Bool.not_false] at h) <;> simp (maxDischargeDepth := 8) only [go_sem, reduceIte, reduceCtorEq, Nat.reduceEqDiff, Nat.reduceAdd, Nat.reduceMul, Nat.reduceSub, Nat.reduceLeDiff, Nat.reduceLT, Nat.reduceBEq, Int.reduceToNat, Int.reduceEq, Int.reduceLT, Int.reduceLE, Int.reduceAdd, Int.reduceSub, Int.reduceMul, Int.reduceNeg, h, hw, hp.cell, hp.len])
    all_goals simp_all [nextC, nextB]
  | cons c r =>
    repeat' ((first | rw [KG_bool] | rw [KC_bool]); split <;> rename_i h <;> (try simp only [Bool.not_eq_true, Bool.not_not, Bool.not_eq_eq_eq_not, Bool.not_true, Bool.not_false] at h) <;> simp (maxDischargeDepth := 8) only [go_sem, reduceIte, reduceCtorEq, Nat.reduceEqDiff, Nat.reduceAdd, Nat.reduceMul, Nat.reduceSub, Nat.reduceLeDiff, Nat.reduceLT, Nat.reduceBEq, Int.reduceToNat, Int.reduceEq, Int.reduceLT, Int.reduceLE, Int.reduceAdd, Int.reduceSub, Int.reduceMul, Int.reduceNeg, h, hw, hp.cell, hp.len, hp.iaddrC0 (by simp), hp.loadC0 (a := c) rfl, hX])
    all_goals simp_all [nextC, nextB]
    all_goals omega
theorem r_ref21_Next {m : Mem} {p : SV} {l : List (Int × Int)} (hp : LiesD cellF m p l) {X : Mem} (hX : HpSub m X) (hw : X.Wf) (id pl cl sz ax ay ph gx gy wt : Int) : RF tb f_ref21_Next [unitV id pl cl sz ax ay ph gx gy p wt] X = some (.tup [.agg [.int .i64 (nextC ph l).1, .int .i64 (nextC ph l).2], .bool (nextB ph l)], X) := by
  rw [RF_go t_ref21_Next _ _ rfl]
  simp (maxDischargeDepth := 8) only [go_sem, reduceIte, reduceCtorEq, Nat.reduceEqDiff, Nat.reduceAdd, Nat.reduceMul, Nat.reduceSub, Nat.reduceLeDiff, Nat.reduceLT, Nat.reduceBEq, Int.reduceToNat, Int.reduceEq, Int.reduceLT, Int.reduceLE, Int.reduceAdd, Int.reduceSub, Int.reduceMul, Int.reduceNeg, s_ref21_Next, hw, unitV, hp.cell]
  cases l with
  | nil =>
    repeat' ((first | rw [KG_bool] | rw [KC_bool]); split <;> rename_i h <;> (try simp only [Bool.not_eq_true, Bool.not_not, Bool.not_eq_eq_eq_not, Bool.not_true, Bool.not_false] at h) <;> simp (maxDischargeDepth := 8) only [go_sem, reduceIte, reduceCtorEq, Nat.reduceEqDiff, Nat.reduceAdd, Nat.reduceMul, Nat.reduceSub, Nat.reduceLeDiff, Nat.reduceLT, Nat.reduceBEq, Int.reduceToNat, Int.reduceEq, Int.reduceLT, Int.reduceLE, Int.reduceAdd, Int.reduceSub, Int.reduceMul, Int.reduceNeg, h, hw, hp.cell, hp.len])
    all_goals simp_all [nextC, nextB]
  | cons c r =>
    repeat' ((first | rw [KG_bool] | rw [KC_bool]); split <;> rename_i h <;> (try simp only [Bool.not_eq_true, Bool.not_not, Bool.not_eq_eq_eq_not, Bool.not_true, Bool.not_false] at h) <;> simp (maxDischargeDepth := 8) only [go_sem, reduceIte, reduceCtorEq, Nat.reduceEqDiff, Nat.reduceAdd, Nat.reduceMul, Nat.reduceSub, Nat.reduceLeDiff, Nat.reduceLT, Nat.reduceBEq, Int.reduceToNat, Int.reduceEq, Int.reduceLT, Int.reduceLE, Int.reduceAdd, Int.reduceSub, Int.reduceMul, Int.reduceNeg, h, hw, hp.cell, hp.len, hp.iaddrC0 (by simp), hp.loadC0 (a := c) rfl, hX])
    all_goals simp_all [nextC, nextB]
    all_goals omega
end Go.Sh.T
