import Derived.Test.YtnogldcjbkiboaaShWD1
set_option linter.all false
set_option linter.unusedVariables false
set_option linter.unusedSimpArgs false
set_option autoImplicit false
namespace Go.Sh.T
open Go.Sh
set_option maxHeartbeats 4000000
set_option maxRecDepth 20000
def cellB (x y : Int) : Bool := decide (0 ≤ x) && decide (x < 128) && (decide (0 ≤ y) && decide (y < 128))
theorem has_board (x y : Int) : hasB 0 0 128 128 x y = cellB x y := by
  have h1 : mayB 0 0 128 128 = true := by decide
  have h2 : lastX 0 128 = 127 := by decide
  simp only [hasB, h1, h2, cellB, Bool.true_and]
  rw [Bool.eq_iff_iff]
  simp only [Bool.and_eq_true, decide_eq_true_eq]
  omega
theorem r_unit_inside (m : Mem) (hm : m.Wf) (x y : Int) : RF tb f_unit_inside [.agg [.int .i64 x, .int .i64 y]] m = some (.bool (cellB x y), m) := by
  rw [RF_go t_unit_inside _ _ rfl]
  simp (maxDischargeDepth := 8) only [go_sem, reduceIte, reduceCtorEq, Nat.reduceEqDiff, Nat.reduceAdd, Nat.reduceMul, Nat.reduceSub, Nat.reduceLeDiff, Nat.reduceLT, Nat.reduceBEq, Int.reduceToNat, Int.reduceEq, Int.reduceLT, Int.reduceLE, Int.reduceAdd, Int.reduceSub, Int.reduceMul, Int.reduceNeg, s_unit_inside, hm, r_cell_Has, has_board]
theorem r_ref21_cell (m : Mem) (hm : m.Wf) (x y : Int) : RF tb f_ref21_cell [.agg [.int .i64 x, .int .i64 y]] m = some (.bool (cellB x y), m) := by
  rw [RF_go t_ref21_cell _ _ rfl]
  simp (maxDischargeDepth := 8) only [go_sem, reduceIte, reduceCtorEq, Nat.reduceEqDiff, Nat.reduceAdd, Nat.reduceMul, Nat.reduceSub, Nat.reduceLeDiff, Nat.reduceLT, Nat.reduceBEq, Int.reduceToNat, Int.reduceEq, Int.reduceLT, Int.reduceLE, Int.reduceAdd, Int.reduceSub, Int.reduceMul, Int.reduceNeg, s_ref21_cell, hm]
  repeat' ((first | rw [KG_bool] | rw [KC_bool]); split <;> rename_i h <;> (try simp only [Bool.not_eq_true, Bool.not_not, Bool.not_eq_eq_eq_not, Bool.not_true, Bool.not_false] at h) <;> simp (maxDischargeDepth := 8) only [go_sem, reduceIte, reduceCtorEq, Nat.reduceEqDiff, Nat.reduceAdd, Nat.reduceMul, Nat.reduceSub, Nat.reduceLeDiff, Nat.reduceLT, Nat.reduceBEq, Int.reduceToNat, Int.reduceEq, Int.reduceLT, Int.reduceLE, Int.reduceAdd, Int.reduceSub, Int.reduceMul, Int.reduceNeg, h, hm])
  all_goals simp_all [cellB]
  all_goals omega
abbrev unitV (id pl cl sz ax ay ph gx gy : Int) (p : SV) (wt : Int) : SV := .agg [.int .i64 id, .int .i64 pl, .int .i64 cl, .int .i64 sz, .int .i64 ax, .int .i64 ay, .int .i64 ph, .int .i64 gx, .int .i64 gy, p, .int .i64 wt]
def stuckB (n : Nat) (wt : Int) : Bool := decide (n = 0) && decide (wt = 0)
theorem r_unit_stuck {m : Mem} {p : SV} {l : List (Int × Int)} (hp : LiesD cellF m p l) {X : Mem} (hw : X.Wf) (id pl cl sz ax ay ph gx gy wt : Int) : RF tb f_unit_stuck [unitV id pl cl sz ax ay ph gx gy p wt] X = some (.bool (stuckB l.length wt), X) := by
  rw [RF_go t_unit_stuck _ _ rfl]
  simp (maxDischargeDepth := 8) only [go_sem, reduceIte, reduceCtorEq, Nat.reduceEqDiff, Nat.reduceAdd, Nat.reduceMul, Nat.reduceSub, Nat.reduceLeDiff, Nat.reduceLT, Nat.reduceBEq, Int.reduceToNat, Int.reduceEq, Int.reduceLT, Int.reduceLE, Int.reduceAdd, Int.reduceSub, Int.reduceMul, Int.reduceNeg, s_unit_stuck, hw, unitV, hp.cell, hp.len, nat_beq0]
  repeat' ((first | rw [KG_bool] | rw [KC_bool]); split <;> rename_i h <;> (try simp only [Bool.not_eq_true, Bool.not_not, Bool.not_eq_eq_eq_not, Bool.not_true, Bool.not_false] at h) <;> simp (maxDischargeDepth := 8) only [go_sem, reduceIte, reduceCtorEq, Nat.reduceEqDiff, Nat.reduceAdd, Nat.reduceMul, Nat.reduceSub, Nat.reduceLeDiff, Nat.reduceLT, Nat.reduceBEq, Int.reduceToNat, Int.reduceEq, Int.reduceLT, Int.reduceLE, Int.reduceAdd, Int.reduceSub, Int.reduceMul, Int.reduceNeg, h, hw, hp.len])
  all_goals simp_all [stuckB]
  all_goals rfl
def idleB (n : Nat) (gx gy wt : Int) : Bool := stuckB n wt && (decide (gx = 0) && decide (gy = 0))
theorem r_unit_idle {m : Mem} {p : SV} {l : List (Int × Int)} (hp : LiesD cellF m p l) {X : Mem} (hw : X.Wf) (id pl cl sz ax ay ph gx gy wt : Int) : RF tb f_unit_idle [unitV id pl cl sz ax ay ph gx gy p wt] X = some (.bool (idleB l.length gx gy wt), X) := by
  rw [RF_go t_unit_idle _ _ rfl]
  simp (maxDischargeDepth := 8) only [go_sem, reduceIte, reduceCtorEq, Nat.reduceEqDiff, Nat.reduceAdd, Nat.reduceMul, Nat.reduceSub, Nat.reduceLeDiff, Nat.reduceLT, Nat.reduceBEq, Int.reduceToNat, Int.reduceEq, Int.reduceLT, Int.reduceLE, Int.reduceAdd, Int.reduceSub, Int.reduceMul, Int.reduceNeg, s_unit_idle, hw, unitV, hp.cell, r_unit_stuck hp]
  repeat' ((first | rw [KG_bool] | rw [KC_bool]); split <;> rename_i h <;> (try simp only [Bool.not_eq_true, Bool.not_not, Bool.not_eq_eq_eq_not, Bool.not_true, Bool.not_false] at h) <;> simp (maxDischargeDepth := 8) only [go_sem, reduceIte, reduceCtorEq, Nat.reduceEqDiff, Nat.reduceAdd, Nat.reduceMul, Nat.reduceSub, Nat.reduceLeDiff, Nat.reduceLT, Nat.reduceBEq, Int.reduceToNat, Int.reduceEq, Int.reduceLT, Int.reduceLE, Int.reduceAdd, Int.reduceSub, Int.reduceMul, Int.reduceNeg, h, hw, r_unit_stuck hp])
  all_goals simp_all [idleB]
  all_goals rfl
/-- The rest of a way. -/
def wayB (a : Int × Int) : List (Int × Int) → Bool
  | [] => true
  | c :: r => cellB c.1 c.2 && decide (0 ≤ dirR a.1 a.2 c.1 c.2 8) && wayB c r
def endC (a : Int × Int) : List (Int × Int) → Int × Int
  | [] => a
  | c :: r => endC c r
def movingB (ax ay gx gy : Int) (l : List (Int × Int)) : Bool := decide (0 < l.length) && decide (l.length ≤ 16384) && decide (endC (ax, ay) l = (gx, gy)) && wayB (ax, ay) l
theorem endC_last : ∀ (l : List (Int × Int)) (a : Int × Int), l ≠ [] → l[l.length - 1]? = some (endC a l)
  | [c], a, _ => rfl
  | c :: d :: r, a, _ => by
    have := endC_last (d :: r) c (by simp)
    simpa [endC] using this
theorem r_unit_moving {m : Mem} {p : SV} {l : List (Int × Int)} (hp : LiesD cellF m p l) (hb : 2 * l.length * 16 ≤ two48) {X : Mem} (hX : HpSub m X) (hw : X.Wf) (id pl cl sz ax ay ph gx gy wt : Int) : RF tb f_unit_moving [unitV id pl cl sz ax ay ph gx gy p wt] X = some (.bool (movingB ax ay gx gy l), X) := by
  rw [RF_go t_unit_moving _ _ rfl]
  simp (maxDischargeDepth := 8) only [go_sem, reduceIte, reduceCtorEq, Nat.reduceEqDiff, Nat.reduceAdd, Nat.reduceMul, Nat.reduceSub, Nat.reduceLeDiff, Nat.reduceLT, Nat.reduceBEq, Int.reduceToNat, Int.reduceEq, Int.reduceLT, Int.reduceLE, Int.reduceAdd, Int.reduceSub, Int.reduceMul, Int.reduceNeg, s_unit_moving, hw, unitV, hp.cell, hp.len]
  by_cases hz : l.length = 0
  · simp (maxDischargeDepth := 8) only [go_sem, reduceIte, reduceCtorEq, Nat.reduceEqDiff, Nat.reduceAdd, Nat.reduceMul, Nat.reduceSub, Nat.reduceLeDiff, Nat.reduceLT, Nat.reduceBEq, Int.reduceToNat, Int.reduceEq, Int.reduceLT, Int.reduceLE, Int.reduceAdd, Int.reduceSub, Int.reduceMul, Int.reduceNeg, nat_beq0, decide_eq_true hz]
    simp [movingB, hz]
  · have hw1 : IntKind.wrap .i64 ((l.length : Int) - 1) = ((l.length - 1 : Nat) : Int) := by rw [wrap_small (by omega) (by simp only [two48] at hb; omega)]; omega
    have hlast := endC_last l (ax, ay) (by intro h; simp [h] at hz)
    simp (maxDischargeDepth := 8) only [go_sem, reduceIte, reduceCtorEq, Nat.reduceEqDiff, Nat.reduceAdd, Nat.reduceMul, Nat.reduceSub, Nat.reduceLeDiff, Nat.reduceLT, Nat.reduceBEq, Int.reduceToNat, Int.reduceEq, Int.reduceLT, Int.reduceLE, Int.reduceAdd, Int.reduceSub, Int.reduceMul, Int.reduceNeg, nat_beq0, decide_eq_false hz, hw, hp.len]
    by_cases hlen : l.length ≤ 16384
    · simp (maxDischargeDepth := 8) only [go_sem, reduceIte, reduceCtorEq, Nat.reduceEqDiff, Nat.reduceAdd, Nat.reduceMul, Nat.reduceSub, Nat.reduceLeDiff, Nat.reduceLT, Nat.reduceBEq, Int.reduceToNat, Int.reduceEq, Int.reduceLT, Int.reduceLE, Int.reduceAdd, Int.reduceSub, Int.reduceMul, Int.reduceNeg, show decide ((l.length : Int) > 16384) = false from decide_eq_false (by omega), hw, hp.cell, hp.len, hw1, hp.iaddrC (show l.length - 1 < l.length by omega), hp.loadC hlast, hX]
      have hend : ((endC (ax, ay) l).fst == gx && (endC (ax, ay) l).snd == gy) = decide (endC (ax, ay) l = (gx, gy)) := by
        rw [Bool.eq_iff_iff]; simp [Prod.ext_iff]
      rw [hend]
      by_cases he : endC (ax, ay) l = (gx, gy)
      · simp (maxDischargeDepth := 8) only [go_sem, reduceIte, reduceCtorEq, Nat.reduceEqDiff, Nat.reduceAdd, Nat.reduceMul, Nat.reduceSub, Nat.reduceLeDiff, Nat.reduceLT, Nat.reduceBEq, Int.reduceToNat, Int.reduceEq, Int.reduceLT, Int.reduceLE, Int.reduceAdd, Int.reduceSub, Int.reduceMul, Int.reduceNeg, decide_eq_true he, hw, hp.len]
        rw [KL_keep _ _ _ (by simp (maxDischargeDepth := 8) only [go_sem, reduceIte, reduceCtorEq, Nat.reduceEqDiff, Nat.reduceAdd, Nat.reduceMul, Nat.reduceSub, Nat.reduceLeDiff, Nat.reduceLT, Nat.reduceBEq, Int.reduceToNat, Int.reduceEq, Int.reduceLT, Int.reduceLE, Int.reduceAdd, Int.reduceSub, Int.reduceMul, Int.reduceNeg, hp.lv])]
        simp (maxDischargeDepth := 8) only [go_sem, reduceIte, reduceCtorEq, Nat.reduceEqDiff, Nat.reduceAdd, Nat.reduceMul, Nat.reduceSub, Nat.reduceLeDiff, Nat.reduceLT, Nat.reduceBEq, Int.reduceToNat, Int.reduceEq, Int.reduceLT, Int.reduceLE, Int.reduceAdd, Int.reduceSub, Int.reduceMul, Int.reduceNeg]
        have hR : movingB ax ay gx gy l = wayB (ax, ay) l := by simp [movingB, he, hlen]; omega
        rw [hR]
        refine KL_indE (α := Nat × Int × Int) (fun s => l.length - s.1) (fun s => [(3, .ptr (.st X.dep 1) 0), (32, p), (33, .int .i64 (l.length : Nat)), (34, .int .i64 (s.1 : Int))])
          (fun s => X.fr [.cells true [.int .i64 id, .int .i64 pl, .int .i64 cl, .int .i64 sz, .int .i64 ax, .int .i64 ay, .int .i64 ph, .int .i64 gx, .int .i64 gy, p, .int .i64 wt], .cells true [.int .i64 s.2.1, .int .i64 s.2.2]] none)
          (fun s => s.1 ≤ l.length ∧ wayB s.2 (l.drop s.1) = wayB (ax, ay) l) ?_ (0, ax, ay) ⟨Nat.zero_le _, rfl⟩
        rintro ⟨i, a⟩ ⟨hi, hwy⟩ ih
        dsimp only at hi hwy ⊢
        simp (maxDischargeDepth := 8) only [go_sem, reduceIte, reduceCtorEq, Nat.reduceEqDiff, Nat.reduceAdd, Nat.reduceMul, Nat.reduceSub, Nat.reduceLeDiff, Nat.reduceLT, Nat.reduceBEq, Int.reduceToNat, Int.reduceEq, Int.reduceLT, Int.reduceLE, Int.reduceAdd, Int.reduceSub, Int.reduceMul, Int.reduceNeg, hp.lv]
        by_cases hlt : i < l.length
        · have hel : l[i]? = some l[i] := List.getElem?_eq_getElem hlt
          generalize l[i] = c at hel
          have hdr : l.drop i = c :: l.drop (i + 1) := by
            rw [List.drop_eq_getElem_cons hlt]
            congr 1
            exact Option.some.inj ((List.getElem?_eq_getElem hlt).symm.trans hel)
          rw [hdr, wayB] at hwy
          have hw2 : IntKind.wrap .i64 ((i : Int) + 1) = ((i + 1 : Nat) : Int) := by rw [wrap_small (by omega) (by omega)]; rfl
          simp (maxDischargeDepth := 8) only [go_sem, reduceIte, reduceCtorEq, Nat.reduceEqDiff, Nat.reduceAdd, Nat.reduceMul, Nat.reduceSub, Nat.reduceLeDiff, Nat.reduceLT, Nat.reduceBEq, Int.reduceToNat, Int.reduceEq, Int.reduceLT, Int.reduceLE, Int.reduceAdd, Int.reduceSub, Int.reduceMul, Int.reduceNeg, show decide ((i : Int) < (l.length : Int)) = true from decide_eq_true (by omega), hw, hp.iaddrC hlt, hp.loadC hel, hX, r_unit_inside]
          cases h1 : cellB c.1 c.2 with
          | false =>
            simp (maxDischargeDepth := 8) only [go_sem, reduceIte, reduceCtorEq, Nat.reduceEqDiff, Nat.reduceAdd, Nat.reduceMul, Nat.reduceSub, Nat.reduceLeDiff, Nat.reduceLT, Nat.reduceBEq, Int.reduceToNat, Int.reduceEq, Int.reduceLT, Int.reduceLE, Int.reduceAdd, Int.reduceSub, Int.reduceMul, Int.reduceNeg]
            rw [← hwy, h1]
            rfl
          | true =>
            simp (maxDischargeDepth := 8) only [go_sem, reduceIte, reduceCtorEq, Nat.reduceEqDiff, Nat.reduceAdd, Nat.reduceMul, Nat.reduceSub, Nat.reduceLeDiff, Nat.reduceLT, Nat.reduceBEq, Int.reduceToNat, Int.reduceEq, Int.reduceLT, Int.reduceLE, Int.reduceAdd, Int.reduceSub, Int.reduceMul, Int.reduceNeg, hw, r_cell_Dir]
            cases h2 : decide (dirR a.1 a.2 c.1 c.2 8 < 0) with
            | true =>
              simp (maxDischargeDepth := 8) only [go_sem, reduceIte, reduceCtorEq, Nat.reduceEqDiff, Nat.reduceAdd, Nat.reduceMul, Nat.reduceSub, Nat.reduceLeDiff, Nat.reduceLT, Nat.reduceBEq, Int.reduceToNat, Int.reduceEq, Int.reduceLT, Int.reduceLE, Int.reduceAdd, Int.reduceSub, Int.reduceMul, Int.reduceNeg]
              rw [← hwy, h1, decide_eq_false (show ¬ 0 ≤ dirR a.1 a.2 c.1 c.2 8 by simp at h2; omega)]
              rfl
            | false =>
              simp (maxDischargeDepth := 8) only [go_sem, reduceIte, reduceCtorEq, Nat.reduceEqDiff, Nat.reduceAdd, Nat.reduceMul, Nat.reduceSub, Nat.reduceLeDiff, Nat.reduceLT, Nat.reduceBEq, Int.reduceToNat, Int.reduceEq, Int.reduceLT, Int.reduceLE, Int.reduceAdd, Int.reduceSub, Int.reduceMul, Int.reduceNeg, hw, hw2]
              rw [KL_keep _ _ _ (by simp (maxDischargeDepth := 8) only [go_sem, reduceIte, reduceCtorEq, Nat.reduceEqDiff, Nat.reduceAdd, Nat.reduceMul, Nat.reduceSub, Nat.reduceLeDiff, Nat.reduceLT, Nat.reduceBEq, Int.reduceToNat, Int.reduceEq, Int.reduceLT, Int.reduceLE, Int.reduceAdd, Int.reduceSub, Int.reduceMul, Int.reduceNeg, hp.lv])]
              simp (maxDischargeDepth := 8) only [go_sem, reduceIte, reduceCtorEq, Nat.reduceEqDiff, Nat.reduceAdd, Nat.reduceMul, Nat.reduceSub, Nat.reduceLeDiff, Nat.reduceLT, Nat.reduceBEq, Int.reduceToNat, Int.reduceEq, Int.reduceLT, Int.reduceLE, Int.reduceAdd, Int.reduceSub, Int.reduceMul, Int.reduceNeg]
              refine ih (i + 1, c) ⟨by omega, ?_⟩ (by dsimp only; omega)
              rw [← hwy, h1, decide_eq_true (show 0 ≤ dirR a.1 a.2 c.1 c.2 8 by simp at h2; omega)]
              rfl
        · obtain rfl : i = l.length := by omega
          simp (maxDischargeDepth := 8) only [go_sem, reduceIte, reduceCtorEq, Nat.reduceEqDiff, Nat.reduceAdd, Nat.reduceMul, Nat.reduceSub, Nat.reduceLeDiff, Nat.reduceLT, Nat.reduceBEq, Int.reduceToNat, Int.reduceEq, Int.reduceLT, Int.reduceLE, Int.reduceAdd, Int.reduceSub, Int.reduceMul, Int.reduceNeg, show decide (((l.length : Nat) : Int) < (l.length : Int)) = false from decide_eq_false (by omega)]
          rw [← hwy, List.drop_length]
          rfl
      · simp (maxDischargeDepth := 8) only [go_sem, reduceIte, reduceCtorEq, Nat.reduceEqDiff, Nat.reduceAdd, Nat.reduceMul, Nat.reduceSub, Nat.reduceLeDiff, Nat.reduceLT, Nat.reduceBEq, Int.reduceToNat, Int.reduceEq, Int.reduceLT, Int.reduceLE, Int.reduceAdd, Int.reduceSub, Int.reduceMul, Int.reduceNeg, decide_eq_false he]
        simp [movingB, he]
    · simp (maxDischargeDepth := 8) only [go_sem, reduceIte, reduceCtorEq, Nat.reduceEqDiff, Nat.reduceAdd, Nat.reduceMul, Nat.reduceSub, Nat.reduceLeDiff, Nat.reduceLT, Nat.reduceBEq, Int.reduceToNat, Int.reduceEq, Int.reduceLT, Int.reduceLE, Int.reduceAdd, Int.reduceSub, Int.reduceMul, Int.reduceNeg, show decide ((l.length : Int) > 16384) = true from decide_eq_true (by omega)]
      simp [movingB, hlen]
end Go.Sh.T
