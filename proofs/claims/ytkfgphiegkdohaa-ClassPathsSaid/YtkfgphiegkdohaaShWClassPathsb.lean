import Derived.Test.YtkfgphiegkdohaaShWClassPathsa
import Derived.Test.YtkfgphiegkdohaaShArg
set_option linter.all false
set_option linter.unusedVariables false
set_option linter.unusedSimpArgs false
set_option autoImplicit false
namespace Go.Sh.T
open Go.Sh
set_option maxHeartbeats 8000000
set_option maxRecDepth 20000
def mayS (cl sz : Int) : Bool := decide (cl ≥ 0) && decide (cl < 4) && decide (sz ≥ 1) && decide (sz ≤ 4)
def onB (cl t : Int) : Bool := (decide (cl = 0) && (decide (t = 0) || decide (t = 1))) || (decide (cl = 1) && decide (t = 0)) || (decide (cl = 2) && decide (t = 2)) || (decide (cl = 3) && (decide (t = 0) || decide (t = 2)))
theorem r_class_May (X : Mem) (hw : X.Wf) (cl sz : Int) : RF tb f_class_May [.agg [.int .i64 cl, .int .i64 sz]] X = some (.bool (mayS cl sz), X) := by
  rw [RF_go t_class_May _ _ rfl]
  simp (maxDischargeDepth := 8) only [go_sem, reduceIte, reduceCtorEq, Nat.reduceEqDiff, Nat.reduceAdd, Nat.reduceMul, Nat.reduceSub, Nat.reduceLeDiff, Nat.reduceLT, Nat.reduceBEq, Int.reduceToNat, Int.reduceEq, Int.reduceLT, Int.reduceLE, Int.reduceAdd, Int.reduceSub, Int.reduceMul, Int.reduceNeg, s_class_May, hw]
  repeat' ((first | rw [KG_bool] | rw [KC_bool]); split <;> rename_i h <;> (try simp only [Bool.not_eq_true, Bool.not_not, Bool.not_eq_eq_eq_not, Bool.not_true, Bool.not_false] at h) <;> simp (maxDischargeDepth := 8) only [go_sem, reduceIte, reduceCtorEq, Nat.reduceEqDiff, Nat.reduceAdd, Nat.reduceMul, Nat.reduceSub, Nat.reduceLeDiff, Nat.reduceLT, Nat.reduceBEq, Int.reduceToNat, Int.reduceEq, Int.reduceLT, Int.reduceLE, Int.reduceAdd, Int.reduceSub, Int.reduceMul, Int.reduceNeg, h, hw])
  all_goals simp_all [mayS]
  all_goals first | done | (intros; omega)
theorem r_ref06_May (X : Mem) (hw : X.Wf) (cl sz : Int) : RF tb f_ref06_May [.agg [.int .i64 cl, .int .i64 sz]] X = some (.bool (mayS cl sz), X) := by
  rw [RF_go t_ref06_May _ _ rfl]
  simp (maxDischargeDepth := 8) only [go_sem, reduceIte, reduceCtorEq, Nat.reduceEqDiff, Nat.reduceAdd, Nat.reduceMul, Nat.reduceSub, Nat.reduceLeDiff, Nat.reduceLT, Nat.reduceBEq, Int.reduceToNat, Int.reduceEq, Int.reduceLT, Int.reduceLE, Int.reduceAdd, Int.reduceSub, Int.reduceMul, Int.reduceNeg, s_ref06_May, hw]
  repeat' ((first | rw [KG_bool] | rw [KC_bool]); split <;> rename_i h <;> (try simp only [Bool.not_eq_true, Bool.not_not, Bool.not_eq_eq_eq_not, Bool.not_true, Bool.not_false] at h) <;> simp (maxDischargeDepth := 8) only [go_sem, reduceIte, reduceCtorEq, Nat.reduceEqDiff, Nat.reduceAdd, Nat.reduceMul, Nat.reduceSub, Nat.reduceLeDiff, Nat.reduceLT, Nat.reduceBEq, Int.reduceToNat, Int.reduceEq, Int.reduceLT, Int.reduceLE, Int.reduceAdd, Int.reduceSub, Int.reduceMul, Int.reduceNeg, h, hw])
  all_goals simp_all [mayS]
  all_goals first | done | (intros; omega)
theorem r_class_On (X : Mem) (hw : X.Wf) (cl t : Int) : RF tb f_class_On [.int .i64 cl, .int .i64 t] X = some (.bool (onB cl t), X) := by
  rw [RF_go t_class_On _ _ rfl]
  simp (maxDischargeDepth := 8) only [go_sem, reduceIte, reduceCtorEq, Nat.reduceEqDiff, Nat.reduceAdd, Nat.reduceMul, Nat.reduceSub, Nat.reduceLeDiff, Nat.reduceLT, Nat.reduceBEq, Int.reduceToNat, Int.reduceEq, Int.reduceLT, Int.reduceLE, Int.reduceAdd, Int.reduceSub, Int.reduceMul, Int.reduceNeg, s_class_On, hw]
  by_cases hc : 0 ≤ cl ∧ cl < 4 ∧ 0 ≤ t ∧ t < 4
  · have h1 : cl = 0 ∨ cl = 1 ∨ cl = 2 ∨ cl = 3 := by omega
    have h2 : t = 0 ∨ t = 1 ∨ t = 2 ∨ t = 3 := by omega
    rcases h1 with rfl | rfl | rfl | rfl <;> rcases h2 with rfl | rfl | rfl | rfl <;>
      (simp (maxDischargeDepth := 8) only [go_sem, reduceIte, reduceCtorEq, Nat.reduceEqDiff, Nat.reduceAdd, Nat.reduceMul, Nat.reduceSub, Nat.reduceLeDiff, Nat.reduceLT, Nat.reduceBEq, Int.reduceToNat, Int.reduceEq, Int.reduceLT, Int.reduceLE, Int.reduceAdd, Int.reduceSub, Int.reduceMul, Int.reduceNeg, hw, show decide ((0 : Int) ≥ 0) = true from rfl, show decide ((1 : Int) ≥ 0) = true from rfl, show decide ((2 : Int) ≥ 0) = true from rfl, show decide ((3 : Int) ≥ 0) = true from rfl, show decide ((0 : Int) < 4) = true from rfl, show decide ((1 : Int) < 4) = true from rfl, show decide ((2 : Int) < 4) = true from rfl, show decide ((3 : Int) < 4) = true from rfl, show inB 0 4 = true from rfl, show inB 1 4 = true from rfl, show inB 2 4 = true from rfl, show inB 3 4 = true from rfl, ibits]; rfl)
  · have e : onB cl t = false := by
      simp only [onB, Bool.or_eq_false_iff, Bool.and_eq_false_iff, decide_eq_false_iff_not]
      omega
    rw [e]
    repeat' ((first | rw [KG_bool] | rw [KC_bool]); split <;> rename_i h <;> (try simp only [Bool.not_eq_true, Bool.not_not, Bool.not_eq_eq_eq_not, Bool.not_true, Bool.not_false] at h) <;> simp (maxDischargeDepth := 8) only [go_sem, reduceIte, reduceCtorEq, Nat.reduceEqDiff, Nat.reduceAdd, Nat.reduceMul, Nat.reduceSub, Nat.reduceLeDiff, Nat.reduceLT, Nat.reduceBEq, Int.reduceToNat, Int.reduceEq, Int.reduceLT, Int.reduceLE, Int.reduceAdd, Int.reduceSub, Int.reduceMul, Int.reduceNeg, h, hw])
    all_goals first | rfl | (exfalso; simp at *; omega)
theorem r_ref06_On (X : Mem) (hw : X.Wf) (cl t : Int) : RF tb f_ref06_On [.int .i64 cl, .int .i64 t] X = some (.bool (onB cl t), X) := by
  rw [RF_go t_ref06_On _ _ rfl]
  simp (maxDischargeDepth := 8) only [go_sem, reduceIte, reduceCtorEq, Nat.reduceEqDiff, Nat.reduceAdd, Nat.reduceMul, Nat.reduceSub, Nat.reduceLeDiff, Nat.reduceLT, Nat.reduceBEq, Int.reduceToNat, Int.reduceEq, Int.reduceLT, Int.reduceLE, Int.reduceAdd, Int.reduceSub, Int.reduceMul, Int.reduceNeg, s_ref06_On, hw]
  repeat' ((first | rw [KG_bool] | rw [KC_bool]); split <;> rename_i h <;> (try simp only [Bool.not_eq_true, Bool.not_not, Bool.not_eq_eq_eq_not, Bool.not_true, Bool.not_false] at h) <;> simp (maxDischargeDepth := 8) only [go_sem, reduceIte, reduceCtorEq, Nat.reduceEqDiff, Nat.reduceAdd, Nat.reduceMul, Nat.reduceSub, Nat.reduceLeDiff, Nat.reduceLT, Nat.reduceBEq, Int.reduceToNat, Int.reduceEq, Int.reduceLT, Int.reduceLE, Int.reduceAdd, Int.reduceSub, Int.reduceMul, Int.reduceNeg, h, hw])
  all_goals simp_all [onB]
  all_goals rfl
def footR (cl sz x y : Int) : Rc := if mayS cl sz && mayB x y sz sz then (x, y, sz, sz) else (0, 0, 0, 0)
theorem r_class_Foot (X : Mem) (hw : X.Wf) (cl sz x y : Int) : RF tb f_class_Foot [.agg [.int .i64 cl, .int .i64 sz], .agg [.int .i64 x, .int .i64 y]] X = some (rectR (footR cl sz x y), X) := by
  rw [RF_go t_class_Foot _ _ rfl]
  simp (maxDischargeDepth := 8) only [go_sem, reduceIte, reduceCtorEq, Nat.reduceEqDiff, Nat.reduceAdd, Nat.reduceMul, Nat.reduceSub, Nat.reduceLeDiff, Nat.reduceLT, Nat.reduceBEq, Int.reduceToNat, Int.reduceEq, Int.reduceLT, Int.reduceLE, Int.reduceAdd, Int.reduceSub, Int.reduceMul, Int.reduceNeg, s_class_Foot, hw, r_class_May, r_cell_May]
  repeat' ((first | rw [KG_bool] | rw [KC_bool]); split <;> rename_i h <;> (try simp only [Bool.not_eq_true, Bool.not_not, Bool.not_eq_eq_eq_not, Bool.not_true, Bool.not_false] at h) <;> simp (maxDischargeDepth := 8) only [go_sem, reduceIte, reduceCtorEq, Nat.reduceEqDiff, Nat.reduceAdd, Nat.reduceMul, Nat.reduceSub, Nat.reduceLeDiff, Nat.reduceLT, Nat.reduceBEq, Int.reduceToNat, Int.reduceEq, Int.reduceLT, Int.reduceLE, Int.reduceAdd, Int.reduceSub, Int.reduceMul, Int.reduceNeg, h, hw, r_class_May, r_cell_May])
  all_goals simp_all [footR]
theorem r_ref06_Foot (X : Mem) (hw : X.Wf) (cl sz x y : Int) : RF tb f_ref06_Foot [.agg [.int .i64 cl, .int .i64 sz], .agg [.int .i64 x, .int .i64 y]] X = some (rectR (footR cl sz x y), X) := by
  rw [RF_go t_ref06_Foot _ _ rfl]
  simp (maxDischargeDepth := 8) only [go_sem, reduceIte, reduceCtorEq, Nat.reduceEqDiff, Nat.reduceAdd, Nat.reduceMul, Nat.reduceSub, Nat.reduceLeDiff, Nat.reduceLT, Nat.reduceBEq, Int.reduceToNat, Int.reduceEq, Int.reduceLT, Int.reduceLE, Int.reduceAdd, Int.reduceSub, Int.reduceMul, Int.reduceNeg, s_ref06_Foot, hw, r_ref06_May, r_ref03_May]
  repeat' ((first | rw [KG_bool] | rw [KC_bool]); split <;> rename_i h <;> (try simp only [Bool.not_eq_true, Bool.not_not, Bool.not_eq_eq_eq_not, Bool.not_true, Bool.not_false] at h) <;> simp (maxDischargeDepth := 8) only [go_sem, reduceIte, reduceCtorEq, Nat.reduceEqDiff, Nat.reduceAdd, Nat.reduceMul, Nat.reduceSub, Nat.reduceLeDiff, Nat.reduceLT, Nat.reduceBEq, Int.reduceToNat, Int.reduceEq, Int.reduceLT, Int.reduceLE, Int.reduceAdd, Int.reduceSub, Int.reduceMul, Int.reduceNeg, h, hw, r_ref06_May, r_ref03_May])
  all_goals simp_all [footR]
/-- Is a cell free for a class? -/
def Wd.free (W : Wd) (cl a b : Int) : Bool := !(atL W.bl a b).isSome && onB cl (if W.has a b then W.tile a b else 0)
def Wd.stands (W : Wd) (cl sz x y : Int) : Bool :=
  withinB (footR cl sz x y).1 (footR cl sz x y).2.1 (footR cl sz x y).2.2.1 (footR cl sz x y).2.2.2 0 0 W.w W.h &&
    !(cellsP (footR cl sz x y).1 (footR cl sz x y).2.1 (footR cl sz x y).2.2.1 (footR cl sz x y).2.2.2).any fun c => !W.free cl c.1 c.2
theorem r_class_Stands {m : Mem} {p : WP} {W : Wd} (hW : WorldAt m p W) (hg : W.Good) {X : Mem} (hX : HpSub m X) (hw : X.Wf) (cl sz x y : Int) : RF tb f_class_Stands [.ptr (.hp p.k 0) 0, .agg [.int .i64 cl, .int .i64 sz], .agg [.int .i64 x, .int .i64 y]] X = some (.bool (W.stands cl sz x y), X) := by
  rw [RF_go t_class_Stands _ _ rfl, push_hp]
  generalize hH : X.heap = H
  simp (maxDischargeDepth := 8) only [go_sem, reduceIte, reduceCtorEq, Nat.reduceEqDiff, Nat.reduceAdd, Nat.reduceMul, Nat.reduceSub, Nat.reduceLeDiff, Nat.reduceLT, Nat.reduceBEq, Int.reduceToNat, Int.reduceEq, Int.reduceLT, Int.reduceLE, Int.reduceAdd, Int.reduceSub, Int.reduceMul, Int.reduceNeg, s_class_Stands, hw, hX, hH, r_class_Foot]
  unfold Wd.stands
  generalize footR cl sz x y = r
  obtain ⟨rx, ry, rw', rh⟩ := r
  simp (maxDischargeDepth := 8) only [go_sem, reduceIte, reduceCtorEq, Nat.reduceEqDiff, Nat.reduceAdd, Nat.reduceMul, Nat.reduceSub, Nat.reduceLeDiff, Nat.reduceLT, Nat.reduceBEq, Int.reduceToNat, Int.reduceEq, Int.reduceLT, Int.reduceLE, Int.reduceAdd, Int.reduceSub, Int.reduceMul, Int.reduceNeg, hw, hX, hH, r_grid_World_All hW, r_cell_Within]
  cases h1 : withinB rx ry rw' rh 0 0 W.w W.h with
  | false => simp (maxDischargeDepth := 8) only [go_sem, reduceIte, reduceCtorEq, Nat.reduceEqDiff, Nat.reduceAdd, Nat.reduceMul, Nat.reduceSub, Nat.reduceLeDiff, Nat.reduceLT, Nat.reduceBEq, Int.reduceToNat, Int.reduceEq, Int.reduceLT, Int.reduceLE, Int.reduceAdd, Int.reduceSub, Int.reduceMul, Int.reduceNeg, hw, hH]
  | true =>
    simp (maxDischargeDepth := 8) only [go_sem, reduceIte, reduceCtorEq, Nat.reduceEqDiff, Nat.reduceAdd, Nat.reduceMul, Nat.reduceSub, Nat.reduceLeDiff, Nat.reduceLT, Nat.reduceBEq, Int.reduceToNat, Int.reduceEq, Int.reduceLT, Int.reduceLE, Int.reduceAdd, Int.reduceSub, Int.reduceMul, Int.reduceNeg, hw, hH, r_cell_Cells]
    rw [cells_findG (fun M => M.lp (.st X.dep 5) .done (some .ret)) (fun a b => !W.free cl a b) (d := X.dep + 1) (x := rx) (y := ry) (w := rw') (hh := rh) (by omega)]
    case hB => exact ⟨rfl, by simp (maxDischargeDepth := 8) only [go_sem, reduceIte, reduceCtorEq, Nat.reduceEqDiff, Nat.reduceAdd, Nat.reduceMul, Nat.reduceSub, Nat.reduceLeDiff, Nat.reduceLT, Nat.reduceBEq, Int.reduceToNat, Int.reduceEq, Int.reduceLT, Int.reduceLE, Int.reduceAdd, Int.reduceSub, Int.reduceMul, Int.reduceNeg, hw], by simp (maxDischargeDepth := 8) only [go_sem, reduceIte, reduceCtorEq, Nat.reduceEqDiff, Nat.reduceAdd, Nat.reduceMul, Nat.reduceSub, Nat.reduceLeDiff, Nat.reduceLT, Nat.reduceBEq, Int.reduceToNat, Int.reduceEq, Int.reduceLT, Int.reduceLE, Int.reduceAdd, Int.reduceSub, Int.reduceMul, Int.reduceNeg, hapGet]⟩
    case hB' => exact ⟨by simp (maxDischargeDepth := 8) only [go_sem, reduceIte, reduceCtorEq, Nat.reduceEqDiff, Nat.reduceAdd, Nat.reduceMul, Nat.reduceSub, Nat.reduceLeDiff, Nat.reduceLT, Nat.reduceBEq, Int.reduceToNat, Int.reduceEq, Int.reduceLT, Int.reduceLE, Int.reduceAdd, Int.reduceSub, Int.reduceMul, Int.reduceNeg, hw], by simp (maxDischargeDepth := 8) only [go_sem, reduceIte, reduceCtorEq, Nat.reduceEqDiff, Nat.reduceAdd, Nat.reduceMul, Nat.reduceSub, Nat.reduceLeDiff, Nat.reduceLT, Nat.reduceBEq, Int.reduceToNat, Int.reduceEq, Int.reduceLT, Int.reduceLE, Int.reduceAdd, Int.reduceSub, Int.reduceMul, Int.reduceNeg, hw], by simp (maxDischargeDepth := 8) only [go_sem, reduceIte, reduceCtorEq, Nat.reduceEqDiff, Nat.reduceAdd, Nat.reduceMul, Nat.reduceSub, Nat.reduceLeDiff, Nat.reduceLT, Nat.reduceBEq, Int.reduceToNat, Int.reduceEq, Int.reduceLT, Int.reduceLE, Int.reduceAdd, Int.reduceSub, Int.reduceMul, Int.reduceNeg, hapGet]⟩
    case hl => simp (maxDischargeDepth := 8) only [go_sem, reduceIte, reduceCtorEq, Nat.reduceEqDiff, Nat.reduceAdd, Nat.reduceMul, Nat.reduceSub, Nat.reduceLeDiff, Nat.reduceLT, Nat.reduceBEq, Int.reduceToNat, Int.reduceEq, Int.reduceLT, Int.reduceLE, Int.reduceAdd, Int.reduceSub, Int.reduceMul, Int.reduceNeg]
    case he => simp (maxDischargeDepth := 8) only [go_sem, reduceIte, reduceCtorEq, Nat.reduceEqDiff, Nat.reduceAdd, Nat.reduceMul, Nat.reduceSub, Nat.reduceLeDiff, Nat.reduceLT, Nat.reduceBEq, Int.reduceToNat, Int.reduceEq, Int.reduceLT, Int.reduceLE, Int.reduceAdd, Int.reduceSub, Int.reduceMul, Int.reduceNeg]
    case step =>
      intro a b hab fs e
      rw [RV_go (l := ⟨.ready, none, _, _, _, _⟩) _ _ _ (by simp (maxDischargeDepth := 8) only [go_sem, reduceIte, reduceCtorEq, Nat.reduceEqDiff, Nat.reduceAdd, Nat.reduceMul, Nat.reduceSub, Nat.reduceLeDiff, Nat.reduceLT, Nat.reduceBEq, Int.reduceToNat, Int.reduceEq, Int.reduceLT, Int.reduceLE, Int.reduceAdd, Int.reduceSub, Int.reduceMul, Int.reduceNeg]; rfl) rfl rfl (by simp (maxDischargeDepth := 8) only [go_sem, reduceIte, reduceCtorEq, Nat.reduceEqDiff, Nat.reduceAdd, Nat.reduceMul, Nat.reduceSub, Nat.reduceLeDiff, Nat.reduceLT, Nat.reduceBEq, Int.reduceToNat, Int.reduceEq, Int.reduceLT, Int.reduceLE, Int.reduceAdd, Int.reduceSub, Int.reduceMul, Int.reduceNeg, hw])]
      simp (maxDischargeDepth := 8) only [go_sem, reduceIte, reduceCtorEq, Nat.reduceEqDiff, Nat.reduceAdd, Nat.reduceMul, Nat.reduceSub, Nat.reduceLeDiff, Nat.reduceLT, Nat.reduceBEq, Int.reduceToNat, Int.reduceEq, Int.reduceLT, Int.reduceLE, Int.reduceAdd, Int.reduceSub, Int.reduceMul, Int.reduceNeg, hw, hX, hH, r_grid_World_Terrain hW hg, r_grid_World_At hW, r_class_On]
      cases h2 : (atL W.bl a b).isSome with
      | true =>
        have h3 : W.free cl a b = false := by unfold Wd.free; rw [h2]; rfl
        simp (maxDischargeDepth := 8) only [go_sem, reduceIte, reduceCtorEq, Nat.reduceEqDiff, Nat.reduceAdd, Nat.reduceMul, Nat.reduceSub, Nat.reduceLeDiff, Nat.reduceLT, Nat.reduceBEq, Int.reduceToNat, Int.reduceEq, Int.reduceLT, Int.reduceLE, Int.reduceAdd, Int.reduceSub, Int.reduceMul, Int.reduceNeg, hw, h3]
      | false =>
        simp (maxDischargeDepth := 8) only [go_sem, reduceIte, reduceCtorEq, Nat.reduceEqDiff, Nat.reduceAdd, Nat.reduceMul, Nat.reduceSub, Nat.reduceLeDiff, Nat.reduceLT, Nat.reduceBEq, Int.reduceToNat, Int.reduceEq, Int.reduceLT, Int.reduceLE, Int.reduceAdd, Int.reduceSub, Int.reduceMul, Int.reduceNeg, hw, hX, hH, r_class_On]
        cases h4 : onB cl (if W.has a b then W.tile a b else 0) with
        | true =>
          have h3 : W.free cl a b = true := by unfold Wd.free; rw [h2, h4]; rfl
          simp (maxDischargeDepth := 8) only [go_sem, reduceIte, reduceCtorEq, Nat.reduceEqDiff, Nat.reduceAdd, Nat.reduceMul, Nat.reduceSub, Nat.reduceLeDiff, Nat.reduceLT, Nat.reduceBEq, Int.reduceToNat, Int.reduceEq, Int.reduceLT, Int.reduceLE, Int.reduceAdd, Int.reduceSub, Int.reduceMul, Int.reduceNeg, hw, h3]
        | false =>
          have h3 : W.free cl a b = false := by unfold Wd.free; rw [h2, h4]; rfl
          simp (maxDischargeDepth := 8) only [go_sem, reduceIte, reduceCtorEq, Nat.reduceEqDiff, Nat.reduceAdd, Nat.reduceMul, Nat.reduceSub, Nat.reduceLeDiff, Nat.reduceLT, Nat.reduceBEq, Int.reduceToNat, Int.reduceEq, Int.reduceLT, Int.reduceLE, Int.reduceAdd, Int.reduceSub, Int.reduceMul, Int.reduceNeg, hw, h3]
    cases h5 : (cellsP rx ry rw' rh).any fun c => !W.free cl c.1 c.2 with
    | true => simp (maxDischargeDepth := 8) only [go_sem, reduceIte, reduceCtorEq, Nat.reduceEqDiff, Nat.reduceAdd, Nat.reduceMul, Nat.reduceSub, Nat.reduceLeDiff, Nat.reduceLT, Nat.reduceBEq, Int.reduceToNat, Int.reduceEq, Int.reduceLT, Int.reduceLE, Int.reduceAdd, Int.reduceSub, Int.reduceMul, Int.reduceNeg, hw, hH]
    | false => simp (maxDischargeDepth := 8) only [go_sem, reduceIte, reduceCtorEq, Nat.reduceEqDiff, Nat.reduceAdd, Nat.reduceMul, Nat.reduceSub, Nat.reduceLeDiff, Nat.reduceLT, Nat.reduceBEq, Int.reduceToNat, Int.reduceEq, Int.reduceLT, Int.reduceLE, Int.reduceAdd, Int.reduceSub, Int.reduceMul, Int.reduceNeg, hw, hH]
theorem r_ref06_Stands {m : Mem} {p : QP} {W : Wd} {bl : List Bld} (hV : RefAt m p W bl) (ho : ∀ a b, (atL bl a b).isSome = (atL W.bl a b).isSome) (hg : W.Good) {X : Mem} (hX : HpSub m X) (hw : X.Wf) (cl sz x y : Int) : RF tb f_ref06_Stands [.ptr (.hp p.k 0) 0, .agg [.int .i64 cl, .int .i64 sz], .agg [.int .i64 x, .int .i64 y]] X = some (.bool (W.stands cl sz x y), X) := by
  rw [RF_go t_ref06_Stands _ _ rfl]
  simp (maxDischargeDepth := 8) only [go_sem, reduceIte, reduceCtorEq, Nat.reduceEqDiff, Nat.reduceAdd, Nat.reduceMul, Nat.reduceSub, Nat.reduceLeDiff, Nat.reduceLT, Nat.reduceBEq, Int.reduceToNat, Int.reduceEq, Int.reduceLT, Int.reduceLE, Int.reduceAdd, Int.reduceSub, Int.reduceMul, Int.reduceNeg, s_ref06_Stands, hw, hX, r_ref06_Foot]
  unfold Wd.stands
  generalize footR cl sz x y = r
  obtain ⟨rx, ry, rw', rh⟩ := r
  simp (maxDischargeDepth := 8) only [go_sem, reduceIte, reduceCtorEq, Nat.reduceEqDiff, Nat.reduceAdd, Nat.reduceMul, Nat.reduceSub, Nat.reduceLeDiff, Nat.reduceLT, Nat.reduceBEq, Int.reduceToNat, Int.reduceEq, Int.reduceLT, Int.reduceLE, Int.reduceAdd, Int.reduceSub, Int.reduceMul, Int.reduceNeg, hw, hX, r_ref04_All hV, r_ref03_Within]
  cases h1 : withinB rx ry rw' rh 0 0 W.w W.h with
  | false => simp (maxDischargeDepth := 8) only [go_sem, reduceIte, reduceCtorEq, Nat.reduceEqDiff, Nat.reduceAdd, Nat.reduceMul, Nat.reduceSub, Nat.reduceLeDiff, Nat.reduceLT, Nat.reduceBEq, Int.reduceToNat, Int.reduceEq, Int.reduceLT, Int.reduceLE, Int.reduceAdd, Int.reduceSub, Int.reduceMul, Int.reduceNeg, hw]
  | true =>
    have hmay : mayB rx ry rw' rh = true := by simp only [withinB, Bool.and_eq_true] at h1; exact h1.1.1
    have hmi := may_in hmay
    have hms := may_sides hmay
    have hbad : ∀ a b, hasB rx ry rw' rh a b = true → W.free cl a b = false → (!(cellsP rx ry rw' rh).any fun c => !W.free cl c.1 c.2) = false := by
      intro a b hh hf
      have : (cellsP rx ry rw' rh).any (fun c => !W.free cl c.1 c.2) = true := List.any_eq_true.2 ⟨(a, b), cellsP_mem.2 hh, by simp [hf]⟩
      rw [this]; rfl
    have hall : (∀ a b, hasB rx ry rw' rh a b = true → W.free cl a b = true) → (!(cellsP rx ry rw' rh).any fun c => !W.free cl c.1 c.2) = true := by
      intro h
      have : (cellsP rx ry rw' rh).any (fun c => !W.free cl c.1 c.2) = false := by
        rw [List.any_eq_false]
        rintro ⟨a, b⟩ hc
        simp [h a b (cellsP_mem.1 hc)]
      rw [this]; rfl
    have hwy : IntKind.wrap .i64 (ry + rh) = ry + rh := wrap_small (by omega) (by omega)
    have hwx : IntKind.wrap .i64 (rx + rw') = rx + rw' := wrap_small (by omega) (by omega)
    simp (maxDischargeDepth := 8) only [go_sem, reduceIte, reduceCtorEq, Nat.reduceEqDiff, Nat.reduceAdd, Nat.reduceMul, Nat.reduceSub, Nat.reduceLeDiff, Nat.reduceLT, Nat.reduceBEq, Int.reduceToNat, Int.reduceEq, Int.reduceLT, Int.reduceLE, Int.reduceAdd, Int.reduceSub, Int.reduceMul, Int.reduceNeg, hw]
    rw [KL_keep _ _ _ (by simp (maxDischargeDepth := 8) only [go_sem, reduceIte, reduceCtorEq, Nat.reduceEqDiff, Nat.reduceAdd, Nat.reduceMul, Nat.reduceSub, Nat.reduceLeDiff, Nat.reduceLT, Nat.reduceBEq, Int.reduceToNat, Int.reduceEq, Int.reduceLT, Int.reduceLE, Int.reduceAdd, Int.reduceSub, Int.reduceMul, Int.reduceNeg])]
    simp (maxDischargeDepth := 8) only [go_sem, reduceIte, reduceCtorEq, Nat.reduceEqDiff, Nat.reduceAdd, Nat.reduceMul, Nat.reduceSub, Nat.reduceLeDiff, Nat.reduceLT, Nat.reduceBEq, Int.reduceToNat, Int.reduceEq, Int.reduceLT, Int.reduceLE, Int.reduceAdd, Int.reduceSub, Int.reduceMul, Int.reduceNeg]
    refine KL_indE (α := Int) (fun b => (ry + rh - b).toNat) (fun b => [(0, .ptr (.hp p.k 0) 0), (4, .ptr (.st X.dep 0) 0), (7, .ptr (.st X.dep 2) 0), (8, .int .i64 b)]) (fun _ => X.fr [.cells true [.int .i64 cl, .int .i64 sz], .cells true [.int .i64 x, .int .i64 y], .cells true [.int .i64 rx, .int .i64 ry, .int .i64 rw', .int .i64 rh]] none)
      (fun b => ry ≤ b ∧ b ≤ ry + rh ∧ ∀ a c, hasB rx ry rw' rh a c = true → c < b → W.free cl a c = true) ?_ ry ⟨Int.le_refl _, by omega, fun a c h h' => by have := has_iff.1 h; omega⟩
    rintro b ⟨hb1, hb2, hbI⟩ ih
    simp (maxDischargeDepth := 8) only [go_sem, reduceIte, reduceCtorEq, Nat.reduceEqDiff, Nat.reduceAdd, Nat.reduceMul, Nat.reduceSub, Nat.reduceLeDiff, Nat.reduceLT, Nat.reduceBEq, Int.reduceToNat, Int.reduceEq, Int.reduceLT, Int.reduceLE, Int.reduceAdd, Int.reduceSub, Int.reduceMul, Int.reduceNeg, hw, hwy]
    by_cases hlt : b < ry + rh
    · simp (maxDischargeDepth := 8) only [go_sem, reduceIte, reduceCtorEq, Nat.reduceEqDiff, Nat.reduceAdd, Nat.reduceMul, Nat.reduceSub, Nat.reduceLeDiff, Nat.reduceLT, Nat.reduceBEq, Int.reduceToNat, Int.reduceEq, Int.reduceLT, Int.reduceLE, Int.reduceAdd, Int.reduceSub, Int.reduceMul, Int.reduceNeg, show decide (b < ry + rh) = true from decide_eq_true hlt, hw]
      rw [KL_keep _ _ _ (by simp (maxDischargeDepth := 8) only [go_sem, reduceIte, reduceCtorEq, Nat.reduceEqDiff, Nat.reduceAdd, Nat.reduceMul, Nat.reduceSub, Nat.reduceLeDiff, Nat.reduceLT, Nat.reduceBEq, Int.reduceToNat, Int.reduceEq, Int.reduceLT, Int.reduceLE, Int.reduceAdd, Int.reduceSub, Int.reduceMul, Int.reduceNeg])]
      simp (maxDischargeDepth := 8) only [go_sem, reduceIte, reduceCtorEq, Nat.reduceEqDiff, Nat.reduceAdd, Nat.reduceMul, Nat.reduceSub, Nat.reduceLeDiff, Nat.reduceLT, Nat.reduceBEq, Int.reduceToNat, Int.reduceEq, Int.reduceLT, Int.reduceLE, Int.reduceAdd, Int.reduceSub, Int.reduceMul, Int.reduceNeg]
      refine KL_indE (α := Int) (fun a => (rx + rw' - a).toNat) (fun a => [(0, .ptr (.hp p.k 0) 0), (4, .ptr (.st X.dep 0) 0), (7, .ptr (.st X.dep 2) 0), (8, .int .i64 b), (9, .int .i64 a)]) (fun _ => X.fr [.cells true [.int .i64 cl, .int .i64 sz], .cells true [.int .i64 x, .int .i64 y], .cells true [.int .i64 rx, .int .i64 ry, .int .i64 rw', .int .i64 rh]] none)
        (fun a => rx ≤ a ∧ a ≤ rx + rw' ∧ ∀ d, hasB rx ry rw' rh d b = true → d < a → W.free cl d b = true) ?_ rx ⟨Int.le_refl _, by omega, fun d h h' => by have := has_iff.1 h; omega⟩
      rintro a ⟨ha1, ha2, haI⟩ ih'
      simp (maxDischargeDepth := 8) only [go_sem, reduceIte, reduceCtorEq, Nat.reduceEqDiff, Nat.reduceAdd, Nat.reduceMul, Nat.reduceSub, Nat.reduceLeDiff, Nat.reduceLT, Nat.reduceBEq, Int.reduceToNat, Int.reduceEq, Int.reduceLT, Int.reduceLE, Int.reduceAdd, Int.reduceSub, Int.reduceMul, Int.reduceNeg, hw, hwx]
      by_cases hlt' : a < rx + rw'
      · have hab : hasB rx ry rw' rh a b = true := has_iff.2 ⟨hmay, by omega⟩
        simp (maxDischargeDepth := 8) only [go_sem, reduceIte, reduceCtorEq, Nat.reduceEqDiff, Nat.reduceAdd, Nat.reduceMul, Nat.reduceSub, Nat.reduceLeDiff, Nat.reduceLT, Nat.reduceBEq, Int.reduceToNat, Int.reduceEq, Int.reduceLT, Int.reduceLE, Int.reduceAdd, Int.reduceSub, Int.reduceMul, Int.reduceNeg, show decide (a < rx + rw') = true from decide_eq_true hlt', hw, hX, r_ref04_Terrain hV hg, r_ref04_At hV]
        have hwb : IntKind.wrap .i64 (a + 1) = a + 1 := wrap_small (by omega) (by omega)
        have hnext : W.free cl a b = true → ∀ d, hasB rx ry rw' rh d b = true → d < a + 1 → W.free cl d b = true := by
          intro hf d hd hlt
          by_cases e : d = a
          · subst e; exact hf
          · exact haI d hd (by omega)
        have h2' := ho a b
        cases h2 : (atL bl a b).isSome with
        | true =>
          rw [h2] at h2'
          have h3 : W.free cl a b = false := by unfold Wd.free; rw [← h2']; rfl
          simp (maxDischargeDepth := 8) only [go_sem, reduceIte, reduceCtorEq, Nat.reduceEqDiff, Nat.reduceAdd, Nat.reduceMul, Nat.reduceSub, Nat.reduceLeDiff, Nat.reduceLT, Nat.reduceBEq, Int.reduceToNat, Int.reduceEq, Int.reduceLT, Int.reduceLE, Int.reduceAdd, Int.reduceSub, Int.reduceMul, Int.reduceNeg, hw, hbad a b hab h3]
        | false =>
          rw [h2] at h2'
          simp (maxDischargeDepth := 8) only [go_sem, reduceIte, reduceCtorEq, Nat.reduceEqDiff, Nat.reduceAdd, Nat.reduceMul, Nat.reduceSub, Nat.reduceLeDiff, Nat.reduceLT, Nat.reduceBEq, Int.reduceToNat, Int.reduceEq, Int.reduceLT, Int.reduceLE, Int.reduceAdd, Int.reduceSub, Int.reduceMul, Int.reduceNeg, hw, hX, r_ref06_On]
          cases h4 : onB cl (if W.has a b then W.tile a b else 0) with
          | true =>
            have h3 : W.free cl a b = true := by unfold Wd.free; rw [← h2', h4]; rfl
            simp (maxDischargeDepth := 8) only [go_sem, reduceIte, reduceCtorEq, Nat.reduceEqDiff, Nat.reduceAdd, Nat.reduceMul, Nat.reduceSub, Nat.reduceLeDiff, Nat.reduceLT, Nat.reduceBEq, Int.reduceToNat, Int.reduceEq, Int.reduceLT, Int.reduceLE, Int.reduceAdd, Int.reduceSub, Int.reduceMul, Int.reduceNeg, hw, hwb]
            rw [KL_keep _ _ _ (by simp (maxDischargeDepth := 8) only [go_sem, reduceIte, reduceCtorEq, Nat.reduceEqDiff, Nat.reduceAdd, Nat.reduceMul, Nat.reduceSub, Nat.reduceLeDiff, Nat.reduceLT, Nat.reduceBEq, Int.reduceToNat, Int.reduceEq, Int.reduceLT, Int.reduceLE, Int.reduceAdd, Int.reduceSub, Int.reduceMul, Int.reduceNeg])]
            simp (maxDischargeDepth := 8) only [go_sem, reduceIte, reduceCtorEq, Nat.reduceEqDiff, Nat.reduceAdd, Nat.reduceMul, Nat.reduceSub, Nat.reduceLeDiff, Nat.reduceLT, Nat.reduceBEq, Int.reduceToNat, Int.reduceEq, Int.reduceLT, Int.reduceLE, Int.reduceAdd, Int.reduceSub, Int.reduceMul, Int.reduceNeg]
            exact ih' (a + 1) ⟨by omega, by omega, hnext h3⟩ (by omega)
          | false =>
            have h3 : W.free cl a b = false := by unfold Wd.free; rw [← h2', h4]; rfl
            simp (maxDischargeDepth := 8) only [go_sem, reduceIte, reduceCtorEq, Nat.reduceEqDiff, Nat.reduceAdd, Nat.reduceMul, Nat.reduceSub, Nat.reduceLeDiff, Nat.reduceLT, Nat.reduceBEq, Int.reduceToNat, Int.reduceEq, Int.reduceLT, Int.reduceLE, Int.reduceAdd, Int.reduceSub, Int.reduceMul, Int.reduceNeg, hw, hbad a b hab h3]
      · have hwb : IntKind.wrap .i64 (b + 1) = b + 1 := wrap_small (by omega) (by omega)
        simp (maxDischargeDepth := 8) only [go_sem, reduceIte, reduceCtorEq, Nat.reduceEqDiff, Nat.reduceAdd, Nat.reduceMul, Nat.reduceSub, Nat.reduceLeDiff, Nat.reduceLT, Nat.reduceBEq, Int.reduceToNat, Int.reduceEq, Int.reduceLT, Int.reduceLE, Int.reduceAdd, Int.reduceSub, Int.reduceMul, Int.reduceNeg, show decide (a < rx + rw') = false from decide_eq_false hlt', hw, hwb]
        rw [KL_keep _ _ _ (by simp (maxDischargeDepth := 8) only [go_sem, reduceIte, reduceCtorEq, Nat.reduceEqDiff, Nat.reduceAdd, Nat.reduceMul, Nat.reduceSub, Nat.reduceLeDiff, Nat.reduceLT, Nat.reduceBEq, Int.reduceToNat, Int.reduceEq, Int.reduceLT, Int.reduceLE, Int.reduceAdd, Int.reduceSub, Int.reduceMul, Int.reduceNeg])]
        simp (maxDischargeDepth := 8) only [go_sem, reduceIte, reduceCtorEq, Nat.reduceEqDiff, Nat.reduceAdd, Nat.reduceMul, Nat.reduceSub, Nat.reduceLeDiff, Nat.reduceLT, Nat.reduceBEq, Int.reduceToNat, Int.reduceEq, Int.reduceLT, Int.reduceLE, Int.reduceAdd, Int.reduceSub, Int.reduceMul, Int.reduceNeg]
        refine ih (b + 1) ⟨by omega, by omega, fun d c hd hlt => ?_⟩ (by omega)
        by_cases e : c = b
        · subst e; have := has_iff.1 hd; exact haI d hd (by omega)
        · exact hbI d c hd (by omega)
    · simp (maxDischargeDepth := 8) only [go_sem, reduceIte, reduceCtorEq, Nat.reduceEqDiff, Nat.reduceAdd, Nat.reduceMul, Nat.reduceSub, Nat.reduceLeDiff, Nat.reduceLT, Nat.reduceBEq, Int.reduceToNat, Int.reduceEq, Int.reduceLT, Int.reduceLE, Int.reduceAdd, Int.reduceSub, Int.reduceMul, Int.reduceNeg, show decide (b < ry + rh) = false from decide_eq_false hlt, hw, hall (fun a c h => hbI a c h (by have := has_iff.1 h; omega))]
def Wd.steps (W : Wd) (cl sz x y d : Int) : Bool := stepOk x y d && W.stands cl sz x y && W.stands cl sz (x + turnX d) (y + turnY d) && (!sideOk x y d || (W.stands cl sz (x + turnX d) y && W.stands cl sz x (y + turnY d)))
theorem r_class_Steps {m : Mem} {p : WP} {W : Wd} (hW : WorldAt m p W) (hg : W.Good) {X : Mem} (hX : HpSub m X) (hw : X.Wf) (cl sz x y d : Int) : RF tb f_class_Steps [.ptr (.hp p.k 0) 0, .agg [.int .i64 cl, .int .i64 sz], .agg [.int .i64 x, .int .i64 y], .int .i64 d] X = some (.bool (W.steps cl sz x y d), X) := by
  rw [RF_go t_class_Steps _ _ rfl]
  simp (maxDischargeDepth := 8) only [go_sem, reduceIte, reduceCtorEq, Nat.reduceEqDiff, Nat.reduceAdd, Nat.reduceMul, Nat.reduceSub, Nat.reduceLeDiff, Nat.reduceLT, Nat.reduceBEq, Int.reduceToNat, Int.reduceEq, Int.reduceLT, Int.reduceLE, Int.reduceAdd, Int.reduceSub, Int.reduceMul, Int.reduceNeg, s_class_Steps, hw, hX, r_cell_Step, r_class_Stands hW hg]
  unfold Wd.steps
  cases h1 : stepOk x y d with
  | false => simp (maxDischargeDepth := 8) only [go_sem, reduceIte, reduceCtorEq, Nat.reduceEqDiff, Nat.reduceAdd, Nat.reduceMul, Nat.reduceSub, Nat.reduceLeDiff, Nat.reduceLT, Nat.reduceBEq, Int.reduceToNat, Int.reduceEq, Int.reduceLT, Int.reduceLE, Int.reduceAdd, Int.reduceSub, Int.reduceMul, Int.reduceNeg, hw]
  | true =>
    have ex : stepX x y d = x + turnX d := by simp [stepX, h1]
    have ey : stepY x y d = y + turnY d := by simp [stepY, h1]
    simp (maxDischargeDepth := 8) only [go_sem, reduceIte, reduceCtorEq, Nat.reduceEqDiff, Nat.reduceAdd, Nat.reduceMul, Nat.reduceSub, Nat.reduceLeDiff, Nat.reduceLT, Nat.reduceBEq, Int.reduceToNat, Int.reduceEq, Int.reduceLT, Int.reduceLE, Int.reduceAdd, Int.reduceSub, Int.reduceMul, Int.reduceNeg, hw, hX, ex, ey, r_class_Stands hW hg]
    cases h2 : W.stands cl sz x y with
    | false => simp (maxDischargeDepth := 8) only [go_sem, reduceIte, reduceCtorEq, Nat.reduceEqDiff, Nat.reduceAdd, Nat.reduceMul, Nat.reduceSub, Nat.reduceLeDiff, Nat.reduceLT, Nat.reduceBEq, Int.reduceToNat, Int.reduceEq, Int.reduceLT, Int.reduceLE, Int.reduceAdd, Int.reduceSub, Int.reduceMul, Int.reduceNeg, hw]
    | true =>
      simp (maxDischargeDepth := 8) only [go_sem, reduceIte, reduceCtorEq, Nat.reduceEqDiff, Nat.reduceAdd, Nat.reduceMul, Nat.reduceSub, Nat.reduceLeDiff, Nat.reduceLT, Nat.reduceBEq, Int.reduceToNat, Int.reduceEq, Int.reduceLT, Int.reduceLE, Int.reduceAdd, Int.reduceSub, Int.reduceMul, Int.reduceNeg, hw, hX, ex, ey, r_class_Stands hW hg]
      cases h3 : W.stands cl sz (x + turnX d) (y + turnY d) with
      | false => simp (maxDischargeDepth := 8) only [go_sem, reduceIte, reduceCtorEq, Nat.reduceEqDiff, Nat.reduceAdd, Nat.reduceMul, Nat.reduceSub, Nat.reduceLeDiff, Nat.reduceLT, Nat.reduceBEq, Int.reduceToNat, Int.reduceEq, Int.reduceLT, Int.reduceLE, Int.reduceAdd, Int.reduceSub, Int.reduceMul, Int.reduceNeg, hw]
      | true =>
        simp (maxDischargeDepth := 8) only [go_sem, reduceIte, reduceCtorEq, Nat.reduceEqDiff, Nat.reduceAdd, Nat.reduceMul, Nat.reduceSub, Nat.reduceLeDiff, Nat.reduceLT, Nat.reduceBEq, Int.reduceToNat, Int.reduceEq, Int.reduceLT, Int.reduceLE, Int.reduceAdd, Int.reduceSub, Int.reduceMul, Int.reduceNeg, hw, hX, r_cell_Sides, sideV]
        cases h4 : sideOk x y d with
        | false => simp (maxDischargeDepth := 8) only [go_sem, reduceIte, reduceCtorEq, Nat.reduceEqDiff, Nat.reduceAdd, Nat.reduceMul, Nat.reduceSub, Nat.reduceLeDiff, Nat.reduceLT, Nat.reduceBEq, Int.reduceToNat, Int.reduceEq, Int.reduceLT, Int.reduceLE, Int.reduceAdd, Int.reduceSub, Int.reduceMul, Int.reduceNeg, hw]; rfl
        | true =>
          simp (maxDischargeDepth := 8) only [go_sem, reduceIte, reduceCtorEq, Nat.reduceEqDiff, Nat.reduceAdd, Nat.reduceMul, Nat.reduceSub, Nat.reduceLeDiff, Nat.reduceLT, Nat.reduceBEq, Int.reduceToNat, Int.reduceEq, Int.reduceLT, Int.reduceLE, Int.reduceAdd, Int.reduceSub, Int.reduceMul, Int.reduceNeg, hw, hX, r_class_Stands hW hg]
          cases h5 : W.stands cl sz (x + turnX d) y with
          | false => simp (maxDischargeDepth := 8) only [go_sem, reduceIte, reduceCtorEq, Nat.reduceEqDiff, Nat.reduceAdd, Nat.reduceMul, Nat.reduceSub, Nat.reduceLeDiff, Nat.reduceLT, Nat.reduceBEq, Int.reduceToNat, Int.reduceEq, Int.reduceLT, Int.reduceLE, Int.reduceAdd, Int.reduceSub, Int.reduceMul, Int.reduceNeg, hw]; rfl
          | true => simp (maxDischargeDepth := 8) only [go_sem, reduceIte, reduceCtorEq, Nat.reduceEqDiff, Nat.reduceAdd, Nat.reduceMul, Nat.reduceSub, Nat.reduceLeDiff, Nat.reduceLT, Nat.reduceBEq, Int.reduceToNat, Int.reduceEq, Int.reduceLT, Int.reduceLE, Int.reduceAdd, Int.reduceSub, Int.reduceMul, Int.reduceNeg, hw, hX, r_class_Stands hW hg]; rfl
theorem r_ref06_Steps {m : Mem} {p : QP} {W : Wd} {bl : List Bld} (hV : RefAt m p W bl) (ho : ∀ a b, (atL bl a b).isSome = (atL W.bl a b).isSome) (hg : W.Good) {X : Mem} (hX : HpSub m X) (hw : X.Wf) (cl sz x y d : Int) : RF tb f_ref06_Steps [.ptr (.hp p.k 0) 0, .agg [.int .i64 cl, .int .i64 sz], .agg [.int .i64 x, .int .i64 y], .int .i64 d] X = some (.bool (W.steps cl sz x y d), X) := by
  rw [RF_go t_ref06_Steps _ _ rfl]
  simp (maxDischargeDepth := 8) only [go_sem, reduceIte, reduceCtorEq, Nat.reduceEqDiff, Nat.reduceAdd, Nat.reduceMul, Nat.reduceSub, Nat.reduceLeDiff, Nat.reduceLT, Nat.reduceBEq, Int.reduceToNat, Int.reduceEq, Int.reduceLT, Int.reduceLE, Int.reduceAdd, Int.reduceSub, Int.reduceMul, Int.reduceNeg, s_ref06_Steps, hw, hX, r_ref03_Step, r_ref06_Stands hV ho hg]
  unfold Wd.steps
  cases h1 : stepOk x y d with
  | false => simp (maxDischargeDepth := 8) only [go_sem, reduceIte, reduceCtorEq, Nat.reduceEqDiff, Nat.reduceAdd, Nat.reduceMul, Nat.reduceSub, Nat.reduceLeDiff, Nat.reduceLT, Nat.reduceBEq, Int.reduceToNat, Int.reduceEq, Int.reduceLT, Int.reduceLE, Int.reduceAdd, Int.reduceSub, Int.reduceMul, Int.reduceNeg, hw]
  | true =>
    have ex : stepX x y d = x + turnX d := by simp [stepX, h1]
    have ey : stepY x y d = y + turnY d := by simp [stepY, h1]
    simp (maxDischargeDepth := 8) only [go_sem, reduceIte, reduceCtorEq, Nat.reduceEqDiff, Nat.reduceAdd, Nat.reduceMul, Nat.reduceSub, Nat.reduceLeDiff, Nat.reduceLT, Nat.reduceBEq, Int.reduceToNat, Int.reduceEq, Int.reduceLT, Int.reduceLE, Int.reduceAdd, Int.reduceSub, Int.reduceMul, Int.reduceNeg, hw, hX, ex, ey, r_ref06_Stands hV ho hg]
    cases h2 : W.stands cl sz x y with
    | false => simp (maxDischargeDepth := 8) only [go_sem, reduceIte, reduceCtorEq, Nat.reduceEqDiff, Nat.reduceAdd, Nat.reduceMul, Nat.reduceSub, Nat.reduceLeDiff, Nat.reduceLT, Nat.reduceBEq, Int.reduceToNat, Int.reduceEq, Int.reduceLT, Int.reduceLE, Int.reduceAdd, Int.reduceSub, Int.reduceMul, Int.reduceNeg, hw]
    | true =>
      simp (maxDischargeDepth := 8) only [go_sem, reduceIte, reduceCtorEq, Nat.reduceEqDiff, Nat.reduceAdd, Nat.reduceMul, Nat.reduceSub, Nat.reduceLeDiff, Nat.reduceLT, Nat.reduceBEq, Int.reduceToNat, Int.reduceEq, Int.reduceLT, Int.reduceLE, Int.reduceAdd, Int.reduceSub, Int.reduceMul, Int.reduceNeg, hw, hX, ex, ey, r_ref06_Stands hV ho hg]
      cases h3 : W.stands cl sz (x + turnX d) (y + turnY d) with
      | false => simp (maxDischargeDepth := 8) only [go_sem, reduceIte, reduceCtorEq, Nat.reduceEqDiff, Nat.reduceAdd, Nat.reduceMul, Nat.reduceSub, Nat.reduceLeDiff, Nat.reduceLT, Nat.reduceBEq, Int.reduceToNat, Int.reduceEq, Int.reduceLT, Int.reduceLE, Int.reduceAdd, Int.reduceSub, Int.reduceMul, Int.reduceNeg, hw]
      | true =>
        simp (maxDischargeDepth := 8) only [go_sem, reduceIte, reduceCtorEq, Nat.reduceEqDiff, Nat.reduceAdd, Nat.reduceMul, Nat.reduceSub, Nat.reduceLeDiff, Nat.reduceLT, Nat.reduceBEq, Int.reduceToNat, Int.reduceEq, Int.reduceLT, Int.reduceLE, Int.reduceAdd, Int.reduceSub, Int.reduceMul, Int.reduceNeg, hw, hX, r_ref03_Sides, sideV]
        cases h4 : sideOk x y d with
        | false => simp (maxDischargeDepth := 8) only [go_sem, reduceIte, reduceCtorEq, Nat.reduceEqDiff, Nat.reduceAdd, Nat.reduceMul, Nat.reduceSub, Nat.reduceLeDiff, Nat.reduceLT, Nat.reduceBEq, Int.reduceToNat, Int.reduceEq, Int.reduceLT, Int.reduceLE, Int.reduceAdd, Int.reduceSub, Int.reduceMul, Int.reduceNeg, hw]; rfl
        | true =>
          simp (maxDischargeDepth := 8) only [go_sem, reduceIte, reduceCtorEq, Nat.reduceEqDiff, Nat.reduceAdd, Nat.reduceMul, Nat.reduceSub, Nat.reduceLeDiff, Nat.reduceLT, Nat.reduceBEq, Int.reduceToNat, Int.reduceEq, Int.reduceLT, Int.reduceLE, Int.reduceAdd, Int.reduceSub, Int.reduceMul, Int.reduceNeg, hw, hX, r_ref06_Stands hV ho hg]
          cases h5 : W.stands cl sz (x + turnX d) y with
          | false => simp (maxDischargeDepth := 8) only [go_sem, reduceIte, reduceCtorEq, Nat.reduceEqDiff, Nat.reduceAdd, Nat.reduceMul, Nat.reduceSub, Nat.reduceLeDiff, Nat.reduceLT, Nat.reduceBEq, Int.reduceToNat, Int.reduceEq, Int.reduceLT, Int.reduceLE, Int.reduceAdd, Int.reduceSub, Int.reduceMul, Int.reduceNeg, hw]; rfl
          | true => simp (maxDischargeDepth := 8) only [go_sem, reduceIte, reduceCtorEq, Nat.reduceEqDiff, Nat.reduceAdd, Nat.reduceMul, Nat.reduceSub, Nat.reduceLeDiff, Nat.reduceLT, Nat.reduceBEq, Int.reduceToNat, Int.reduceEq, Int.reduceLT, Int.reduceLE, Int.reduceAdd, Int.reduceSub, Int.reduceMul, Int.reduceNeg, hw, hX, r_ref06_Stands hV ho hg]; rfl
/-- Is a path legal? -/
def Wd.legalGo (W : Wd) (cl sz : Int) : Int → Int → List (Int × Int) → Bool
  | _, _, [] => true
  | x, y, c :: r => W.steps cl sz x y (dirR x y c.1 c.2 8) && W.legalGo cl sz c.1 c.2 r
def Wd.legal (W : Wd) (cl sz x y : Int) (l : List (Int × Int)) : Bool := W.stands cl sz x y && W.legalGo cl sz x y l
theorem steps_neg (W : Wd) (cl sz x y : Int) {d : Int} (h : d < 0) : W.steps cl sz x y d = false := by
  have : isDir d = false := by unfold isDir; simp; omega
  unfold Wd.steps stepOk; rw [this]; rfl
def costGo : Int → Int → Int → List (Int × Int) → Int
  | _, _, n, [] => n
  | x, y, n, c :: r => if dirR x y c.1 c.2 8 < 0 then -1 else costGo c.1 c.2 (n + costP (dirR x y c.1 c.2 8)) r
def costL (x y : Int) (l : List (Int × Int)) : Int := if l.length > 16384 then -1 else costGo x y 0 l
theorem cost_in (d : Int) : 0 ≤ costP d ∧ costP d ≤ 14 := by unfold costP; split <;> (try split) <;> omega
theorem r_class_Cost {m : Mem} {v : SV} {l : List (Int × Int)} (hl : LiesD cellF m v l) {X : Mem} (hX : HpSub m X) (hw : X.Wf) (x y : Int) : RF tb f_class_Cost [.agg [.int .i64 x, .int .i64 y], v] X = some (.int .i64 (costL x y l), X) := by
  rw [RF_go t_class_Cost _ _ rfl]
  simp (maxDischargeDepth := 8) only [go_sem, reduceIte, reduceCtorEq, Nat.reduceEqDiff, Nat.reduceAdd, Nat.reduceMul, Nat.reduceSub, Nat.reduceLeDiff, Nat.reduceLT, Nat.reduceBEq, Int.reduceToNat, Int.reduceEq, Int.reduceLT, Int.reduceLE, Int.reduceAdd, Int.reduceSub, Int.reduceMul, Int.reduceNeg, s_class_Cost, hw, hl.len]
  cases h1 : decide ((l.length : Int) > 16384) with
  | true =>
    have e : costL x y l = -1 := by unfold costL; rw [if_pos (by simp at h1; omega)]
    simp (maxDischargeDepth := 8) only [go_sem, reduceIte, reduceCtorEq, Nat.reduceEqDiff, Nat.reduceAdd, Nat.reduceMul, Nat.reduceSub, Nat.reduceLeDiff, Nat.reduceLT, Nat.reduceBEq, Int.reduceToNat, Int.reduceEq, Int.reduceLT, Int.reduceLE, Int.reduceAdd, Int.reduceSub, Int.reduceMul, Int.reduceNeg, hw, e]
  | false =>
    have h16 : l.length ≤ 16384 := by simp at h1; omega
    have e : costL x y l = costGo x y 0 l := by unfold costL; rw [if_neg (by omega)]
    rw [e]
    simp (maxDischargeDepth := 8) only [go_sem, reduceIte, reduceCtorEq, Nat.reduceEqDiff, Nat.reduceAdd, Nat.reduceMul, Nat.reduceSub, Nat.reduceLeDiff, Nat.reduceLT, Nat.reduceBEq, Int.reduceToNat, Int.reduceEq, Int.reduceLT, Int.reduceLE, Int.reduceAdd, Int.reduceSub, Int.reduceMul, Int.reduceNeg, hw, hl.len]
    rw [KL_keep _ _ _ (by simp (maxDischargeDepth := 8) only [go_sem, reduceIte, reduceCtorEq, Nat.reduceEqDiff, Nat.reduceAdd, Nat.reduceMul, Nat.reduceSub, Nat.reduceLeDiff, Nat.reduceLT, Nat.reduceBEq, Int.reduceToNat, Int.reduceEq, Int.reduceLT, Int.reduceLE, Int.reduceAdd, Int.reduceSub, Int.reduceMul, Int.reduceNeg, hl.lv])]
    simp (maxDischargeDepth := 8) only [go_sem, reduceIte, reduceCtorEq, Nat.reduceEqDiff, Nat.reduceAdd, Nat.reduceMul, Nat.reduceSub, Nat.reduceLeDiff, Nat.reduceLT, Nat.reduceBEq, Int.reduceToNat, Int.reduceEq, Int.reduceLT, Int.reduceLE, Int.reduceAdd, Int.reduceSub, Int.reduceMul, Int.reduceNeg]
    refine KL_indE (α := Nat × Int × Int × Int) (fun a => l.length - a.1) (fun a => [(2, .ptr (.st X.dep 0) 0), (5, .int .i64 a.2.2.2), (12, v), (13, .i l.length), (14, .int .i64 (a.1 : Int))]) (fun a => X.fr [.cells true [.int .i64 a.2.1, .int .i64 a.2.2.1]] none)
      (fun a => a.1 ≤ l.length ∧ costGo x y 0 l = costGo a.2.1 a.2.2.1 a.2.2.2 (l.drop a.1) ∧ 0 ≤ a.2.2.2 ∧ a.2.2.2 ≤ 14 * (a.1 : Int)) ?_ (0, x, y, 0) ⟨Nat.zero_le _, rfl, Int.le_refl _, Int.le_refl _⟩
    rintro ⟨i, cx, cy, n⟩ ⟨hi, hI, hn0, hn1⟩ ih
    dsimp only at hi hI hn0 hn1 ⊢
    simp (maxDischargeDepth := 8) only [go_sem, reduceIte, reduceCtorEq, Nat.reduceEqDiff, Nat.reduceAdd, Nat.reduceMul, Nat.reduceSub, Nat.reduceLeDiff, Nat.reduceLT, Nat.reduceBEq, Int.reduceToNat, Int.reduceEq, Int.reduceLT, Int.reduceLE, Int.reduceAdd, Int.reduceSub, Int.reduceMul, Int.reduceNeg, hw, hl.lv, hl.len]
    by_cases hlt : i < l.length
    · have hel : l[i]? = some l[i] := List.getElem?_eq_getElem hlt
      have hdr : l.drop i = l[i] :: l.drop (i + 1) := List.drop_eq_getElem_cons hlt
      generalize l[i] = c at hel hdr
      obtain ⟨a, b⟩ := c
      rw [hdr] at hI
      have hI : costGo x y 0 l = if dirR cx cy a b 8 < 0 then -1 else costGo a b (n + costP (dirR cx cy a b 8)) (l.drop (i + 1)) := hI
      have hcp := cost_in (dirR cx cy a b 8)
      simp (maxDischargeDepth := 8) only [go_sem, reduceIte, reduceCtorEq, Nat.reduceEqDiff, Nat.reduceAdd, Nat.reduceMul, Nat.reduceSub, Nat.reduceLeDiff, Nat.reduceLT, Nat.reduceBEq, Int.reduceToNat, Int.reduceEq, Int.reduceLT, Int.reduceLE, Int.reduceAdd, Int.reduceSub, Int.reduceMul, Int.reduceNeg, show decide ((i : Int) < (l.length : Int)) = true from decide_eq_true (by omega), hw, hX, hl.iaddrC hlt, hl.loadC hel, hl.lv, r_cell_Dir]
      cases h2 : decide (dirR cx cy a b 8 < 0) with
      | true =>
        have hI := hI.trans (if_pos (of_decide_eq_true h2))
        simp (maxDischargeDepth := 8) only [go_sem, reduceIte, reduceCtorEq, Nat.reduceEqDiff, Nat.reduceAdd, Nat.reduceMul, Nat.reduceSub, Nat.reduceLeDiff, Nat.reduceLT, Nat.reduceBEq, Int.reduceToNat, Int.reduceEq, Int.reduceLT, Int.reduceLE, Int.reduceAdd, Int.reduceSub, Int.reduceMul, Int.reduceNeg, hw, hI]
      | false =>
        have hI := hI.trans (if_neg (of_decide_eq_false h2))
        have hwn : IntKind.wrap .i64 (n + costP (dirR cx cy a b 8)) = n + costP (dirR cx cy a b 8) := wrap_small (by omega) (by omega)
        simp (maxDischargeDepth := 8) only [go_sem, reduceIte, reduceCtorEq, Nat.reduceEqDiff, Nat.reduceAdd, Nat.reduceMul, Nat.reduceSub, Nat.reduceLeDiff, Nat.reduceLT, Nat.reduceBEq, Int.reduceToNat, Int.reduceEq, Int.reduceLT, Int.reduceLE, Int.reduceAdd, Int.reduceSub, Int.reduceMul, Int.reduceNeg, hw, hX, r_cell_Cost, hl.iaddrC hlt, hl.loadC hel, hwn, wrap_succ (show i ≤ 4611686018427387903 by omega), hl.lv]
        rw [KL_keep _ _ _ (by simp (maxDischargeDepth := 8) only [go_sem, reduceIte, reduceCtorEq, Nat.reduceEqDiff, Nat.reduceAdd, Nat.reduceMul, Nat.reduceSub, Nat.reduceLeDiff, Nat.reduceLT, Nat.reduceBEq, Int.reduceToNat, Int.reduceEq, Int.reduceLT, Int.reduceLE, Int.reduceAdd, Int.reduceSub, Int.reduceMul, Int.reduceNeg, hl.lv])]
        simp (maxDischargeDepth := 8) only [go_sem, reduceIte, reduceCtorEq, Nat.reduceEqDiff, Nat.reduceAdd, Nat.reduceMul, Nat.reduceSub, Nat.reduceLeDiff, Nat.reduceLT, Nat.reduceBEq, Int.reduceToNat, Int.reduceEq, Int.reduceLT, Int.reduceLE, Int.reduceAdd, Int.reduceSub, Int.reduceMul, Int.reduceNeg]
        exact ih (i + 1, a, b, n + costP (dirR cx cy a b 8)) ⟨by dsimp only; omega, hI, by dsimp only; omega, by dsimp only; omega⟩ (by dsimp only; omega)
    · obtain rfl : i = l.length := by omega
      rw [List.drop_length] at hI
      simp (maxDischargeDepth := 8) only [go_sem, reduceIte, reduceCtorEq, Nat.reduceEqDiff, Nat.reduceAdd, Nat.reduceMul, Nat.reduceSub, Nat.reduceLeDiff, Nat.reduceLT, Nat.reduceBEq, Int.reduceToNat, Int.reduceEq, Int.reduceLT, Int.reduceLE, Int.reduceAdd, Int.reduceSub, Int.reduceMul, Int.reduceNeg, show decide ((l.length : Int) < (l.length : Int)) = false from decide_eq_false (by omega), hw, hI]
      rfl
theorem r_ref06_Cost {m : Mem} {v : SV} {l : List (Int × Int)} (hl : LiesD cellF m v l) {X : Mem} (hX : HpSub m X) (hw : X.Wf) (x y : Int) : RF tb f_ref06_Cost [.agg [.int .i64 x, .int .i64 y], v] X = some (.int .i64 (costL x y l), X) := by
  rw [RF_go t_ref06_Cost _ _ rfl]
  simp (maxDischargeDepth := 8) only [go_sem, reduceIte, reduceCtorEq, Nat.reduceEqDiff, Nat.reduceAdd, Nat.reduceMul, Nat.reduceSub, Nat.reduceLeDiff, Nat.reduceLT, Nat.reduceBEq, Int.reduceToNat, Int.reduceEq, Int.reduceLT, Int.reduceLE, Int.reduceAdd, Int.reduceSub, Int.reduceMul, Int.reduceNeg, s_ref06_Cost, hw, hl.len]
  cases h1 : decide ((l.length : Int) > 16384) with
  | true =>
    have e : costL x y l = -1 := by unfold costL; rw [if_pos (by simp at h1; omega)]
    simp (maxDischargeDepth := 8) only [go_sem, reduceIte, reduceCtorEq, Nat.reduceEqDiff, Nat.reduceAdd, Nat.reduceMul, Nat.reduceSub, Nat.reduceLeDiff, Nat.reduceLT, Nat.reduceBEq, Int.reduceToNat, Int.reduceEq, Int.reduceLT, Int.reduceLE, Int.reduceAdd, Int.reduceSub, Int.reduceMul, Int.reduceNeg, hw, e]
  | false =>
    have h16 : l.length ≤ 16384 := by simp at h1; omega
    have e : costL x y l = costGo x y 0 l := by unfold costL; rw [if_neg (by omega)]
    rw [e]
    simp (maxDischargeDepth := 8) only [go_sem, reduceIte, reduceCtorEq, Nat.reduceEqDiff, Nat.reduceAdd, Nat.reduceMul, Nat.reduceSub, Nat.reduceLeDiff, Nat.reduceLT, Nat.reduceBEq, Int.reduceToNat, Int.reduceEq, Int.reduceLT, Int.reduceLE, Int.reduceAdd, Int.reduceSub, Int.reduceMul, Int.reduceNeg, hw, hl.len]
    rw [KL_keep _ _ _ (by simp (maxDischargeDepth := 8) only [go_sem, reduceIte, reduceCtorEq, Nat.reduceEqDiff, Nat.reduceAdd, Nat.reduceMul, Nat.reduceSub, Nat.reduceLeDiff, Nat.reduceLT, Nat.reduceBEq, Int.reduceToNat, Int.reduceEq, Int.reduceLT, Int.reduceLE, Int.reduceAdd, Int.reduceSub, Int.reduceMul, Int.reduceNeg, hl.lv])]
    simp (maxDischargeDepth := 8) only [go_sem, reduceIte, reduceCtorEq, Nat.reduceEqDiff, Nat.reduceAdd, Nat.reduceMul, Nat.reduceSub, Nat.reduceLeDiff, Nat.reduceLT, Nat.reduceBEq, Int.reduceToNat, Int.reduceEq, Int.reduceLT, Int.reduceLE, Int.reduceAdd, Int.reduceSub, Int.reduceMul, Int.reduceNeg]
    refine KL_indE (α := Nat × Int × Int × Int) (fun a => l.length - a.1) (fun a => [(1, v), (2, .ptr (.st X.dep 0) 0), (5, .int .i64 a.2.2.2), (6, .int .i64 (a.1 : Int))]) (fun a => X.fr [.cells true [.int .i64 a.2.1, .int .i64 a.2.2.1]] none)
      (fun a => a.1 ≤ l.length ∧ costGo x y 0 l = costGo a.2.1 a.2.2.1 a.2.2.2 (l.drop a.1) ∧ 0 ≤ a.2.2.2 ∧ a.2.2.2 ≤ 14 * (a.1 : Int)) ?_ (0, x, y, 0) ⟨Nat.zero_le _, rfl, Int.le_refl _, Int.le_refl _⟩
    rintro ⟨i, cx, cy, n⟩ ⟨hi, hI, hn0, hn1⟩ ih
    dsimp only at hi hI hn0 hn1 ⊢
    simp (maxDischargeDepth := 8) only [go_sem, reduceIte, reduceCtorEq, Nat.reduceEqDiff, Nat.reduceAdd, Nat.reduceMul, Nat.reduceSub, Nat.reduceLeDiff, Nat.reduceLT, Nat.reduceBEq, Int.reduceToNat, Int.reduceEq, Int.reduceLT, Int.reduceLE, Int.reduceAdd, Int.reduceSub, Int.reduceMul, Int.reduceNeg, hw, hl.lv, hl.len]
    by_cases hlt : i < l.length
    · have hel : l[i]? = some l[i] := List.getElem?_eq_getElem hlt
      have hdr : l.drop i = l[i] :: l.drop (i + 1) := List.drop_eq_getElem_cons hlt
      generalize l[i] = c at hel hdr
      obtain ⟨a, b⟩ := c
      rw [hdr] at hI
      have hI : costGo x y 0 l = if dirR cx cy a b 8 < 0 then -1 else costGo a b (n + costP (dirR cx cy a b 8)) (l.drop (i + 1)) := hI
      have hcp := cost_in (dirR cx cy a b 8)
      simp (maxDischargeDepth := 8) only [go_sem, reduceIte, reduceCtorEq, Nat.reduceEqDiff, Nat.reduceAdd, Nat.reduceMul, Nat.reduceSub, Nat.reduceLeDiff, Nat.reduceLT, Nat.reduceBEq, Int.reduceToNat, Int.reduceEq, Int.reduceLT, Int.reduceLE, Int.reduceAdd, Int.reduceSub, Int.reduceMul, Int.reduceNeg, show decide ((i : Int) < (l.length : Int)) = true from decide_eq_true (by omega), hw, hX, hl.iaddrC hlt, hl.loadC hel, hl.lv, r_ref03_Dir]
      cases h2 : decide (dirR cx cy a b 8 < 0) with
      | true =>
        have hI := hI.trans (if_pos (of_decide_eq_true h2))
        simp (maxDischargeDepth := 8) only [go_sem, reduceIte, reduceCtorEq, Nat.reduceEqDiff, Nat.reduceAdd, Nat.reduceMul, Nat.reduceSub, Nat.reduceLeDiff, Nat.reduceLT, Nat.reduceBEq, Int.reduceToNat, Int.reduceEq, Int.reduceLT, Int.reduceLE, Int.reduceAdd, Int.reduceSub, Int.reduceMul, Int.reduceNeg, hw, hI]
      | false =>
        have hI := hI.trans (if_neg (of_decide_eq_false h2))
        have hwn : IntKind.wrap .i64 (n + costP (dirR cx cy a b 8)) = n + costP (dirR cx cy a b 8) := wrap_small (by omega) (by omega)
        simp (maxDischargeDepth := 8) only [go_sem, reduceIte, reduceCtorEq, Nat.reduceEqDiff, Nat.reduceAdd, Nat.reduceMul, Nat.reduceSub, Nat.reduceLeDiff, Nat.reduceLT, Nat.reduceBEq, Int.reduceToNat, Int.reduceEq, Int.reduceLT, Int.reduceLE, Int.reduceAdd, Int.reduceSub, Int.reduceMul, Int.reduceNeg, hw, hX, r_ref03_Cost, hl.iaddrC hlt, hl.loadC hel, hwn, wrap_succ (show i ≤ 4611686018427387903 by omega), hl.lv]
        rw [KL_keep _ _ _ (by simp (maxDischargeDepth := 8) only [go_sem, reduceIte, reduceCtorEq, Nat.reduceEqDiff, Nat.reduceAdd, Nat.reduceMul, Nat.reduceSub, Nat.reduceLeDiff, Nat.reduceLT, Nat.reduceBEq, Int.reduceToNat, Int.reduceEq, Int.reduceLT, Int.reduceLE, Int.reduceAdd, Int.reduceSub, Int.reduceMul, Int.reduceNeg, hl.lv])]
        simp (maxDischargeDepth := 8) only [go_sem, reduceIte, reduceCtorEq, Nat.reduceEqDiff, Nat.reduceAdd, Nat.reduceMul, Nat.reduceSub, Nat.reduceLeDiff, Nat.reduceLT, Nat.reduceBEq, Int.reduceToNat, Int.reduceEq, Int.reduceLT, Int.reduceLE, Int.reduceAdd, Int.reduceSub, Int.reduceMul, Int.reduceNeg]
        exact ih (i + 1, a, b, n + costP (dirR cx cy a b 8)) ⟨by dsimp only; omega, hI, by dsimp only; omega, by dsimp only; omega⟩ (by dsimp only; omega)
    · obtain rfl : i = l.length := by omega
      rw [List.drop_length] at hI
      simp (maxDischargeDepth := 8) only [go_sem, reduceIte, reduceCtorEq, Nat.reduceEqDiff, Nat.reduceAdd, Nat.reduceMul, Nat.reduceSub, Nat.reduceLeDiff, Nat.reduceLT, Nat.reduceBEq, Int.reduceToNat, Int.reduceEq, Int.reduceLT, Int.reduceLE, Int.reduceAdd, Int.reduceSub, Int.reduceMul, Int.reduceNeg, show decide ((l.length : Int) < (l.length : Int)) = false from decide_eq_false (by omega), hw, hI]
      rfl
theorem r_class_Legal {m : Mem} {p : WP} {W : Wd} (hW : WorldAt m p W) (hg : W.Good) {v : SV} {l : List (Int × Int)} (hl : LiesD cellF m v l) (hb : l.length ≤ two48) {X : Mem} (hX : HpSub m X) (hw : X.Wf) (cl sz x y : Int) : RF tb f_class_Legal [.ptr (.hp p.k 0) 0, .agg [.int .i64 cl, .int .i64 sz], .agg [.int .i64 x, .int .i64 y], v] X = some (.bool (W.legal cl sz x y l), X) := by
  rw [RF_go t_class_Legal _ _ rfl]
  simp (maxDischargeDepth := 8) only [go_sem, reduceIte, reduceCtorEq, Nat.reduceEqDiff, Nat.reduceAdd, Nat.reduceMul, Nat.reduceSub, Nat.reduceLeDiff, Nat.reduceLT, Nat.reduceBEq, Int.reduceToNat, Int.reduceEq, Int.reduceLT, Int.reduceLE, Int.reduceAdd, Int.reduceSub, Int.reduceMul, Int.reduceNeg, s_class_Legal, hw, hX, r_class_Stands hW hg]
  unfold Wd.legal
  cases h1 : W.stands cl sz x y with
  | false => simp (maxDischargeDepth := 8) only [go_sem, reduceIte, reduceCtorEq, Nat.reduceEqDiff, Nat.reduceAdd, Nat.reduceMul, Nat.reduceSub, Nat.reduceLeDiff, Nat.reduceLT, Nat.reduceBEq, Int.reduceToNat, Int.reduceEq, Int.reduceLT, Int.reduceLE, Int.reduceAdd, Int.reduceSub, Int.reduceMul, Int.reduceNeg, hw]
  | true =>
    simp (maxDischargeDepth := 8) only [go_sem, reduceIte, reduceCtorEq, Nat.reduceEqDiff, Nat.reduceAdd, Nat.reduceMul, Nat.reduceSub, Nat.reduceLeDiff, Nat.reduceLT, Nat.reduceBEq, Int.reduceToNat, Int.reduceEq, Int.reduceLT, Int.reduceLE, Int.reduceAdd, Int.reduceSub, Int.reduceMul, Int.reduceNeg, hw, hl.len]
    rw [KL_keep _ _ _ (by simp (maxDischargeDepth := 8) only [go_sem, reduceIte, reduceCtorEq, Nat.reduceEqDiff, Nat.reduceAdd, Nat.reduceMul, Nat.reduceSub, Nat.reduceLeDiff, Nat.reduceLT, Nat.reduceBEq, Int.reduceToNat, Int.reduceEq, Int.reduceLT, Int.reduceLE, Int.reduceAdd, Int.reduceSub, Int.reduceMul, Int.reduceNeg, hl.lv])]
    simp (maxDischargeDepth := 8) only [go_sem, reduceIte, reduceCtorEq, Nat.reduceEqDiff, Nat.reduceAdd, Nat.reduceMul, Nat.reduceSub, Nat.reduceLeDiff, Nat.reduceLT, Nat.reduceBEq, Int.reduceToNat, Int.reduceEq, Int.reduceLT, Int.reduceLE, Int.reduceAdd, Int.reduceSub, Int.reduceMul, Int.reduceNeg]
    refine KL_indE (α := Nat × Int × Int) (fun a => l.length - a.1) (fun a => [(0, .ptr (.hp p.k 0) 0), (5, .ptr (.st X.dep 0) 0), (6, .ptr (.st X.dep 1) 0), (16, v), (17, .i l.length), (18, .int .i64 (a.1 : Int))]) (fun a => X.fr [.cells true [.int .i64 cl, .int .i64 sz], .cells true [.int .i64 a.2.1, .int .i64 a.2.2]] none)
      (fun a => a.1 ≤ l.length ∧ W.legalGo cl sz x y l = W.legalGo cl sz a.2.1 a.2.2 (l.drop a.1)) ?_ (0, x, y) ⟨Nat.zero_le _, rfl⟩
    rintro ⟨i, cx, cy⟩ ⟨hi, hI⟩ ih
    dsimp only at hi hI ⊢
    simp (maxDischargeDepth := 8) only [go_sem, reduceIte, reduceCtorEq, Nat.reduceEqDiff, Nat.reduceAdd, Nat.reduceMul, Nat.reduceSub, Nat.reduceLeDiff, Nat.reduceLT, Nat.reduceBEq, Int.reduceToNat, Int.reduceEq, Int.reduceLT, Int.reduceLE, Int.reduceAdd, Int.reduceSub, Int.reduceMul, Int.reduceNeg, hw, hl.lv, hl.len]
    by_cases hlt : i < l.length
    · have hel : l[i]? = some l[i] := List.getElem?_eq_getElem hlt
      have hdr : l.drop i = l[i] :: l.drop (i + 1) := List.drop_eq_getElem_cons hlt
      generalize l[i] = c at hel hdr
      obtain ⟨a, b⟩ := c
      rw [hdr] at hI
      have hI : W.legalGo cl sz x y l = (W.steps cl sz cx cy (dirR cx cy a b 8) && W.legalGo cl sz a b (l.drop (i + 1))) := hI
      simp (maxDischargeDepth := 8) only [go_sem, reduceIte, reduceCtorEq, Nat.reduceEqDiff, Nat.reduceAdd, Nat.reduceMul, Nat.reduceSub, Nat.reduceLeDiff, Nat.reduceLT, Nat.reduceBEq, Int.reduceToNat, Int.reduceEq, Int.reduceLT, Int.reduceLE, Int.reduceAdd, Int.reduceSub, Int.reduceMul, Int.reduceNeg, show decide ((i : Int) < (l.length : Int)) = true from decide_eq_true (by omega), hw, hX, hl.iaddrC hlt, hl.loadC hel, hl.lv, r_cell_Dir, r_class_Steps hW hg]
      cases h2 : W.steps cl sz cx cy (dirR cx cy a b 8) with
      | false =>
        rw [h2] at hI
        simp (maxDischargeDepth := 8) only [go_sem, reduceIte, reduceCtorEq, Nat.reduceEqDiff, Nat.reduceAdd, Nat.reduceMul, Nat.reduceSub, Nat.reduceLeDiff, Nat.reduceLT, Nat.reduceBEq, Int.reduceToNat, Int.reduceEq, Int.reduceLT, Int.reduceLE, Int.reduceAdd, Int.reduceSub, Int.reduceMul, Int.reduceNeg, hw, hI]
      | true =>
        rw [h2, Bool.true_and] at hI
        simp (maxDischargeDepth := 8) only [go_sem, reduceIte, reduceCtorEq, Nat.reduceEqDiff, Nat.reduceAdd, Nat.reduceMul, Nat.reduceSub, Nat.reduceLeDiff, Nat.reduceLT, Nat.reduceBEq, Int.reduceToNat, Int.reduceEq, Int.reduceLT, Int.reduceLE, Int.reduceAdd, Int.reduceSub, Int.reduceMul, Int.reduceNeg, hw, hX, hl.iaddrC hlt, hl.loadC hel, wrap_succ (show i ≤ 4611686018427387903 by simp only [two48] at hb; omega), hl.lv]
        rw [KL_keep _ _ _ (by simp (maxDischargeDepth := 8) only [go_sem, reduceIte, reduceCtorEq, Nat.reduceEqDiff, Nat.reduceAdd, Nat.reduceMul, Nat.reduceSub, Nat.reduceLeDiff, Nat.reduceLT, Nat.reduceBEq, Int.reduceToNat, Int.reduceEq, Int.reduceLT, Int.reduceLE, Int.reduceAdd, Int.reduceSub, Int.reduceMul, Int.reduceNeg, hl.lv])]
        simp (maxDischargeDepth := 8) only [go_sem, reduceIte, reduceCtorEq, Nat.reduceEqDiff, Nat.reduceAdd, Nat.reduceMul, Nat.reduceSub, Nat.reduceLeDiff, Nat.reduceLT, Nat.reduceBEq, Int.reduceToNat, Int.reduceEq, Int.reduceLT, Int.reduceLE, Int.reduceAdd, Int.reduceSub, Int.reduceMul, Int.reduceNeg]
        exact ih (i + 1, a, b) ⟨by dsimp only; omega, hI⟩ (by dsimp only; omega)
    · obtain rfl : i = l.length := by omega
      rw [List.drop_length] at hI
      simp (maxDischargeDepth := 8) only [go_sem, reduceIte, reduceCtorEq, Nat.reduceEqDiff, Nat.reduceAdd, Nat.reduceMul, Nat.reduceSub, Nat.reduceLeDiff, Nat.reduceLT, Nat.reduceBEq, Int.reduceToNat, Int.reduceEq, Int.reduceLT, Int.reduceLE, Int.reduceAdd, Int.reduceSub, Int.reduceMul, Int.reduceNeg, show decide ((l.length : Int) < (l.length : Int)) = false from decide_eq_false (by omega), hw, hI]
      rfl
theorem r_ref06_Legal {m : Mem} {p : QP} {W : Wd} {bl : List Bld} (hV : RefAt m p W bl) (ho : ∀ a b, (atL bl a b).isSome = (atL W.bl a b).isSome) (hg : W.Good) {v : SV} {l : List (Int × Int)} (hl : LiesD cellF m v l) (hb : l.length ≤ two48) {X : Mem} (hX : HpSub m X) (hw : X.Wf) (cl sz x y : Int) : RF tb f_ref06_Legal [.ptr (.hp p.k 0) 0, .agg [.int .i64 cl, .int .i64 sz], .agg [.int .i64 x, .int .i64 y], v] X = some (.bool (W.legal cl sz x y l), X) := by
  rw [RF_go t_ref06_Legal _ _ rfl]
  simp (maxDischargeDepth := 8) only [go_sem, reduceIte, reduceCtorEq, Nat.reduceEqDiff, Nat.reduceAdd, Nat.reduceMul, Nat.reduceSub, Nat.reduceLeDiff, Nat.reduceLT, Nat.reduceBEq, Int.reduceToNat, Int.reduceEq, Int.reduceLT, Int.reduceLE, Int.reduceAdd, Int.reduceSub, Int.reduceMul, Int.reduceNeg, s_ref06_Legal, hw, hX, r_ref06_Stands hV ho hg]
  unfold Wd.legal
  cases h1 : W.stands cl sz x y with
  | false => simp (maxDischargeDepth := 8) only [go_sem, reduceIte, reduceCtorEq, Nat.reduceEqDiff, Nat.reduceAdd, Nat.reduceMul, Nat.reduceSub, Nat.reduceLeDiff, Nat.reduceLT, Nat.reduceBEq, Int.reduceToNat, Int.reduceEq, Int.reduceLT, Int.reduceLE, Int.reduceAdd, Int.reduceSub, Int.reduceMul, Int.reduceNeg, hw]
  | true =>
    simp (maxDischargeDepth := 8) only [go_sem, reduceIte, reduceCtorEq, Nat.reduceEqDiff, Nat.reduceAdd, Nat.reduceMul, Nat.reduceSub, Nat.reduceLeDiff, Nat.reduceLT, Nat.reduceBEq, Int.reduceToNat, Int.reduceEq, Int.reduceLT, Int.reduceLE, Int.reduceAdd, Int.reduceSub, Int.reduceMul, Int.reduceNeg, hw, hl.len]
    rw [KL_keep _ _ _ (by simp (maxDischargeDepth := 8) only [go_sem, reduceIte, reduceCtorEq, Nat.reduceEqDiff, Nat.reduceAdd, Nat.reduceMul, Nat.reduceSub, Nat.reduceLeDiff, Nat.reduceLT, Nat.reduceBEq, Int.reduceToNat, Int.reduceEq, Int.reduceLT, Int.reduceLE, Int.reduceAdd, Int.reduceSub, Int.reduceMul, Int.reduceNeg, hl.lv])]
    simp (maxDischargeDepth := 8) only [go_sem, reduceIte, reduceCtorEq, Nat.reduceEqDiff, Nat.reduceAdd, Nat.reduceMul, Nat.reduceSub, Nat.reduceLeDiff, Nat.reduceLT, Nat.reduceBEq, Int.reduceToNat, Int.reduceEq, Int.reduceLT, Int.reduceLE, Int.reduceAdd, Int.reduceSub, Int.reduceMul, Int.reduceNeg]
    refine KL_indE (α := Nat × Int × Int) (fun a => l.length - a.1) (fun a => [(0, .ptr (.hp p.k 0) 0), (3, v), (5, .ptr (.st X.dep 0) 0), (6, .ptr (.st X.dep 1) 0), (9, .int .i64 (a.1 : Int))]) (fun a => X.fr [.cells true [.int .i64 cl, .int .i64 sz], .cells true [.int .i64 a.2.1, .int .i64 a.2.2]] none)
      (fun a => a.1 ≤ l.length ∧ W.legalGo cl sz x y l = W.legalGo cl sz a.2.1 a.2.2 (l.drop a.1)) ?_ (0, x, y) ⟨Nat.zero_le _, rfl⟩
    rintro ⟨i, cx, cy⟩ ⟨hi, hI⟩ ih
    dsimp only at hi hI ⊢
    simp (maxDischargeDepth := 8) only [go_sem, reduceIte, reduceCtorEq, Nat.reduceEqDiff, Nat.reduceAdd, Nat.reduceMul, Nat.reduceSub, Nat.reduceLeDiff, Nat.reduceLT, Nat.reduceBEq, Int.reduceToNat, Int.reduceEq, Int.reduceLT, Int.reduceLE, Int.reduceAdd, Int.reduceSub, Int.reduceMul, Int.reduceNeg, hw, hl.lv, hl.len]
    by_cases hlt : i < l.length
    · have hel : l[i]? = some l[i] := List.getElem?_eq_getElem hlt
      have hdr : l.drop i = l[i] :: l.drop (i + 1) := List.drop_eq_getElem_cons hlt
      generalize l[i] = c at hel hdr
      obtain ⟨a, b⟩ := c
      rw [hdr] at hI
      have hI : W.legalGo cl sz x y l = (W.steps cl sz cx cy (dirR cx cy a b 8) && W.legalGo cl sz a b (l.drop (i + 1))) := hI
      simp (maxDischargeDepth := 8) only [go_sem, reduceIte, reduceCtorEq, Nat.reduceEqDiff, Nat.reduceAdd, Nat.reduceMul, Nat.reduceSub, Nat.reduceLeDiff, Nat.reduceLT, Nat.reduceBEq, Int.reduceToNat, Int.reduceEq, Int.reduceLT, Int.reduceLE, Int.reduceAdd, Int.reduceSub, Int.reduceMul, Int.reduceNeg, show decide ((i : Int) < (l.length : Int)) = true from decide_eq_true (by omega), hw, hX, hl.iaddrC hlt, hl.loadC hel, hl.lv, r_ref03_Dir]
      cases h3 : decide (dirR cx cy a b 8 < 0) with
      | true =>
        rw [steps_neg W cl sz cx cy (of_decide_eq_true h3), Bool.false_and] at hI
        simp (maxDischargeDepth := 8) only [go_sem, reduceIte, reduceCtorEq, Nat.reduceEqDiff, Nat.reduceAdd, Nat.reduceMul, Nat.reduceSub, Nat.reduceLeDiff, Nat.reduceLT, Nat.reduceBEq, Int.reduceToNat, Int.reduceEq, Int.reduceLT, Int.reduceLE, Int.reduceAdd, Int.reduceSub, Int.reduceMul, Int.reduceNeg, hw, hI]
      | false =>
      simp (maxDischargeDepth := 8) only [go_sem, reduceIte, reduceCtorEq, Nat.reduceEqDiff, Nat.reduceAdd, Nat.reduceMul, Nat.reduceSub, Nat.reduceLeDiff, Nat.reduceLT, Nat.reduceBEq, Int.reduceToNat, Int.reduceEq, Int.reduceLT, Int.reduceLE, Int.reduceAdd, Int.reduceSub, Int.reduceMul, Int.reduceNeg, hw, hX, r_ref06_Steps hV ho hg]
      cases h2 : W.steps cl sz cx cy (dirR cx cy a b 8) with
      | false =>
        rw [h2] at hI
        simp (maxDischargeDepth := 8) only [go_sem, reduceIte, reduceCtorEq, Nat.reduceEqDiff, Nat.reduceAdd, Nat.reduceMul, Nat.reduceSub, Nat.reduceLeDiff, Nat.reduceLT, Nat.reduceBEq, Int.reduceToNat, Int.reduceEq, Int.reduceLT, Int.reduceLE, Int.reduceAdd, Int.reduceSub, Int.reduceMul, Int.reduceNeg, hw, hI]
      | true =>
        rw [h2, Bool.true_and] at hI
        simp (maxDischargeDepth := 8) only [go_sem, reduceIte, reduceCtorEq, Nat.reduceEqDiff, Nat.reduceAdd, Nat.reduceMul, Nat.reduceSub, Nat.reduceLeDiff, Nat.reduceLT, Nat.reduceBEq, Int.reduceToNat, Int.reduceEq, Int.reduceLT, Int.reduceLE, Int.reduceAdd, Int.reduceSub, Int.reduceMul, Int.reduceNeg, hw, hX, hl.iaddrC hlt, hl.loadC hel, wrap_succ (show i ≤ 4611686018427387903 by simp only [two48] at hb; omega), hl.lv]
        rw [KL_keep _ _ _ (by simp (maxDischargeDepth := 8) only [go_sem, reduceIte, reduceCtorEq, Nat.reduceEqDiff, Nat.reduceAdd, Nat.reduceMul, Nat.reduceSub, Nat.reduceLeDiff, Nat.reduceLT, Nat.reduceBEq, Int.reduceToNat, Int.reduceEq, Int.reduceLT, Int.reduceLE, Int.reduceAdd, Int.reduceSub, Int.reduceMul, Int.reduceNeg, hl.lv])]
        simp (maxDischargeDepth := 8) only [go_sem, reduceIte, reduceCtorEq, Nat.reduceEqDiff, Nat.reduceAdd, Nat.reduceMul, Nat.reduceSub, Nat.reduceLeDiff, Nat.reduceLT, Nat.reduceBEq, Int.reduceToNat, Int.reduceEq, Int.reduceLT, Int.reduceLE, Int.reduceAdd, Int.reduceSub, Int.reduceMul, Int.reduceNeg]
        exact ih (i + 1, a, b) ⟨by dsimp only; omega, hI⟩ (by dsimp only; omega)
    · obtain rfl : i = l.length := by omega
      rw [List.drop_length] at hI
      simp (maxDischargeDepth := 8) only [go_sem, reduceIte, reduceCtorEq, Nat.reduceEqDiff, Nat.reduceAdd, Nat.reduceMul, Nat.reduceSub, Nat.reduceLeDiff, Nat.reduceLT, Nat.reduceBEq, Int.reduceToNat, Int.reduceEq, Int.reduceLT, Int.reduceLE, Int.reduceAdd, Int.reduceSub, Int.reduceMul, Int.reduceNeg, show decide ((l.length : Int) < (l.length : Int)) = false from decide_eq_false (by omega), hw, hI]
      rfl
def Wd.plain (w h : Int) : Wd := ⟨w, h, List.replicate (w * h).toNat 0, [], []⟩
theorem plain_good (w h : Int) : (Wd.plain w h).Good := fun x hx => by
  have := List.eq_of_mem_replicate hx
  omega
theorem plain33 : newW 3 3 (List.replicate 9 0) [] = some (Wd.plain 3 3) := by rfl
theorem p33a : (Wd.plain 3 3).steps 0 2 0 0 4 = true := by decide +kernel
theorem p33b : (Wd.plain 3 3).stands 0 2 2 0 = false := by decide +kernel
theorem r_law06_awake (X : Mem) (hw : X.Wf) (hhb : X.hb ≤ X.hl) : ∃ H' u, RF tb f_law06_awake [] X = some (.bool true, (X.hp H').es (escMin X.esc u)) ∧ Keep [] X.heap H' := by
  rw [RF_go t_law06_awake _ _ rfl, push_hp]
  generalize hH : X.heap = H
  have hHl : X.hl = H.length := by rw [← hH]; rfl
  obtain ⟨H1, hH1⟩ : ∃ H1, H ++ [(0, SBk.cells true (List.replicate 9 [SV.int IntKind.u8 0]).flatten)] = H1 := ⟨_, rfl⟩
  have own : Own byteF H1 (.sl (.hp H.length 0) 0 9 (some 9) 1) (List.replicate 9 0) := by rw [← hH1]; exact mkslV_own byteF_even H 0 9
  have k1 : Keep [] H H1 := by rw [← hH1]; exact Keep.app _ _ _
  have hn := r_grid_New (X := (X.hp H1).fr [] none) (bl := []) (own.lies byteF_even) (LiesD.nil bldF _) (by decide) (fr_wf (hp_wf hw) _ _) (by show X.hb ≤ H1.length; have := k1.1; omega) 3 3
  rw [plain33] at hn
  obtain ⟨H2, u, p, h1, hO, k2, hF⟩ := hn
  change Keep [] H1 H2 at k2
  have hg := plain_good 3 3
  simp (maxDischargeDepth := 8) only [go_sem, reduceIte, reduceCtorEq, Nat.reduceEqDiff, Nat.reduceAdd, Nat.reduceMul, Nat.reduceSub, Nat.reduceLeDiff, Nat.reduceLT, Nat.reduceBEq, Int.reduceToNat, Int.reduceEq, Int.reduceLT, Int.reduceLE, Int.reduceAdd, Int.reduceSub, Int.reduceMul, Int.reduceNeg, s_law06_awake, hw, hH, show (9 : Int) ≤ (two48 : Int) from by decide, hH1, h1, show ((0 : Int) == 0) = true from rfl, r_class_Steps hO.at_ hg, r_class_Stands hO.at_ hg, r_class_On, p33a, p33b, show onB 2 0 = false from rfl]
  exact ⟨_, _, rfl, by rw [← hH] at k1 ⊢; exact (k1.trans k2).back0⟩
theorem aw06 {X : Mem} {z : Option (SV × Mem)} (hz : RF tb f_law06_awake [] X = z) (hw : X.Wf) (hhb : X.hb ≤ X.hl) : ∃ H' u, z = some (.bool true, (X.hp H').es (escMin X.esc u)) ∧ Keep [] X.heap H' := by
  rw [← hz]
  exact r_law06_awake X hw hhb
structure MapIn (X : Mem) (tv bv : SV) (tiles : List Int) (bl : List Bld) : Prop where
  t : LiesD byteF (Hm X.heap) tv tiles
  g : ∀ t ∈ tiles, 0 ≤ t ∧ t ≤ 255
  b : LiesD bldF (Hm X.heap) bv bl
  n : bl.length ≤ two48
theorem both_of {X : Mem} {tv bv : SV} {tiles : List Int} {bl : List Bld} {w hh : Int} {z : Option (SV × Mem)} (hz : RF tb f_law06_Both [.agg [.int .i64 w, .int .i64 hh, tv, bv]] X = z) (hm : MapIn X tv bv tiles bl) (hw : X.Wf) (hhb : X.hb ≤ X.hl) :
    (∃ H' u, z = some (.tup [.nilp, .nilp, .bool false], (X.hp H').es (escMin X.esc u)) ∧ Keep [] X.heap H') ∨
    (∃ H' u p q, z = some (.tup [.ptr (.hp p.k 0) 0, .ptr (.hp q.k 0) 0, .bool true], (X.hp H').es (escMin X.esc u)) ∧
    WorldOwn H' p ⟨w, hh, tiles, bl, []⟩ ∧ RefOwn H' q ⟨w, hh, tiles, bl, []⟩ bl ∧ Wd.Good ⟨w, hh, tiles, bl, []⟩ ∧ Keep [] X.heap H' ∧ (∀ i ∈ p.fp, X.heap.length ≤ i ∧ i ∉ q.fp) ∧ (∀ i ∈ q.fp, X.heap.length ≤ i)) := by
  rw [← hz]
  cases hc : chkB w hh tiles bl with
  | false => exact .inl (r_law06_Both_no hm.t hm.g hm.b hm.n hw hhb w hh hc)
  | true =>
    right
    obtain ⟨H', u, p, q, h1, h2, h3, h4, h5, h6⟩ := r_law06_Both hm.t hm.g hm.b hm.n hw hhb w hh hc
    exact ⟨H', u, p, q, h1, h2, h3, fun x hx => ⟨(hm.g x hx).1, (chk_in hc).2.2.2.2.1 x hx⟩, h4, h5, h6⟩
theorem hxs_cell (l : List (Int × Int)) : SV.hxs (l.flatMap cellF.enc) = 0 := by induction l with | nil => rfl | cons a l ih => simp only [List.flatMap_cons]; exact ih
theorem copyC {H : Hp} {v : SV} {l : List (Int × Int)} (hl : LiesD cellF (Hm H) v l) (hb : 2 * l.length * 16 ≤ two48) (X : Mem) (hhb : X.hb ≤ H.length) (aw : Bk → Bool) (haw : ∀ k w, aw (.hp k w) = true) :
    ∃ v' H', (∀ f e, appV 2 16 [.int .i64 0, .int .i64 0] aw (.sl (.hp H.length 0) 0 0 (some 0) 2) v ((X.hp (H ++ [(0, .cells true [])])).fr f e) = some (v', (X.hp H').fr f e)) ∧ Own cellF H' v' l ∧ Keep [] H H' ∧ (∀ i ∈ slFp v', H.length ≤ i) ∧ IsSl v' := by
  obtain ⟨v', H', ha, h⟩ := app_fresh cellF_even (by decide) cellF_ok hxs_cell hl (bytes := 16) hb (by simp only [two48] at *; omega) X hhb
  exact ⟨v', H', ha [.int .i64 0, .int .i64 0] rfl aw haw, h⟩
theorem r_law06_ClassPaths {X : Mem} {tv bv : SV} {tiles : List Int} {bl : List Bld} (hm : MapIn X tv bv tiles bl) {v : SV} {l : List (Int × Int)} (hl : LiesD cellF (Hm X.heap) v l) (hlb : 2 * l.length * 16 ≤ two48) (hw : X.Wf) (hhb : X.hb ≤ X.hl) (w hh cl sz x y : Int) : ∃ m', RF tb f_law06_ClassPaths [.agg [.int .i64 w, .int .i64 hh, tv, bv], .agg [.int .i64 cl, .int .i64 sz, .int .i64 x, .int .i64 y, v]] X = some (.bool true, m') := by
  rw [RF_go t_law06_ClassPaths _ _ rfl, push_hp]
  simp (maxDischargeDepth := 8) only [go_sem, reduceIte, reduceCtorEq, Nat.reduceEqDiff, Nat.reduceAdd, Nat.reduceMul, Nat.reduceSub, Nat.reduceLeDiff, Nat.reduceLT, Nat.reduceBEq, Int.reduceToNat, Int.reduceEq, Int.reduceLT, Int.reduceLE, Int.reduceAdd, Int.reduceSub, Int.reduceMul, Int.reduceNeg, s_law06_ClassPaths, hw, hm.t.cell, hm.b.cell, hl.cell]
  generalize hz : RF tb f_law06_Both _ _ = z
  rcases both_of hz ⟨hm.t, hm.g, hm.b, hm.n⟩ (by simp (maxDischargeDepth := 8) only [go_sem, reduceIte, reduceCtorEq, Nat.reduceEqDiff, Nat.reduceAdd, Nat.reduceMul, Nat.reduceSub, Nat.reduceLeDiff, Nat.reduceLT, Nat.reduceBEq, Int.reduceToNat, Int.reduceEq, Int.reduceLT, Int.reduceLE, Int.reduceAdd, Int.reduceSub, Int.reduceMul, Int.reduceNeg, hw]) hhb with ⟨H', u, rfl, k⟩ | ⟨H', u, p, q, rfl, hO, hR, hg, k, -, -⟩
  · have hle : X.hb ≤ H'.length := by have := k.1; exact Nat.le_trans hhb this
    have hl' := hl.keep k (by simp)
    simp (maxDischargeDepth := 8) only [go_sem, reduceIte, reduceCtorEq, Nat.reduceEqDiff, Nat.reduceAdd, Nat.reduceMul, Nat.reduceSub, Nat.reduceLeDiff, Nat.reduceLT, Nat.reduceBEq, Int.reduceToNat, Int.reduceEq, Int.reduceLT, Int.reduceLE, Int.reduceAdd, Int.reduceSub, Int.reduceMul, Int.reduceNeg, hw, r_class_Cost hl', r_ref06_Cost hl', show ∀ n : Int, (n != n) = false from fun n => by simp]
    generalize hz : RF tb f_law06_awake _ _ = z
    obtain ⟨H', u, rfl, -⟩ := aw06 hz (by simp (maxDischargeDepth := 8) only [go_sem, reduceIte, reduceCtorEq, Nat.reduceEqDiff, Nat.reduceAdd, Nat.reduceMul, Nat.reduceSub, Nat.reduceLeDiff, Nat.reduceLT, Nat.reduceBEq, Int.reduceToNat, Int.reduceEq, Int.reduceLT, Int.reduceLE, Int.reduceAdd, Int.reduceSub, Int.reduceMul, Int.reduceNeg, hw]) hle
    simp (maxDischargeDepth := 8) only [go_sem, reduceIte, reduceCtorEq, Nat.reduceEqDiff, Nat.reduceAdd, Nat.reduceMul, Nat.reduceSub, Nat.reduceLeDiff, Nat.reduceLT, Nat.reduceBEq, Int.reduceToNat, Int.reduceEq, Int.reduceLT, Int.reduceLE, Int.reduceAdd, Int.reduceSub, Int.reduceMul, Int.reduceNeg, hw]
    exact ⟨_, rfl⟩
  · have hle : X.hb ≤ H'.length := by have := k.1; exact Nat.le_trans hhb this
    have hl' := hl.keep k (by simp)
    simp (maxDischargeDepth := 8) only [go_sem, reduceIte, reduceCtorEq, Nat.reduceEqDiff, Nat.reduceAdd, Nat.reduceMul, Nat.reduceSub, Nat.reduceLeDiff, Nat.reduceLT, Nat.reduceBEq, Int.reduceToNat, Int.reduceEq, Int.reduceLT, Int.reduceLE, Int.reduceAdd, Int.reduceSub, Int.reduceMul, Int.reduceNeg, hw, r_class_Cost hl', r_ref06_Cost hl', show ∀ n : Int, (n != n) = false from fun n => by simp]
    obtain ⟨v', H2, ha, o1, k2, o3, s1⟩ := copyC hl' hlb X hle (fun b => decide ¬Bk.st X.dep 1 = b) (by simp)
    have hle2 : X.hb ≤ H2.length := by have := k2.1; omega
    simp (maxDischargeDepth := 8) only [go_sem, reduceIte, reduceCtorEq, Nat.reduceEqDiff, Nat.reduceAdd, Nat.reduceMul, Nat.reduceSub, Nat.reduceLeDiff, Nat.reduceLT, Nat.reduceBEq, Int.reduceToNat, Int.reduceEq, Int.reduceLT, Int.reduceLE, Int.reduceAdd, Int.reduceSub, Int.reduceMul, Int.reduceNeg, hw, ha, r_class_Legal (hO.keep k2 (by simp)).at_ hg (o1.lies cellF_even) (show l.length ≤ two48 by simp only [two48] at *; omega), r_ref06_Legal (hR.keep k2 (by simp)).at_ (fun _ _ => rfl) hg (hl'.keep k2 (by simp)) (show l.length ≤ two48 by simp only [two48] at *; omega)]
    generalize hz : RF tb f_law06_awake _ _ = z
    obtain ⟨H', u, rfl, -⟩ := aw06 hz (by simp (maxDischargeDepth := 8) only [go_sem, reduceIte, reduceCtorEq, Nat.reduceEqDiff, Nat.reduceAdd, Nat.reduceMul, Nat.reduceSub, Nat.reduceLeDiff, Nat.reduceLT, Nat.reduceBEq, Int.reduceToNat, Int.reduceEq, Int.reduceLT, Int.reduceLE, Int.reduceAdd, Int.reduceSub, Int.reduceMul, Int.reduceNeg, hw]) hle2
    simp (maxDischargeDepth := 8) only [go_sem, reduceIte, reduceCtorEq, Nat.reduceEqDiff, Nat.reduceAdd, Nat.reduceMul, Nat.reduceSub, Nat.reduceLeDiff, Nat.reduceLT, Nat.reduceBEq, Int.reduceToNat, Int.reduceEq, Int.reduceLT, Int.reduceLE, Int.reduceAdd, Int.reduceSub, Int.reduceMul, Int.reduceNeg, hw]
    exact ⟨_, rfl⟩
/-- Rounds, each of which keeps what lies behind, or notes it. -/
inductive RoundsN (F : Tbl) (b : Bk) (P : Mem → Prop) (H : Nat) : List (List SV) → Mem → Option Nat → Mem → Option Nat → Bool → Prop
  | nil (m : Mem) (u : Option Nat) : RoundsN F b P H [] m u m u true
  | stop {x : List SV} {L : List (List SV)} {m m' : Mem} {u d : Option Nat} (h : Yields F b x m m' d false) (hp : P m') (hk : m'.hl = m.hl ∨ ∃ k, d = some k ∧ k < H) : RoundsN F b P H (x :: L) m u m' (escMin u d) false
  | next {x : List SV} {L : List (List SV)} {m m' m'' : Mem} {u d u' : Option Nat} {go : Bool} (h : Yields F b x m m' d true) (hp : P m') (hk : m'.hl = m.hl ∨ ∃ k, d = some k ∧ k < H) (t : RoundsN F b P H L m' (escMin u d) m'' u' go) : RoundsN F b P H (x :: L) m u m'' u' go
theorem noted_next {H : Nat} {m m' : Mem} {u d : Option Nat} (h : Noted H m u) (hk : m'.hl = m.hl ∨ ∃ k, d = some k ∧ k < H) : Noted H m' (escMin u d) := by
  rcases hk with hk | ⟨k, rfl, hk⟩
  · rcases h with h | ⟨j, rfl, hj⟩
    · exact .inl (hk.trans h)
    · cases d with
      | none => exact .inr ⟨j, rfl, hj⟩
      | some d => exact .inr ⟨min j d, rfl, by omega⟩
  · cases u with
    | none => exact .inr ⟨k, rfl, hk⟩
    | some j => exact .inr ⟨min j k, rfl, by omega⟩
theorem RoundsN.noted {F : Tbl} {b : Bk} {P : Mem → Prop} {H : Nat} {L : List (List SV)} {m m' : Mem} {u u' : Option Nat} {go : Bool} (h : RoundsN F b P H L m u m' u' go) (h0 : Noted H m u) : Noted H m' u' := by
  induction h with
  | nil => exact h0
  | stop _ _ hk => exact noted_next h0 hk
  | next _ _ hk _ ih => exact ih (noted_next h0 hk)
theorem RoundsN.weak {F : Tbl} {b : Bk} {P : Mem → Prop} {H H' : Nat} {L : List (List SV)} {m m' : Mem} {u u' : Option Nat} {go : Bool} (h : RoundsN F b P H L m u m' u' go) (hh : H ≤ H') : RoundsN F b P H' L m u m' u' go := by
  induction h with
  | nil => exact .nil _ _
  | stop h hp hk => exact .stop h hp (hk.imp_right fun ⟨k, h1, h2⟩ => ⟨k, h1, by omega⟩)
  | next h hp hk _ ih => exact .next h hp (hk.imp_right fun ⟨k, h1, h2⟩ => ⟨k, h1, by omega⟩) ih
theorem RoundsN.last {F : Tbl} {b : Bk} {P : Mem → Prop} {H : Nat} {L : List (List SV)} {m m' : Mem} {u u' : Option Nat} {go : Bool} (h : RoundsN F b P H L m u m' u' go) (h0 : P m) : P m' := by
  induction h with
  | nil => exact h0
  | stop _ hp => exact hp
  | next _ hp _ _ ih => exact ih hp
section
open Go.RowKit Go.WideShapes
theorem slB_cases {α : Type} (d : Fl α) (s : Sl α) : slB d s = [] ∨ slB d s = [s.l.flatMap d.enc] := by
  unfold slB; split <;> simp
theorem blk_at {n0 : In} {L : List (List SV)} (h : n0.map (·.2) = L) {j : Nat} {c : List SV} (hj : L[j]? = some c) (pre post : In) : ∃ t, (pre ++ n0 ++ post)[pre.length + j]? = some (t, c) := by
  rw [← h, List.getElem?_map] at hj
  cases hx : n0[j]? with
  | none => rw [hx] at hj; cases hj
  | some x =>
    rw [hx] at hj
    simp only [Option.map_some, Option.some.injEq] at hj
    have hlt := (List.getElem?_eq_some_iff.1 hx).1
    refine ⟨x.1, ?_⟩
    rw [List.append_assoc, List.getElem?_append_right (Nat.le_add_right _ _), Nat.add_sub_cancel_left, List.getElem?_append_left hlt, hx, ← hj]
/-- A slice that came in. -/
theorem sl_inG {α : Type} {d : Fl α} (hd : d.Even) {P : Program} {e : TypeId} {ok : α → Prop} {s : Sl α} (hok : slOk P e ok s) {pre n0 post : In} {A B : List (List SV)} (e0 : n0.map (·.2) = A ++ slB d s ++ B) : LiesD d (In.mem (pre ++ n0 ++ post)) (slV d s (pre.length + A.length)) s.l := by
  refine lies_in hd hok.2.2.2.1 hok.2.2.2.2 ?_
  rcases slB_cases d s with h | h
  · exact .inl h
  · refine .inr ⟨_, h, ?_⟩
    rw [h] at e0
    obtain ⟨t, ht⟩ := blk_at e0 (j := A.length) (c := s.l.flatMap d.enc) (by simp) pre post
    exact In.get (x := (t, _)) ht
theorem sl_bd {α : Type} {P : Program} {e : TypeId} {ok : α → Prop} {s : Sl α} (hok : slOk P e ok s) {b : Nat} (hb : P.bytesOf e = b) : 2 * s.l.length * b ≤ two48 := by
  have := hok.2.1
  rw [hb] at this
  have h2 : 2 * s.l.length * b = 2 * (s.l.length * b) := Nat.mul_assoc _ _ _
  simp only [two48, reachBytes, maxLen] at *
  omega
abbrev Bl' := Int × ((Int × Int) × (Int × Int))
abbrev bldF' : Fl Bl' := Fl.pair (Fl.int .i64) (Fl.pair (Fl.pair (Fl.int .i64) (Fl.int .i64)) (Fl.pair (Fl.int .i64) (Fl.int .i64)))
theorem bldF'_even : bldF'.Even := ⟨fun _ => rfl⟩
def bl5 (b : Bl') : Bld := (b.1, b.2.1.1, b.2.1.2, b.2.2.1, b.2.2.2)
theorem bl5_lies {m : Mem} {v : SV} {l : List Bl'} (h : LiesD bldF' m v l) : LiesD bldF m v (l.map bl5) := by
  unfold LiesD at *
  rw [List.length_map, show (l.map bl5).flatMap bldF.enc = l.flatMap bldF'.enc by rw [List.flatMap_map]; rfl]
  exact h
abbrev MT := Int × Int × Sl Int × Sl Bl'
abbrev rdM : Rd MT := Rd.pair (Rd.flat (Fl.int .i64)) (Rd.pair (Rd.flat (Fl.int .i64)) (Rd.pair (Rd.slice byteF) (Rd.slice bldF')))
theorem rdM_blks (a : MT) (n : Nat) : rdM.blks a n = slB byteF a.2.2.1 ++ slB bldF' a.2.2.2 := by simp [rdM, Rd.pair, Rd.flat, Rd.slice]
theorem mapIn_of {P : Program} {e e' : TypeId} {okB : Bl' → Prop} {t : Sl Int} {b : Sl Bl'} (h1 : slOk P e (inR .u8) t) (h2 : slOk P e' okB b) (hB : P.bytesOf e' = 40) {pre n0 post : In} (e0 : n0.map (·.2) = slB byteF t ++ slB bldF' b) :
    MapIn (In.mem (pre ++ n0 ++ post)) (slV byteF t pre.length) (slV bldF' b (pre.length + (slB byteF t).length)) t.l (b.l.map bl5) := by
  refine ⟨?_, fun x hx => inR_u8 (h1.2.2.1 x hx), ?_, ?_⟩
  · have := sl_inG byteF_even h1 (pre := pre) (post := post) (A := []) (B := slB bldF' b) e0
    exact this
  · have := sl_inG bldF'_even h2 (pre := pre) (post := post) (A := slB byteF t) (B := []) (by rw [List.append_nil]; exact e0)
    exact bl5_lies this
  · have := sl_bd h2 hB
    rw [List.length_map]
    omega
theorem law06_ClassPaths {P : Program} {e e' e'' : TypeId} {okB : Bl' → Prop} {okC : Int × Int → Prop} (a : MT) (b : (Int × Int) × (Int × Int) × Sl (Int × Int)) (h1 : slOk P e (inR .u8) a.2.2.1) (h2 : slOk P e' okB a.2.2.2) (hB : P.bytesOf e' = 40) (h3 : slOk P e'' okC b.2.2) (h16 : P.bytesOf e'' = 16) {n0 n1 : In} (e0 : n0.map (·.2) = rdM.blks a 0)
    (e1 : n1.map (·.2) = (Rd.pair (Rd.flat cellF) (Rd.pair (Rd.flat cellF) (Rd.slice cellF))).blks b ([] ++ n0).length) : ∃ m', RF tb f_law06_ClassPaths [.agg (rdM.cells a 0), .agg ((Rd.pair (Rd.flat cellF) (Rd.pair (Rd.flat cellF) (Rd.slice cellF))).cells b ([] ++ n0).length)] (In.mem ([] ++ n0 ++ n1)) = some (.bool true, m') := by
  rw [rdM_blks] at e0
  have e1 : n1.map (·.2) = slB cellF b.2.2 := by simpa [Rd.pair, Rd.flat, Rd.slice] using e1
  have hl := sl_inG cellF_even h3 (pre := [] ++ n0) (post := []) (A := []) (B := []) (by simpa using e1)
  rw [List.append_nil] at hl
  exact r_law06_ClassPaths (mapIn_of (pre := []) h1 h2 hB e0) hl (sl_bd h3 h16) (In.wf _) (Nat.zero_le _) _ _ _ _ _ _
end
end Go.Sh.T
