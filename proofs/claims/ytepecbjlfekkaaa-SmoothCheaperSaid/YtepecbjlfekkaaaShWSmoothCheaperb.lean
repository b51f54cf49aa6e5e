import Derived.Test.YtepecbjlfekkaaaShWSmoothCheapera
import Derived.Test.YtepecbjlfekkaaaShArg
set_option linter.all false
set_option linter.unusedVariables false
set_option linter.unusedSimpArgs false
set_option autoImplicit false
namespace Go.Sh.T
open Go.Sh
set_option maxHeartbeats 8000000
set_option maxRecDepth 20000
def mayS (cl sz : Int) : Bool := decide (cl ≥ 0) && decide (cl < 4) && decide (sz ≥ 1) && decide (sz ≤ 4)
def onB (cl t : Int) : Bool := (decide (cl = 0) && (decide (t = 0) || decide (t = 1))) || (decide (cl = 1) && decide (t = 0)) || (decide (cl = 2) && decide (t = 2)) || (decide (cl = 3) && (decide (t = 0) || decide (t = 2)))
theorem r_class_May (X : Mem) (hw : X.Wf) (cl sz : Int) : RF tb f_class_May [.agg [.int .i64 cl, .int .i64 sz]] X = some (.bool (mayS cl sz), X) := by
  rw [RF_go t_class_May _ _ rfl]
  simp (maxDischargeDepth := 8) only [go_sem, reduceIte, reduceCtorEq, Nat.reduceEqDiff, Nat.reduceAdd, Nat.reduceMul, Nat.reduceSub, Nat.reduceLeDiff, Nat.reduceLT, Nat.reduceBEq, Int.reduceToNat, Int.reduceEq, Int.reduceLT, Int.reduceLE, Int.reduceAdd, Int.reduceSub, Int.reduceMul, Int.reduceNeg, s_class_May, hw]
  repeat' ((first | rw [KG_bool] | rw [KC_bool]); split <;> rename_i h <;> (try simp only [Bool.not_eq_true, Bool.not_not, Bool.not_eq_eq_eq_not, Bool.not_true, Bool.not_false] at h) <;> simp (maxDischargeDepth := 8) only [go_sem, reduceIte, reduceCtorEq, Nat.reduceEqDiff, Nat.reduceAdd, Nat.reduceMul, Nat.reduceSub, Nat.reduceLeDiff, Nat.reduceLT, Nat.reduceBEq, Int.reduceToNat, Int.reduceEq, Int.reduceLT, Int.reduceLE, Int.reduceAdd, Int.reduceSub, Int.reduceMul, Int.reduceNeg, h, hw])
  all_goals simp_all [mayS]
  all_goals first | done | (intros; omega)
theorem r_ref06_May (X : Mem) (hw : X.Wf) (cl sz : Int) : RF tb f_ref06_May [.agg [.int .i64 cl, .int .i64 sz]] X = some (.bool (mayS cl sz), X) := by
  rw [RF_go t_ref06_May _ _ rfl]
  simp (maxDischargeDepth := 8) only [go_sem, reduceIte, reduceCtorEq, Nat.reduceEqDiff, Nat.reduceAdd, Nat.reduceMul, Nat.reduceSub, Nat.reduceLeDiff, Nat.reduceLT, Nat.reduceBEq, Int.reduceToNat, Int.reduceEq, Int.reduceLT, Int.reduceLE, Int.reduceAdd, Int.reduceSub, Int.reduceMul, Int.reduceNeg, s_ref06_May, hw]
  repeat' ((first | rw [KG_bool] | rw [KC_bool]); split <;> rename_i h <;> (try simp only [Bool.not_eq_true, Bool.not_not, Bool.not_eq_eq_eq_not, Bool.not_true, Bool.not_false] at h) <;> simp (maxDischargeDepth := 8) only [go_sem, reduceIte, reduceCtorEq, Nat.reduceEqDiff, Nat.reduceAdd, Nat.reduceMul, Nat.reduceSub, Nat.reduceLeDiff, Nat.reduceLT, Nat.reduceBEq, Int.reduceToNat, Int.reduceEq, Int.reduceLT, Int.reduceLE, Int.reduceAdd, Int.reduceSub, Int.reduceMul, Int.reduceNeg, h, hw])
  all_goals simp_all [mayS]
  all_goals first | done | (intros; omega)
theorem r_class_On (X : Mem) (hw : X.Wf) (cl t : Int) : RF tb f_class_On [.int .i64 cl, .int .i64 t] X = some (.bool (onB cl t), X) := by
  rw [RF_go t_class_On _ _ rfl]
  simp (maxDischargeDepth := 8) only [go_sem, reduceIte, reduceCtorEq, Nat.reduceEqDiff, Nat.reduceAdd, Nat.reduceMul, Nat.reduceSub, Nat.reduceLeDiff, Nat.reduceLT, Nat.reduceBEq, Int.reduceToNat, Int.reduceEq, Int.reduceLT, Int.reduceLE, Int.reduceAdd, Int.reduceSub, Int.reduceMul, Int.reduceNeg, s_class_On, hw]
  by_cases hc : 0 ≤ cl ∧ cl < 4 ∧ 0 ≤ t ∧ t < 4
  · have h1 : cl = 0 ∨ cl = 1 ∨ cl = 2 ∨ cl = 3 := by omega
    have h2 : t = 0 ∨ t = 1 ∨ t = 2 ∨ t = 3 := by omega
    rcases h1 with rfl | rfl | rfl | rfl <;> rcases h2 with rfl | rfl | rfl | rfl <;>
      (simp (maxDischargeDepth := 8) only [go_sem, reduceIte, reduceCtorEq, Nat.reduceEqDiff, Nat.reduceAdd, Nat.reduceMul, Nat.reduceSub, Nat.reduceLeDiff, Nat.reduceLT, Nat.reduceBEq, Int.reduceToNat, Int.reduceEq, Int.reduceLT, Int.reduceLE, Int.reduceAdd, Int.reduceSub, Int.reduceMul, Int.reduceNeg, hw, show decide ((0 : Int) ≥ 0) = true from rfl, show decide ((1 : Int) ≥ 0) = true from rfl, show decide ((2 : Int) ≥ 0) = true from rfl, show decide ((3 : Int) ≥ 0) = true from rfl, show decide ((0 : Int) < 4) = true from rfl, show decide ((1 : Int) < 4) = true from rfl, show decide ((2 : Int) < 4) = true from rfl, show decide ((3 : Int) < 4) = true from rfl, show inB 0 4 = true from rfl, show inB 1 4 = true from rfl, show inB 2 4 = true from rfl, show inB 3 4 = true from rfl, ibits]; rfl)
  · have e : onB cl t = false := by
      simp only [onB, Bool.or_eq_false_iff, Bool.and_eq_false_iff, decide_eq_false_iff_not]
      omega
    rw [e]
    repeat' ((first | rw [KG_bool] | rw [KC_bool]); split <;> rename_i h <;> (try simp only [Bool.not_eq_true, Bool.not_not, Bool.not_eq_eq_eq_not, Bool.not_true, Bool.not_false] at h) <;> simp (maxDischargeDepth := 8) only [go_sem, reduceIte, reduceCtorEq, Nat.reduceEqDiff, Nat.reduceAdd, Nat.reduceMul, Nat.reduceSub, Nat.reduceLeDiff, Nat.reduceLT, Nat.reduceBEq, Int.reduceToNat, Int.reduceEq, Int.reduceLT, Int.reduceLE, Int.reduceAdd, Int.reduceSub, Int.reduceMul, Int.reduceNeg, h, hw])
    all_goals first | rfl | (exfalso; simp at *; omega)
theorem r_ref06_On (X : Mem) (hw : X.Wf) (cl t : Int) : RF tb f_ref06_On [.int .i64 cl, .int .i64 t] X = some (.bool (onB cl t), X) := by
  rw [RF_go t_ref06_On _ _ rfl]
  simp (maxDischargeDepth := 8) only [go_sem, reduceIte, reduceCtorEq, Nat.reduceEqDiff, Nat.reduceAdd, Nat.reduceMul, Nat.reduceSub, Nat.reduceLeDiff, Nat.reduceLT, Nat.reduceBEq, Int.reduceToNat, Int.reduceEq, Int.reduceLT, Int.reduceLE, Int.reduceAdd, Int.reduceSub, Int.reduceMul, Int.reduceNeg, s_ref06_On, hw]
  repeat' ((first | rw [KG_bool] | rw [KC_bool]); split <;> rename_i h <;> (try simp only [Bool.not_eq_true, Bool.not_not, Bool.not_eq_eq_eq_not, Bool.not_true, Bool.not_false] at h) <;> simp (maxDischargeDepth := 8) only [go_sem, reduceIte, reduceCtorEq, Nat.reduceEqDiff, Nat.reduceAdd, Nat.reduceMul, Nat.reduceSub, Nat.reduceLeDiff, Nat.reduceLT, Nat.reduceBEq, Int.reduceToNat, Int.reduceEq, Int.reduceLT, Int.reduceLE, Int.reduceAdd, Int.reduceSub, Int.reduceMul, Int.reduceNeg, h, hw])
  all_goals simp_all [onB]
  all_goals rfl
def footR (cl sz x y : Int) : Rc := if mayS cl sz && mayB x y sz sz then (x, y, sz, sz) else (0, 0, 0, 0)
theorem r_class_Foot (X : Mem) (hw : X.Wf) (cl sz x y : Int) : RF tb f_class_Foot [.agg [.int .i64 cl, .int .i64 sz], .agg [.int .i64 x, .int .i64 y]] X = some (rectR (footR cl sz x y), X) := by
  rw [RF_go t_class_Foot _ _ rfl]
  simp (maxDischargeDepth := 8) only [go_sem, reduceIte, reduceCtorEq, Nat.reduceEqDiff, Nat.reduceAdd, Nat.reduceMul, Nat.reduceSub, Nat.reduceLeDiff, Nat.reduceLT, Nat.reduceBEq, Int.reduceToNat, Int.reduceEq, Int.reduceLT, Int.reduceLE, Int.reduceAdd, Int.reduceSub, Int.reduceMul, Int.reduceNeg, s_class_Foot, hw, r_class_May, r_cell_May]
  repeat' ((first | rw [KG_bool] | rw [KC_bool]); split <;> rename_i h <;> (try simp only [Bool.not_eq_true, Bool.not_not, Bool.not_eq_eq_eq_not, Bool.not_true, Bool.not_false] at h) <;> simp (maxDischargeDepth := 8) only [go_sem, reduceIte, reduceCtorEq, Nat.reduceEqDiff, Nat.reduceAdd, Nat.reduceMul, Nat.reduceSub, Nat.reduceLeDiff, Nat.reduceLT, Nat.reduceBEq, Int.reduceToNat, Int.reduceEq, Int.reduceLT, Int.reduceLE, Int.reduceAdd, Int.reduceSub, Int.reduceMul, Int.reduceNeg, h, hw, r_class_May, r_cell_May])
  all_goals simp_all [footR]
theorem r_ref06_Foot (X : Mem) (hw : X.Wf) (cl sz x y : Int) : RF tb f_ref06_Foot [.agg [.int .i64 cl, .int .i64 sz], .agg [.int .i64 x, .int .i64 y]] X = some (rectR (footR cl sz x y), X) := by
  rw [RF_go t_ref06_Foot _ _ rfl]
  simp (maxDischargeDepth := 8) only [go_sem, reduceIte, reduceCtorEq, Nat.reduceEqDiff, Nat.reduceAdd, Nat.reduceMul, Nat.reduceSub, Nat.reduceLeDiff, Nat.reduceLT, Nat.reduceBEq, Int.reduceToNat, Int.reduceEq, Int.reduceLT, Int.reduceLE, Int.reduceAdd, Int.reduceSub, Int.reduceMul, Int.reduceNeg, s_ref06_Foot, hw, r_ref06_May, r_ref03_May]
  repeat' ((first | rw [KG_bool] | rw [KC_bool]); split <;> rename_i h <;> (try simp only [Bool.not_eq_true, Bool.not_not, Bool.not_eq_eq_eq_not, Bool.not_true, Bool.not_false] at h) <;> simp (maxDischargeDepth := 8) only [go_sem, reduceIte, reduceCtorEq, Nat.reduceEqDiff, Nat.reduceAdd, Nat.reduceMul, Nat.reduceSub, Nat.reduceLeDiff, Nat.reduceLT, Nat.reduceBEq, Int.reduceToNat, Int.reduceEq, Int.reduceLT, Int.reduceLE, Int.reduceAdd, Int.reduceSub, Int.reduceMul, Int.reduceNeg, h, hw, r_ref06_May, r_ref03_May])
  all_goals simp_all [footR]
/-- Is a cell free for a class? -/
def Wd.free (W : Wd) (cl a b : Int) : Bool := !(atL W.bl a b).isSome && onB cl (if W.has a b then W.tile a b else 0)
def Wd.stands (W : Wd) (cl sz x y : Int) : Bool :=
  withinB (footR cl sz x y).1 (footR cl sz x y).2.1 (footR cl sz x y).2.2.1 (footR cl sz x y).2.2.2 0 0 W.w W.h &&
    !(cellsP (footR cl sz x y).1 (footR cl sz x y).2.1 (footR cl sz x y).2.2.1 (footR cl sz x y).2.2.2).any fun c => !W.free cl c.1 c.2
theorem r_class_Stands {m : Mem} {p : WP} {W : Wd} (hW : WorldAt m p W) (hg : W.Good) {X : Mem} (hX : HpSub m X) (hw : X.Wf) (cl sz x y : Int) : RF tb f_class_Stands [.ptr (.hp p.k 0) 0, .agg [.int .i64 cl, .int .i64 sz], .agg [.int .i64 x, .int .i64 y]] X = some (.bool (W.stands cl sz x y), X) := by
  rw [RF_go t_class_Stands _ _ rfl, push_hp]
  generalize hH : X.heap = H
  simp (maxDischargeDepth := 8) only [go_sem, reduceIte, reduceCtorEq, Nat.reduceEqDiff, Nat.reduceAdd, Nat.reduceMul, Nat.reduceSub, Nat.reduceLeDiff, Nat.reduceLT, Nat.reduceBEq, Int.reduceToNat, Int.reduceEq, Int.reduceLT, Int.reduceLE, Int.reduceAdd, Int.reduceSub, Int.reduceMul, Int.reduceNeg, s_class_Stands, hw, hX, hH, r_class_Foot]
  unfold Wd.stands
  generalize footR cl sz x y = r
  obtain ⟨rx, ry, rw', rh⟩ := r
  simp (maxDischargeDepth := 8) only [go_sem, reduceIte, reduceCtorEq, Nat.reduceEqDiff, Nat.reduceAdd, Nat.reduceMul, Nat.reduceSub, Nat.reduceLeDiff, Nat.reduceLT, Nat.reduceBEq, Int.reduceToNat, Int.reduceEq, Int.reduceLT, Int.reduceLE, Int.reduceAdd, Int.reduceSub, Int.reduceMul, Int.reduceNeg, hw, hX, hH, r_grid_World_All hW, r_cell_Within]
  cases h1 : withinB rx ry rw' rh 0 0 W.w W.h with
  | false => simp (maxDischargeDepth := 8) only [go_sem, reduceIte, reduceCtorEq, Nat.reduceEqDiff, Nat.reduceAdd, Nat.reduceMul, Nat.reduceSub, Nat.reduceLeDiff, Nat.reduceLT, Nat.reduceBEq, Int.reduceToNat, Int.reduceEq, Int.reduceLT, Int.reduceLE, Int.reduceAdd, Int.reduceSub, Int.reduceMul, Int.reduceNeg, hw, hH]
  | true =>
    simp (maxDischargeDepth := 8) only [go_sem, reduceIte, reduceCtorEq, Nat.reduceEqDiff, Nat.reduceAdd, Nat.reduceMul, Nat.reduceSub, Nat.reduceLeDiff, Nat.reduceLT, Nat.reduceBEq, Int.reduceToNat, Int.reduceEq, Int.reduceLT, Int.reduceLE, Int.reduceAdd, Int.reduceSub, Int.reduceMul, Int.reduceNeg, hw, hH, r_cell_Cells]
    rw [cells_findG (fun M => M.lp (.st X.dep 5) .done (some .ret)) (fun a b => !W.free cl a b) (d := X.dep + 1) (x := rx) (y := ry) (w := rw') (hh := rh) (by omega)]
    case hB => exact ⟨rfl, by simp (maxDischargeDepth := 8) only [go_sem, reduceIte, reduceCtorEq, Nat.reduceEqDiff, Nat.reduceAdd, Nat.reduceMul, Nat.reduceSub, Nat.reduceLeDiff, Nat.reduceLT, Nat.reduceBEq, Int.reduceToNat, Int.reduceEq, Int.reduceLT, Int.reduceLE, Int.reduceAdd, Int.reduceSub, Int.reduceMul, Int.reduceNeg, hw], by simp (maxDischargeDepth := 8) only [go_sem, reduceIte, reduceCtorEq, Nat.reduceEqDiff, Nat.reduceAdd, Nat.reduceMul, Nat.reduceSub, Nat.reduceLeDiff, Nat.reduceLT, Nat.reduceBEq, Int.reduceToNat, Int.reduceEq, Int.reduceLT, Int.reduceLE, Int.reduceAdd, Int.reduceSub, Int.reduceMul, Int.reduceNeg, hapGet]⟩
    case hB' => exact ⟨by simp (maxDischargeDepth := 8) only [go_sem, reduceIte, reduceCtorEq, Nat.reduceEqDiff, Nat.reduceAdd, Nat.reduceMul, Nat.reduceSub, Nat.reduceLeDiff, Nat.reduceLT, Nat.reduceBEq, Int.reduceToNat, Int.reduceEq, Int.reduceLT, Int.reduceLE, Int.reduceAdd, Int.reduceSub, Int.reduceMul, Int.reduceNeg, hw], by simp (maxDischargeDepth := 8) only [go_sem, reduceIte, reduceCtorEq, Nat.reduceEqDiff, Nat.reduceAdd, Nat.reduceMul, Nat.reduceSub, Nat.reduceLeDiff, Nat.reduceLT, Nat.reduceBEq, Int.reduceToNat, Int.reduceEq, Int.reduceLT, Int.reduceLE, Int.reduceAdd, Int.reduceSub, Int.reduceMul, Int.reduceNeg, hw], by simp (maxDischargeDepth := 8) only [go_sem, reduceIte, reduceCtorEq, Nat.reduceEqDiff, Nat.reduceAdd, Nat.reduceMul, Nat.reduceSub, Nat.reduceLeDiff, Nat.reduceLT, Nat.reduceBEq, Int.reduceToNat, Int.reduceEq, Int.reduceLT, Int.reduceLE, Int.reduceAdd, Int.reduceSub, Int.reduceMul, Int.reduceNeg, hapGet]⟩
    case hl => simp (maxDischargeDepth := 8) only [go_sem, reduceIte, reduceCtorEq, Nat.reduceEqDiff, Nat.reduceAdd, Nat.reduceMul, Nat.reduceSub, Nat.reduceLeDiff, Nat.reduceLT, Nat.reduceBEq, Int.reduceToNat, Int.reduceEq, Int.reduceLT, Int.reduceLE, Int.reduceAdd, Int.reduceSub, Int.reduceMul, Int.reduceNeg]
    case he => simp (maxDischargeDepth := 8) only [go_sem, reduceIte, reduceCtorEq, Nat.reduceEqDiff, Nat.reduceAdd, Nat.reduceMul, Nat.reduceSub, Nat.reduceLeDiff, Nat.reduceLT, Nat.reduceBEq, Int.reduceToNat, Int.reduceEq, Int.reduceLT, Int.reduceLE, Int.reduceAdd, Int.reduceSub, Int.reduceMul, Int.reduceNeg]
    case step =>
      intro a b hab fs e
      rw [RV_go (l := ⟨.ready, none, _, _, _, _⟩) _ _ _ (by simp (maxDischargeDepth := 8) only [go_sem, reduceIte, reduceCtorEq, Nat.reduceEqDiff, Nat.reduceAdd, Nat.reduceMul, Nat.reduceSub, Nat.reduceLeDiff, Nat.reduceLT, Nat.reduceBEq, Int.reduceToNat, Int.reduceEq, Int.reduceLT, Int.reduceLE, Int.reduceAdd, Int.reduceSub, Int.reduceMul, Int.reduceNeg]; rfl) rfl rfl (by simp (maxDischargeDepth := 8) only [go_sem, reduceIte, reduceCtorEq, Nat.reduceEqDiff, Nat.reduceAdd, Nat.reduceMul, Nat.reduceSub, Nat.reduceLeDiff, Nat.reduceLT, Nat.reduceBEq, Int.reduceToNat, Int.reduceEq, Int.reduceLT, Int.reduceLE, Int.reduceAdd, Int.reduceSub, Int.reduceMul, Int.reduceNeg, hw])]
      simp (maxDischargeDepth := 8) only [go_sem, reduceIte, reduceCtorEq, Nat.reduceEqDiff, Nat.reduceAdd, Nat.reduceMul, Nat.reduceSub, Nat.reduceLeDiff, Nat.reduceLT, Nat.reduceBEq, Int.reduceToNat, Int.reduceEq, Int.reduceLT, Int.reduceLE, Int.reduceAdd, Int.reduceSub, Int.reduceMul, Int.reduceNeg, hw, hX, hH, r_grid_World_Terrain hW hg, r_grid_World_At hW, r_class_On]
      cases h2 : (atL W.bl a b).isSome with
      | true =>
        have h3 : W.free cl a b = false := by unfold Wd.free; rw [h2]; rfl
        simp (maxDischargeDepth := 8) only [go_sem, reduceIte, reduceCtorEq, Nat.reduceEqDiff, Nat.reduceAdd, Nat.reduceMul, Nat.reduceSub, Nat.reduceLeDiff, Nat.reduceLT, Nat.reduceBEq, Int.reduceToNat, Int.reduceEq, Int.reduceLT, Int.reduceLE, Int.reduceAdd, Int.reduceSub, Int.reduceMul, Int.reduceNeg, hw, h3]
      | false =>
        simp (maxDischargeDepth := 8) only [go_sem, reduceIte, reduceCtorEq, Nat.reduceEqDiff, Nat.reduceAdd, Nat.reduceMul, Nat.reduceSub, Nat.reduceLeDiff, Nat.reduceLT, Nat.reduceBEq, Int.reduceToNat, Int.reduceEq, Int.reduceLT, Int.reduceLE, Int.reduceAdd, Int.reduceSub, Int.reduceMul, Int.reduceNeg, hw, hX, hH, r_class_On]
        cases h4 : onB cl (if W.has a b then W.tile a b else 0) with
        | true =>
          have h3 : W.free cl a b = true := by unfold Wd.free; rw [h2, h4]; rfl
          simp (maxDischargeDepth := 8) only [go_sem, reduceIte, reduceCtorEq, Nat.reduceEqDiff, Nat.reduceAdd, Nat.reduceMul, Nat.reduceSub, Nat.reduceLeDiff, Nat.reduceLT, Nat.reduceBEq, Int.reduceToNat, Int.reduceEq, Int.reduceLT, Int.reduceLE, Int.reduceAdd, Int.reduceSub, Int.reduceMul, Int.reduceNeg, hw, h3]
        | false =>
          have h3 : W.free cl a b = false := by unfold Wd.free; rw [h2, h4]; rfl
          simp (maxDischargeDepth := 8) only [go_sem, reduceIte, reduceCtorEq, Nat.reduceEqDiff, Nat.reduceAdd, Nat.reduceMul, Nat.reduceSub, Nat.reduceLeDiff, Nat.reduceLT, Nat.reduceBEq, Int.reduceToNat, Int.reduceEq, Int.reduceLT, Int.reduceLE, Int.reduceAdd, Int.reduceSub, Int.reduceMul, Int.reduceNeg, hw, h3]
    cases h5 : (cellsP rx ry rw' rh).any fun c => !W.free cl c.1 c.2 with
    | true => simp (maxDischargeDepth := 8) only [go_sem, reduceIte, reduceCtorEq, Nat.reduceEqDiff, Nat.reduceAdd, Nat.reduceMul, Nat.reduceSub, Nat.reduceLeDiff, Nat.reduceLT, Nat.reduceBEq, Int.reduceToNat, Int.reduceEq, Int.reduceLT, Int.reduceLE, Int.reduceAdd, Int.reduceSub, Int.reduceMul, Int.reduceNeg, hw, hH]
    | false => simp (maxDischargeDepth := 8) only [go_sem, reduceIte, reduceCtorEq, Nat.reduceEqDiff, Nat.reduceAdd, Nat.reduceMul, Nat.reduceSub, Nat.reduceLeDiff, Nat.reduceLT, Nat.reduceBEq, Int.reduceToNat, Int.reduceEq, Int.reduceLT, Int.reduceLE, Int.reduceAdd, Int.reduceSub, Int.reduceMul, Int.reduceNeg, hw, hH]
theorem r_ref06_Stands {m : Mem} {p : QP} {W : Wd} {bl : List Bld} (hV : RefAt m p W bl) (ho : ∀ a b, (atL bl a b).isSome = (atL W.bl a b).isSome) (hg : W.Good) {X : Mem} (hX : HpSub m X) (hw : X.Wf) (cl sz x y : Int) : RF tb f_ref06_Stands [.ptr (.hp p.k 0) 0, .agg [.int .i64 cl, .int .i64 sz], .agg [.int .i64 x, .int .i64 y]] X = some (.bool (W.stands cl sz x y), X) := by
  rw [RF_go t_ref06_Stands _ _ rfl]
  simp (maxDischargeDepth := 8) only [go_sem, reduceIte, reduceCtorEq, Nat.reduceEqDiff, Nat.reduceAdd, Nat.reduceMul, Nat.reduceSub, Nat.reduceLeDiff, Nat.reduceLT, Nat.reduceBEq, Int.reduceToNat, Int.reduceEq, Int.reduceLT, Int.reduceLE, Int.reduceAdd, Int.reduceSub, Int.reduceMul, Int.reduceNeg, s_ref06_Stands, hw, hX, r_ref06_Foot]
  unfold Wd.stands
  generalize footR cl sz x y = r
  obtain ⟨rx, ry, rw', rh⟩ := r
  simp (maxDischargeDepth := 8) only [go_sem, reduceIte, reduceCtorEq, Nat.reduceEqDiff, Nat.reduceAdd, Nat.reduceMul, Nat.reduceSub, Nat.reduceLeDiff, Nat.reduceLT, Nat.reduceBEq, Int.reduceToNat, Int.reduceEq, Int.reduceLT, Int.reduceLE, Int.reduceAdd, Int.reduceSub, Int.reduceMul, Int.reduceNeg, hw, hX, r_ref04_All hV, r_ref03_Within]
  cases h1 : withinB rx ry rw' rh 0 0 W.w W.h with
  | false => simp (maxDischargeDepth := 8) only [go_sem, reduceIte, reduceCtorEq, Nat.reduceEqDiff, Nat.reduceAdd, Nat.reduceMul, Nat.reduceSub, Nat.reduceLeDiff, Nat.reduceLT, Nat.reduceBEq, Int.reduceToNat, Int.reduceEq, Int.reduceLT, Int.reduceLE, Int.reduceAdd, Int.reduceSub, Int.reduceMul, Int.reduceNeg, hw]
  | true =>
    have hmay : mayB rx ry rw' rh = true := by simp only [withinB, Bool.and_eq_true] at h1; exact h1.1.1
    have hmi := may_in hmay
    have hms := may_sides hmay
    have hbad : ∀ a b, hasB rx ry rw' rh a b = true → W.free cl a b = false → (!(cellsP rx ry rw' rh).any fun c => !W.free cl c.1 c.2) = false := by
      intro a b hh hf
      have : (cellsP rx ry rw' rh).any (fun c => !W.free cl c.1 c.2) = true := List.any_eq_true.2 ⟨(a, b), cellsP_mem.2 hh, by simp [hf]⟩
      rw [this]; rfl
    have hall : (∀ a b, hasB rx ry rw' rh a b = true → W.free cl a b = true) → (!(cellsP rx ry rw' rh).any fun c => !W.free cl c.1 c.2) = true := by
      intro h
      have : (cellsP rx ry rw' rh).any (fun c => !W.free cl c.1 c.2) = false := by
        rw [List.any_eq_false]
        rintro ⟨a, b⟩ hc
        simp [h a b (cellsP_mem.1 hc)]
      rw [this]; rfl
    have hwy : IntKind.wrap .i64 (ry + rh) = ry + rh := wrap_small (by omega) (by omega)
    have hwx : IntKind.wrap .i64 (rx + rw') = rx + rw' := wrap_small (by omega) (by omega)
    simp (maxDischargeDepth := 8) only [go_sem, reduceIte, reduceCtorEq, Nat.reduceEqDiff, Nat.reduceAdd, Nat.reduceMul, Nat.reduceSub, Nat.reduceLeDiff, Nat.reduceLT, Nat.reduceBEq, Int.reduceToNat, Int.reduceEq, Int.reduceLT, Int.reduceLE, Int.reduceAdd, Int.reduceSub, Int.reduceMul, Int.reduceNeg, hw]
    rw [KL_keep _ _ _ (by simp (maxDischargeDepth := 8) only [go_sem, reduceIte, reduceCtorEq, Nat.reduceEqDiff, Nat.reduceAdd, Nat.reduceMul, Nat.reduceSub, Nat.reduceLeDiff, Nat.reduceLT, Nat.reduceBEq, Int.reduceToNat, Int.reduceEq, Int.reduceLT, Int.reduceLE, Int.reduceAdd, Int.reduceSub, Int.reduceMul, Int.reduceNeg])]
    simp (maxDischargeDepth := 8) only [go_sem, reduceIte, reduceCtorEq, Nat.reduceEqDiff, Nat.reduceAdd, Nat.reduceMul, Nat.reduceSub, Nat.reduceLeDiff, Nat.reduceLT, Nat.reduceBEq, Int.reduceToNat, Int.reduceEq, Int.reduceLT, Int.reduceLE, Int.reduceAdd, Int.reduceSub, Int.reduceMul, Int.reduceNeg]
    refine KL_indE (α := Int) (fun b => (ry + rh - b).toNat) (fun b => [(0, .ptr (.hp p.k 0) 0), (4, .ptr (.st X.dep 0) 0), (7, .ptr (.st X.dep 2) 0), (8, .int .i64 b)]) (fun _ => X.fr [.cells true [.int .i64 cl, .int .i64 sz], .cells true [.int .i64 x, .int .i64 y], .cells true [.int .i64 rx, .int .i64 ry, .int .i64 rw', .int .i64 rh]] none)
      (fun b => ry ≤ b ∧ b ≤ ry + rh ∧ ∀ a c, hasB rx ry rw' rh a c = true → c < b → W.free cl a c = true) ?_ ry ⟨Int.le_refl _, by omega, fun a c h h' => by have := has_iff.1 h; omega⟩
    rintro b ⟨hb1, hb2, hbI⟩ ih
    simp (maxDischargeDepth := 8) only [go_sem, reduceIte, reduceCtorEq, Nat.reduceEqDiff, Nat.reduceAdd, Nat.reduceMul, Nat.reduceSub, Nat.reduceLeDiff, Nat.reduceLT, Nat.reduceBEq, Int.reduceToNat, Int.reduceEq, Int.reduceLT, Int.reduceLE, Int.reduceAdd, Int.reduceSub, Int.reduceMul, Int.reduceNeg, hw, hwy]
    by_cases hlt : b < ry + rh
    · simp (maxDischargeDepth := 8) only [go_sem, reduceIte, reduceCtorEq, Nat.reduceEqDiff, Nat.reduceAdd, Nat.reduceMul, Nat.reduceSub, Nat.reduceLeDiff, Nat.reduceLT, Nat.reduceBEq, Int.reduceToNat, Int.reduceEq, Int.reduceLT, Int.reduceLE, Int.reduceAdd, Int.reduceSub, Int.reduceMul, Int.reduceNeg, show decide (b < ry + rh) = true from decide_eq_true hlt, hw]
      rw [KL_keep _ _ _ (by simp (maxDischargeDepth := 8) only [go_sem, reduceIte, reduceCtorEq, Nat.reduceEqDiff, Nat.reduceAdd, Nat.reduceMul, Nat.reduceSub, Nat.reduceLeDiff, Nat.reduceLT, Nat.reduceBEq, Int.reduceToNat, Int.reduceEq, Int.reduceLT, Int.reduceLE, Int.reduceAdd, Int.reduceSub, Int.reduceMul, Int.reduceNeg])]
      simp (maxDischargeDepth := 8) only [go_sem, reduceIte, reduceCtorEq, Nat.reduceEqDiff, Nat.reduceAdd, Nat.reduceMul, Nat.reduceSub, Nat.reduceLeDiff, Nat.reduceLT, Nat.reduceBEq, Int.reduceToNat, Int.reduceEq, Int.reduceLT, Int.reduceLE, Int.reduceAdd, Int.reduceSub, Int.reduceMul, Int.reduceNeg]
      refine KL_indE (α := Int) (fun a => (rx + rw' - a).toNat) (fun a => [(0, .ptr (.hp p.k 0) 0), (4, .ptr (.st X.dep 0) 0), (7, .ptr (.st X.dep 2) 0), (8, .int .i64 b), (9, .int .i64 a)]) (fun _ => X.fr [.cells true [.int .i64 cl, .int .i64 sz], .cells true [.int .i64 x, .int .i64 y], .cells true [.int .i64 rx, .int .i64 ry, .int .i64 rw', .int .i64 rh]] none)
        (fun a => rx ≤ a ∧ a ≤ rx + rw' ∧ ∀ d, hasB rx ry rw' rh d b = true → d < a → W.free cl d b = true) ?_ rx ⟨Int.le_refl _, by omega, fun d h h' => by have := has_iff.1 h; omega⟩
      rintro a ⟨ha1, ha2, haI⟩ ih'
      simp (maxDischargeDepth := 8) only [go_sem, reduceIte, reduceCtorEq, Nat.reduceEqDiff, Nat.reduceAdd, Nat.reduceMul, Nat.reduceSub, Nat.reduceLeDiff, Nat.reduceLT, Nat.reduceBEq, Int.reduceToNat, Int.reduceEq, Int.reduceLT, Int.reduceLE, Int.reduceAdd, Int.reduceSub, Int.reduceMul, Int.reduceNeg, hw, hwx]
      by_cases hlt' : a < rx + rw'
      · have hab : hasB rx ry rw' rh a b = true := has_iff.2 ⟨hmay, by omega⟩
        simp (maxDischargeDepth := 8) only [go_sem, reduceIte, reduceCtorEq, Nat.reduceEqDiff, Nat.reduceAdd, Nat.reduceMul, Nat.reduceSub, Nat.reduceLeDiff, Nat.reduceLT, Nat.reduceBEq, Int.reduceToNat, Int.reduceEq, Int.reduceLT, Int.reduceLE, Int.reduceAdd, Int.reduceSub, Int.reduceMul, Int.reduceNeg, show decide (a < rx + rw') = true from decide_eq_true hlt', hw, hX, r_ref04_Terrain hV hg, r_ref04_At hV]
        have hwb : IntKind.wrap .i64 (a + 1) = a + 1 := wrap_small (by omega) (by omega)
        have hnext : W.free cl a b = true → ∀ d, hasB rx ry rw' rh d b = true → d < a + 1 → W.free cl d b = true := by
          intro hf d hd hlt
          by_cases e : d = a
          · subst e; exact hf
          · exact haI d hd (by omega)
        have h2' := ho a b
        cases h2 : (atL bl a b).isSome with
        | true =>
          rw [h2] at h2'
          have h3 : W.free cl a b = false := by unfold Wd.free; rw [← h2']; rfl
          simp (maxDischargeDepth := 8) only [go_sem, reduceIte, reduceCtorEq, Nat.reduceEqDiff, Nat.reduceAdd, Nat.reduceMul, Nat.reduceSub, Nat.reduceLeDiff, Nat.reduceLT, Nat.reduceBEq, Int.reduceToNat, Int.reduceEq, Int.reduceLT, Int.reduceLE, Int.reduceAdd, Int.reduceSub, Int.reduceMul, Int.reduceNeg, hw, hbad a b hab h3]
        | false =>
          rw [h2] at h2'
          simp (maxDischargeDepth := 8) only [go_sem, reduceIte, reduceCtorEq, Nat.reduceEqDiff, Nat.reduceAdd, Nat.reduceMul, Nat.reduceSub, Nat.reduceLeDiff, Nat.reduceLT, Nat.reduceBEq, Int.reduceToNat, Int.reduceEq, Int.reduceLT, Int.reduceLE, Int.reduceAdd, Int.reduceSub, Int.reduceMul, Int.reduceNeg, hw, hX, r_ref06_On]
          cases h4 : onB cl (if W.has a b then W.tile a b else 0) with
          | true =>
            have h3 : W.free cl a b = true := by unfold Wd.free; rw [← h2', h4]; rfl
            simp (maxDischargeDepth := 8) only [go_sem, reduceIte, reduceCtorEq, Nat.reduceEqDiff, Nat.reduceAdd, Nat.reduceMul, Nat.reduceSub, Nat.reduceLeDiff, Nat.reduceLT, Nat.reduceBEq, Int.reduceToNat, Int.reduceEq, Int.reduceLT, Int.reduceLE, Int.reduceAdd, Int.reduceSub, Int.reduceMul, Int.reduceNeg, hw, hwb]
            rw [KL_keep _ _ _ (by simp (maxDischargeDepth := 8) only [go_sem, reduceIte, reduceCtorEq, Nat.reduceEqDiff, Nat.reduceAdd, Nat.reduceMul, Nat.reduceSub, Nat.reduceLeDiff, Nat.reduceLT, Nat.reduceBEq, Int.reduceToNat, Int.reduceEq, Int.reduceLT, Int.reduceLE, Int.reduceAdd, Int.reduceSub, Int.reduceMul, Int.reduceNeg])]
            simp (maxDischargeDepth := 8) only [go_sem, reduceIte, reduceCtorEq, Nat.reduceEqDiff, Nat.reduceAdd, Nat.reduceMul, Nat.reduceSub, Nat.reduceLeDiff, Nat.reduceLT, Nat.reduceBEq, Int.reduceToNat, Int.reduceEq, Int.reduceLT, Int.reduceLE, Int.reduceAdd, Int.reduceSub, Int.reduceMul, Int.reduceNeg]
            exact ih' (a + 1) ⟨by omega, by omega, hnext h3⟩ (by omega)
          | false =>
            have h3 : W.free cl a b = false := by unfold Wd.free; rw [← h2', h4]; rfl
            simp (maxDischargeDepth := 8) only [go_sem, reduceIte, reduceCtorEq, Nat.reduceEqDiff, Nat.reduceAdd, Nat.reduceMul, Nat.reduceSub, Nat.reduceLeDiff, Nat.reduceLT, Nat.reduceBEq, Int.reduceToNat, Int.reduceEq, Int.reduceLT, Int.reduceLE, Int.reduceAdd, Int.reduceSub, Int.reduceMul, Int.reduceNeg, hw, hbad a b hab h3]
      · have hwb : IntKind.wrap .i64 (b + 1) = b + 1 := wrap_small (by omega) (by omega)
        simp (maxDischargeDepth := 8) only [go_sem, reduceIte, reduceCtorEq, Nat.reduceEqDiff, Nat.reduceAdd, Nat.reduceMul, Nat.reduceSub, Nat.reduceLeDiff, Nat.reduceLT, Nat.reduceBEq, Int.reduceToNat, Int.reduceEq, Int.reduceLT, Int.reduceLE, Int.reduceAdd, Int.reduceSub, Int.reduceMul, Int.reduceNeg, show decide (a < rx + rw') = false from decide_eq_false hlt', hw, hwb]
        rw [KL_keep _ _ _ (by simp (maxDischargeDepth := 8) only [go_sem, reduceIte, reduceCtorEq, Nat.reduceEqDiff, Nat.reduceAdd, Nat.reduceMul, Nat.reduceSub, Nat.reduceLeDiff, Nat.reduceLT, Nat.reduceBEq, Int.reduceToNat, Int.reduceEq, Int.reduceLT, Int.reduceLE, Int.reduceAdd, Int.reduceSub, Int.reduceMul, Int.reduceNeg])]
        simp (maxDischargeDepth := 8) only [go_sem, reduceIte, reduceCtorEq, Nat.reduceEqDiff, Nat.reduceAdd, Nat.reduceMul, Nat.reduceSub, Nat.reduceLeDiff, Nat.reduceLT, Nat.reduceBEq, Int.reduceToNat, Int.reduceEq, Int.reduceLT, Int.reduceLE, Int.reduceAdd, Int.reduceSub, Int.reduceMul, Int.reduceNeg]
        refine ih (b + 1) ⟨by omega, by omega, fun d c hd hlt => ?_⟩ (by omega)
        by_cases e : c = b
        · subst e; have := has_iff.1 hd; exact haI d hd (by omega)
        · exact hbI d c hd (by omega)
    · simp (maxDischargeDepth := 8) only [go_sem, reduceIte, reduceCtorEq, Nat.reduceEqDiff, Nat.reduceAdd, Nat.reduceMul, Nat.reduceSub, Nat.reduceLeDiff, Nat.reduceLT, Nat.reduceBEq, Int.reduceToNat, Int.reduceEq, Int.reduceLT, Int.reduceLE, Int.reduceAdd, Int.reduceSub, Int.reduceMul, Int.reduceNeg, show decide (b < ry + rh) = false from decide_eq_false hlt, hw, hall (fun a c h => hbI a c h (by have := has_iff.1 h; omega))]
def Wd.steps (W : Wd) (cl sz x y d : Int) : Bool := stepOk x y d && W.stands cl sz x y && W.stands cl sz (x + turnX d) (y + turnY d) && (!sideOk x y d || (W.stands cl sz (x + turnX d) y && W.stands cl sz x (y + turnY d)))
theorem r_class_Steps {m : Mem} {p : WP} {W : Wd} (hW : WorldAt m p W) (hg : W.Good) {X : Mem} (hX : HpSub m X) (hw : X.Wf) (cl sz x y d : Int) : RF tb f_class_Steps [.ptr (.hp p.k 0) 0, .agg [.int .i64 cl, .int .i64 sz], .agg [.int .i64 x, .int .i64 y], .int .i64 d] X = some (.bool (W.steps cl sz x y d), X) := by
  rw [RF_go t_class_Steps _ _ rfl]
  simp (maxDischargeDepth := 8) only [go_sem, reduceIte, reduceCtorEq, Nat.reduceEqDiff, Nat.reduceAdd, Nat.reduceMul, Nat.reduceSub, Nat.reduceLeDiff, Nat.reduceLT, Nat.reduceBEq, Int.reduceToNat, Int.reduceEq, Int.reduceLT, Int.reduceLE, Int.reduceAdd, Int.reduceSub, Int.reduceMul, Int.reduceNeg, s_class_Steps, hw, hX, r_cell_Step, r_class_Stands hW hg]
  unfold Wd.steps
  cases h1 : stepOk x y d with
  | false => simp (maxDischargeDepth := 8) only [go_sem, reduceIte, reduceCtorEq, Nat.reduceEqDiff, Nat.reduceAdd, Nat.reduceMul, Nat.reduceSub, Nat.reduceLeDiff, Nat.reduceLT, Nat.reduceBEq, Int.reduceToNat, Int.reduceEq, Int.reduceLT, Int.reduceLE, Int.reduceAdd, Int.reduceSub, Int.reduceMul, Int.reduceNeg, hw]
  | true =>
    have ex : stepX x y d = x + turnX d := by simp [stepX, h1]
    have ey : stepY x y d = y + turnY d := by simp [stepY, h1]
    simp (maxDischargeDepth := 8) only [go_sem, reduceIte, reduceCtorEq, Nat.reduceEqDiff, Nat.reduceAdd, Nat.reduceMul, Nat.reduceSub, Nat.reduceLeDiff, Nat.reduceLT, Nat.reduceBEq, Int.reduceToNat, Int.reduceEq, Int.reduceLT, Int.reduceLE, Int.reduceAdd, Int.reduceSub, Int.reduceMul, Int.reduceNeg, hw, hX, ex, ey, r_class_Stands hW hg]
    cases h2 : W.stands cl sz x y with
    | false => simp (maxDischargeDepth := 8) only [go_sem, reduceIte, reduceCtorEq, Nat.reduceEqDiff, Nat.reduceAdd, Nat.reduceMul, Nat.reduceSub, Nat.reduceLeDiff, Nat.reduceLT, Nat.reduceBEq, Int.reduceToNat, Int.reduceEq, Int.reduceLT, Int.reduceLE, Int.reduceAdd, Int.reduceSub, Int.reduceMul, Int.reduceNeg, hw]
    | true =>
      simp (maxDischargeDepth := 8) only [go_sem, reduceIte, reduceCtorEq, Nat.reduceEqDiff, Nat.reduceAdd, Nat.reduceMul, Nat.reduceSub, Nat.reduceLeDiff, Nat.reduceLT, Nat.reduceBEq, Int.reduceToNat, Int.reduceEq, Int.reduceLT, Int.reduceLE, Int.reduceAdd, Int.reduceSub, Int.reduceMul, Int.reduceNeg, hw, hX, ex, ey, r_class_Stands hW hg]
      cases h3 : W.stands cl sz (x + turnX d) (y + turnY d) with
      | false => simp (maxDischargeDepth := 8) only [go_sem, reduceIte, reduceCtorEq, Nat.reduceEqDiff, Nat.reduceAdd, Nat.reduceMul, Nat.reduceSub, Nat.reduceLeDiff, Nat.reduceLT, Nat.reduceBEq, Int.reduceToNat, Int.reduceEq, Int.reduceLT, Int.reduceLE, Int.reduceAdd, Int.reduceSub, Int.reduceMul, Int.reduceNeg, hw]
      | true =>
        simp (maxDischargeDepth := 8) only [go_sem, reduceIte, reduceCtorEq, Nat.reduceEqDiff, Nat.reduceAdd, Nat.reduceMul, Nat.reduceSub, Nat.reduceLeDiff, Nat.reduceLT, Nat.reduceBEq, Int.reduceToNat, Int.reduceEq, Int.reduceLT, Int.reduceLE, Int.reduceAdd, Int.reduceSub, Int.reduceMul, Int.reduceNeg, hw, hX, r_cell_Sides, sideV]
        cases h4 : sideOk x y d with
        | false => simp (maxDischargeDepth := 8) only [go_sem, reduceIte, reduceCtorEq, Nat.reduceEqDiff, Nat.reduceAdd, Nat.reduceMul, Nat.reduceSub, Nat.reduceLeDiff, Nat.reduceLT, Nat.reduceBEq, Int.reduceToNat, Int.reduceEq, Int.reduceLT, Int.reduceLE, Int.reduceAdd, Int.reduceSub, Int.reduceMul, Int.reduceNeg, hw]; rfl
        | true =>
          simp (maxDischargeDepth := 8) only [go_sem, reduceIte, reduceCtorEq, Nat.reduceEqDiff, Nat.reduceAdd, Nat.reduceMul, Nat.reduceSub, Nat.reduceLeDiff, Nat.reduceLT, Nat.reduceBEq, Int.reduceToNat, Int.reduceEq, Int.reduceLT, Int.reduceLE, Int.reduceAdd, Int.reduceSub, Int.reduceMul, Int.reduceNeg, hw, hX, r_class_Stands hW hg]
          cases h5 : W.stands cl sz (x + turnX d) y with
          | false => simp (maxDischargeDepth := 8) only [go_sem, reduceIte, reduceCtorEq, Nat.reduceEqDiff, Nat.reduceAdd, Nat.reduceMul, Nat.reduceSub, Nat.reduceLeDiff, Nat.reduceLT, Nat.reduceBEq, Int.reduceToNat, Int.reduceEq, Int.reduceLT, Int.reduceLE, Int.reduceAdd, Int.reduceSub, Int.reduceMul, Int.reduceNeg, hw]; rfl
          | true => simp (maxDischargeDepth := 8) only [go_sem, reduceIte, reduceCtorEq, Nat.reduceEqDiff, Nat.reduceAdd, Nat.reduceMul, Nat.reduceSub, Nat.reduceLeDiff, Nat.reduceLT, Nat.reduceBEq, Int.reduceToNat, Int.reduceEq, Int.reduceLT, Int.reduceLE, Int.reduceAdd, Int.reduceSub, Int.reduceMul, Int.reduceNeg, hw, hX, r_class_Stands hW hg]; rfl
theorem r_ref06_Steps {m : Mem} {p : QP} {W : Wd} {bl : List Bld} (hV : RefAt m p W bl) (ho : ∀ a b, (atL bl a b).isSome = (atL W.bl a b).isSome) (hg : W.Good) {X : Mem} (hX : HpSub m X) (hw : X.Wf) (cl sz x y d : Int) : RF tb f_ref06_Steps [.ptr (.hp p.k 0) 0, .agg [.int .i64 cl, .int .i64 sz], .agg [.int .i64 x, .int .i64 y], .int .i64 d] X = some (.bool (W.steps cl sz x y d), X) := by
  rw [RF_go t_ref06_Steps _ _ rfl]
  simp (maxDischargeDepth := 8) only [go_sem, reduceIte, reduceCtorEq, Nat.reduceEqDiff, Nat.reduceAdd, Nat.reduceMul, Nat.reduceSub, Nat.reduceLeDiff, Nat.reduceLT, Nat.reduceBEq, Int.reduceToNat, Int.reduceEq, Int.reduceLT, Int.reduceLE, Int.reduceAdd, Int.reduceSub, Int.reduceMul, Int.reduceNeg, s_ref06_Steps, hw, hX, r_ref03_Step, r_ref06_Stands hV ho hg]
  unfold Wd.steps
  cases h1 : stepOk x y d with
  | false => simp (maxDischargeDepth := 8) only [go_sem, reduceIte, reduceCtorEq, Nat.reduceEqDiff, Nat.reduceAdd, Nat.reduceMul, Nat.reduceSub, Nat.reduceLeDiff, Nat.reduceLT, Nat.reduceBEq, Int.reduceToNat, Int.reduceEq, Int.reduceLT, Int.reduceLE, Int.reduceAdd, Int.reduceSub, Int.reduceMul, Int.reduceNeg, hw]
  | true =>
    have ex : stepX x y d = x + turnX d := by simp [stepX, h1]
    have ey : stepY x y d = y + turnY d := by simp [stepY, h1]
    simp (maxDischargeDepth := 8) only [go_sem, reduceIte, reduceCtorEq, Nat.reduceEqDiff, Nat.reduceAdd, Nat.reduceMul, Nat.reduceSub, Nat.reduceLeDiff, Nat.reduceLT, Nat.reduceBEq, Int.reduceToNat, Int.reduceEq, Int.reduceLT, Int.reduceLE, Int.reduceAdd, Int.reduceSub, Int.reduceMul, Int.reduceNeg, hw, hX, ex, ey, r_ref06_Stands hV ho hg]
    cases h2 : W.stands cl sz x y with
    | false => simp (maxDischargeDepth := 8) only [go_sem, reduceIte, reduceCtorEq, Nat.reduceEqDiff, Nat.reduceAdd, Nat.reduceMul, Nat.reduceSub, Nat.reduceLeDiff, Nat.reduceLT, Nat.reduceBEq, Int.reduceToNat, Int.reduceEq, Int.reduceLT, Int.reduceLE, Int.reduceAdd, Int.reduceSub, Int.reduceMul, Int.reduceNeg, hw]
    | true =>
      simp (maxDischargeDepth := 8) only [go_sem, reduceIte, reduceCtorEq, Nat.reduceEqDiff, Nat.reduceAdd, Nat.reduceMul, Nat.reduceSub, Nat.reduceLeDiff, Nat.reduceLT, Nat.reduceBEq, Int.reduceToNat, Int.reduceEq, Int.reduceLT, Int.reduceLE, Int.reduceAdd, Int.reduceSub, Int.reduceMul, Int.reduceNeg, hw, hX, ex, ey, r_ref06_Stands hV ho hg]
      cases h3 : W.stands cl sz (x + turnX d) (y + turnY d) with
      | false => simp (maxDischargeDepth := 8) only [go_sem, reduceIte, reduceCtorEq, Nat.reduceEqDiff, Nat.reduceAdd, Nat.reduceMul, Nat.reduceSub, Nat.reduceLeDiff, Nat.reduceLT, Nat.reduceBEq, Int.reduceToNat, Int.reduceEq, Int.reduceLT, Int.reduceLE, Int.reduceAdd, Int.reduceSub, Int.reduceMul, Int.reduceNeg, hw]
      | true =>
        simp (maxDischargeDepth := 8) only [go_sem, reduceIte, reduceCtorEq, Nat.reduceEqDiff, Nat.reduceAdd, Nat.reduceMul, Nat.reduceSub, Nat.reduceLeDiff, Nat.reduceLT, Nat.reduceBEq, Int.reduceToNat, Int.reduceEq, Int.reduceLT, Int.reduceLE, Int.reduceAdd, Int.reduceSub, Int.reduceMul, Int.reduceNeg, hw, hX, r_ref03_Sides, sideV]
        cases h4 : sideOk x y d with
        | false => simp (maxDischargeDepth := 8) only [go_sem, reduceIte, reduceCtorEq, Nat.reduceEqDiff, Nat.reduceAdd, Nat.reduceMul, Nat.reduceSub, Nat.reduceLeDiff, Nat.reduceLT, Nat.reduceBEq, Int.reduceToNat, Int.reduceEq, Int.reduceLT, Int.reduceLE, Int.reduceAdd, Int.reduceSub, Int.reduceMul, Int.reduceNeg, hw]; rfl
        | true =>
          simp (maxDischargeDepth := 8) only [go_sem, reduceIte, reduceCtorEq, Nat.reduceEqDiff, Nat.reduceAdd, Nat.reduceMul, Nat.reduceSub, Nat.reduceLeDiff, Nat.reduceLT, Nat.reduceBEq, Int.reduceToNat, Int.reduceEq, Int.reduceLT, Int.reduceLE, Int.reduceAdd, Int.reduceSub, Int.reduceMul, Int.reduceNeg, hw, hX, r_ref06_Stands hV ho hg]
          cases h5 : W.stands cl sz (x + turnX d) y with
          | false => simp (maxDischargeDepth := 8) only [go_sem, reduceIte, reduceCtorEq, Nat.reduceEqDiff, Nat.reduceAdd, Nat.reduceMul, Nat.reduceSub, Nat.reduceLeDiff, Nat.reduceLT, Nat.reduceBEq, Int.reduceToNat, Int.reduceEq, Int.reduceLT, Int.reduceLE, Int.reduceAdd, Int.reduceSub, Int.reduceMul, Int.reduceNeg, hw]; rfl
          | true => simp (maxDischargeDepth := 8) only [go_sem, reduceIte, reduceCtorEq, Nat.reduceEqDiff, Nat.reduceAdd, Nat.reduceMul, Nat.reduceSub, Nat.reduceLeDiff, Nat.reduceLT, Nat.reduceBEq, Int.reduceToNat, Int.reduceEq, Int.reduceLT, Int.reduceLE, Int.reduceAdd, Int.reduceSub, Int.reduceMul, Int.reduceNeg, hw, hX, r_ref06_Stands hV ho hg]; rfl
/-- Is a path legal? -/
def Wd.legalGo (W : Wd) (cl sz : Int) : Int → Int → List (Int × Int) → Bool
  | _, _, [] => true
  | x, y, c :: r => W.steps cl sz x y (dirR x y c.1 c.2 8) && W.legalGo cl sz c.1 c.2 r
def Wd.legal (W : Wd) (cl sz x y : Int) (l : List (Int × Int)) : Bool := W.stands cl sz x y && W.legalGo cl sz x y l
theorem steps_neg (W : Wd) (cl sz x y : Int) {d : Int} (h : d < 0) : W.steps cl sz x y d = false := by
  have : isDir d = false := by unfold isDir; simp; omega
  unfold Wd.steps stepOk; rw [this]; rfl
def costGo : Int → Int → Int → List (Int × Int) → Int
  | _, _, n, [] => n
  | x, y, n, c :: r => if dirR x y c.1 c.2 8 < 0 then -1 else costGo c.1 c.2 (n + costP (dirR x y c.1 c.2 8)) r
def costL (x y : Int) (l : List (Int × Int)) : Int := if l.length > 16384 then -1 else costGo x y 0 l
theorem cost_in (d : Int) : 0 ≤ costP d ∧ costP d ≤ 14 := by unfold costP; split <;> (try split) <;> omega
theorem r_ref06_Cost {m : Mem} {v : SV} {l : List (Int × Int)} (hl : LiesD cellF m v l) {X : Mem} (hX : HpSub m X) (hw : X.Wf) (x y : Int) : RF tb f_ref06_Cost [.agg [.int .i64 x, .int .i64 y], v] X = some (.int .i64 (costL x y l), X) := by
  rw [RF_go t_ref06_Cost _ _ rfl]
  simp (maxDischargeDepth := 8) only [go_sem, reduceIte, reduceCtorEq, Nat.reduceEqDiff, Nat.reduceAdd, Nat.reduceMul, Nat.reduceSub, Nat.reduceLeDiff, Nat.reduceLT, Nat.reduceBEq, Int.reduceToNat, Int.reduceEq, Int.reduceLT, Int.reduceLE, Int.reduceAdd, Int.reduceSub, Int.reduceMul, Int.reduceNeg, s_ref06_Cost, hw, hl.len]
  cases h1 : decide ((l.length : Int) > 16384) with
  | true =>
    have e : costL x y l = -1 := by unfold costL; rw [if_pos (by simp at h1; omega)]
    simp (maxDischargeDepth := 8) only [go_sem, reduceIte, reduceCtorEq, Nat.reduceEqDiff, Nat.reduceAdd, Nat.reduceMul, Nat.reduceSub, Nat.reduceLeDiff, Nat.reduceLT, Nat.reduceBEq, Int.reduceToNat, Int.reduceEq, Int.reduceLT, Int.reduceLE, Int.reduceAdd, Int.reduceSub, Int.reduceMul, Int.reduceNeg, hw, e]
  | false =>
    have h16 : l.length ≤ 16384 := by simp at h1; omega
    have e : costL x y l = costGo x y 0 l := by unfold costL; rw [if_neg (by omega)]
    rw [e]
    simp (maxDischargeDepth := 8) only [go_sem, reduceIte, reduceCtorEq, Nat.reduceEqDiff, Nat.reduceAdd, Nat.reduceMul, Nat.reduceSub, Nat.reduceLeDiff, Nat.reduceLT, Nat.reduceBEq, Int.reduceToNat, Int.reduceEq, Int.reduceLT, Int.reduceLE, Int.reduceAdd, Int.reduceSub, Int.reduceMul, Int.reduceNeg, hw, hl.len]
    rw [KL_keep _ _ _ (by simp (maxDischargeDepth := 8) only [go_sem, reduceIte, reduceCtorEq, Nat.reduceEqDiff, Nat.reduceAdd, Nat.reduceMul, Nat.reduceSub, Nat.reduceLeDiff, Nat.reduceLT, Nat.reduceBEq, Int.reduceToNat, Int.reduceEq, Int.reduceLT, Int.reduceLE, Int.reduceAdd, Int.reduceSub, Int.reduceMul, Int.reduceNeg, hl.lv])]
    simp (maxDischargeDepth := 8) only [go_sem, reduceIte, reduceCtorEq, Nat.reduceEqDiff, Nat.reduceAdd, Nat.reduceMul, Nat.reduceSub, Nat.reduceLeDiff, Nat.reduceLT, Nat.reduceBEq, Int.reduceToNat, Int.reduceEq, Int.reduceLT, Int.reduceLE, Int.reduceAdd, Int.reduceSub, Int.reduceMul, Int.reduceNeg]
    refine KL_indE (α := Nat × Int × Int × Int) (fun a => l.length - a.1) (fun a => [(1, v), (2, .ptr (.st X.dep 0) 0), (5, .int .i64 a.2.2.2), (6, .int .i64 (a.1 : Int))]) (fun a => X.fr [.cells true [.int .i64 a.2.1, .int .i64 a.2.2.1]] none)
      (fun a => a.1 ≤ l.length ∧ costGo x y 0 l = costGo a.2.1 a.2.2.1 a.2.2.2 (l.drop a.1) ∧ 0 ≤ a.2.2.2 ∧ a.2.2.2 ≤ 14 * (a.1 : Int)) ?_ (0, x, y, 0) ⟨Nat.zero_le _, rfl, Int.le_refl _, Int.le_refl _⟩
    rintro ⟨i, cx, cy, n⟩ ⟨hi, hI, hn0, hn1⟩ ih
    dsimp only at hi hI hn0 hn1 ⊢
    simp (maxDischargeDepth := 8) only [go_sem, reduceIte, reduceCtorEq, Nat.reduceEqDiff, Nat.reduceAdd, Nat.reduceMul, Nat.reduceSub, Nat.reduceLeDiff, Nat.reduceLT, Nat.reduceBEq, Int.reduceToNat, Int.reduceEq, Int.reduceLT, Int.reduceLE, Int.reduceAdd, Int.reduceSub, Int.reduceMul, Int.reduceNeg, hw, hl.lv, hl.len]
    by_cases hlt : i < l.length
    · have hel : l[i]? = some l[i] := List.getElem?_eq_getElem hlt
      have hdr : l.drop i = l[i] :: l.drop (i + 1) := List.drop_eq_getElem_cons hlt
      generalize l[i] = c at hel hdr
      obtain ⟨a, b⟩ := c
      rw [hdr] at hI
      have hI : costGo x y 0 l = if dirR cx cy a b 8 < 0 then -1 else costGo a b (n + costP (dirR cx cy a b 8)) (l.drop (i + 1)) := hI
      have hcp := cost_in (dirR cx cy a b 8)
      simp (maxDischargeDepth := 8) only [go_sem, reduceIte, reduceCtorEq, Nat.reduceEqDiff, Nat.reduceAdd, Nat.reduceMul, Nat.reduceSub, Nat.reduceLeDiff, Nat.reduceLT, Nat.reduceBEq, Int.reduceToNat, Int.reduceEq, Int.reduceLT, Int.reduceLE, Int.reduceAdd, Int.reduceSub, Int.reduceMul, Int.reduceNeg, show decide ((i : Int) < (l.length : Int)) = true from decide_eq_true (by omega), hw, hX, hl.iaddrC hlt, hl.loadC hel, hl.lv, r_ref03_Dir]
      cases h2 : decide (dirR cx cy a b 8 < 0) with
      | true =>
        have hI := hI.trans (if_pos (of_decide_eq_true h2))
        simp (maxDischargeDepth := 8) only [go_sem, reduceIte, reduceCtorEq, Nat.reduceEqDiff, Nat.reduceAdd, Nat.reduceMul, Nat.reduceSub, Nat.reduceLeDiff, Nat.reduceLT, Nat.reduceBEq, Int.reduceToNat, Int.reduceEq, Int.reduceLT, Int.reduceLE, Int.reduceAdd, Int.reduceSub, Int.reduceMul, Int.reduceNeg, hw, hI]
      | false =>
        have hI := hI.trans (if_neg (of_decide_eq_false h2))
        have hwn : IntKind.wrap .i64 (n + costP (dirR cx cy a b 8)) = n + costP (dirR cx cy a b 8) := wrap_small (by omega) (by omega)
        simp (maxDischargeDepth := 8) only [go_sem, reduceIte, reduceCtorEq, Nat.reduceEqDiff, Nat.reduceAdd, Nat.reduceMul, Nat.reduceSub, Nat.reduceLeDiff, Nat.reduceLT, Nat.reduceBEq, Int.reduceToNat, Int.reduceEq, Int.reduceLT, Int.reduceLE, Int.reduceAdd, Int.reduceSub, Int.reduceMul, Int.reduceNeg, hw, hX, r_ref03_Cost, hl.iaddrC hlt, hl.loadC hel, hwn, wrap_succ (show i ≤ 4611686018427387903 by omega), hl.lv]
        rw [KL_keep _ _ _ (by simp (maxDischargeDepth := 8) only [go_sem, reduceIte, reduceCtorEq, Nat.reduceEqDiff, Nat.reduceAdd, Nat.reduceMul, Nat.reduceSub, Nat.reduceLeDiff, Nat.reduceLT, Nat.reduceBEq, Int.reduceToNat, Int.reduceEq, Int.reduceLT, Int.reduceLE, Int.reduceAdd, Int.reduceSub, Int.reduceMul, Int.reduceNeg, hl.lv])]
        simp (maxDischargeDepth := 8) only [go_sem, reduceIte, reduceCtorEq, Nat.reduceEqDiff, Nat.reduceAdd, Nat.reduceMul, Nat.reduceSub, Nat.reduceLeDiff, Nat.reduceLT, Nat.reduceBEq, Int.reduceToNat, Int.reduceEq, Int.reduceLT, Int.reduceLE, Int.reduceAdd, Int.reduceSub, Int.reduceMul, Int.reduceNeg]
        exact ih (i + 1, a, b, n + costP (dirR cx cy a b 8)) ⟨by dsimp only; omega, hI, by dsimp only; omega, by dsimp only; omega⟩ (by dsimp only; omega)
    · obtain rfl : i = l.length := by omega
      rw [List.drop_length] at hI
      simp (maxDischargeDepth := 8) only [go_sem, reduceIte, reduceCtorEq, Nat.reduceEqDiff, Nat.reduceAdd, Nat.reduceMul, Nat.reduceSub, Nat.reduceLeDiff, Nat.reduceLT, Nat.reduceBEq, Int.reduceToNat, Int.reduceEq, Int.reduceLT, Int.reduceLE, Int.reduceAdd, Int.reduceSub, Int.reduceMul, Int.reduceNeg, show decide ((l.length : Int) < (l.length : Int)) = false from decide_eq_false (by omega), hw, hI]
      rfl
theorem r_class_Legal {m : Mem} {p : WP} {W : Wd} (hW : WorldAt m p W) (hg : W.Good) {v : SV} {l : List (Int × Int)} (hl : LiesD cellF m v l) (hb : l.length ≤ two48) {X : Mem} (hX : HpSub m X) (hw : X.Wf) (cl sz x y : Int) : RF tb f_class_Legal [.ptr (.hp p.k 0) 0, .agg [.int .i64 cl, .int .i64 sz], .agg [.int .i64 x, .int .i64 y], v] X = some (.bool (W.legal cl sz x y l), X) := by
  rw [RF_go t_class_Legal _ _ rfl]
  simp (maxDischargeDepth := 8) only [go_sem, reduceIte, reduceCtorEq, Nat.reduceEqDiff, Nat.reduceAdd, Nat.reduceMul, Nat.reduceSub, Nat.reduceLeDiff, Nat.reduceLT, Nat.reduceBEq, Int.reduceToNat, Int.reduceEq, Int.reduceLT, Int.reduceLE, Int.reduceAdd, Int.reduceSub, Int.reduceMul, Int.reduceNeg, s_class_Legal, hw, hX, r_class_Stands hW hg]
  unfold Wd.legal
  cases h1 : W.stands cl sz x y with
  | false => simp (maxDischargeDepth := 8) only [go_sem, reduceIte, reduceCtorEq, Nat.reduceEqDiff, Nat.reduceAdd, Nat.reduceMul, Nat.reduceSub, Nat.reduceLeDiff, Nat.reduceLT, Nat.reduceBEq, Int.reduceToNat, Int.reduceEq, Int.reduceLT, Int.reduceLE, Int.reduceAdd, Int.reduceSub, Int.reduceMul, Int.reduceNeg, hw]
  | true =>
    simp (maxDischargeDepth := 8) only [go_sem, reduceIte, reduceCtorEq, Nat.reduceEqDiff, Nat.reduceAdd, Nat.reduceMul, Nat.reduceSub, Nat.reduceLeDiff, Nat.reduceLT, Nat.reduceBEq, Int.reduceToNat, Int.reduceEq, Int.reduceLT, Int.reduceLE, Int.reduceAdd, Int.reduceSub, Int.reduceMul, Int.reduceNeg, hw, hl.len]
    rw [KL_keep _ _ _ (by simp (maxDischargeDepth := 8) only [go_sem, reduceIte, reduceCtorEq, Nat.reduceEqDiff, Nat.reduceAdd, Nat.reduceMul, Nat.reduceSub, Nat.reduceLeDiff, Nat.reduceLT, Nat.reduceBEq, Int.reduceToNat, Int.reduceEq, Int.reduceLT, Int.reduceLE, Int.reduceAdd, Int.reduceSub, Int.reduceMul, Int.reduceNeg, hl.lv])]
    simp (maxDischargeDepth := 8) only [go_sem, reduceIte, reduceCtorEq, Nat.reduceEqDiff, Nat.reduceAdd, Nat.reduceMul, Nat.reduceSub, Nat.reduceLeDiff, Nat.reduceLT, Nat.reduceBEq, Int.reduceToNat, Int.reduceEq, Int.reduceLT, Int.reduceLE, Int.reduceAdd, Int.reduceSub, Int.reduceMul, Int.reduceNeg]
    refine KL_indE (α := Nat × Int × Int) (fun a => l.length - a.1) (fun a => [(0, .ptr (.hp p.k 0) 0), (5, .ptr (.st X.dep 0) 0), (6, .ptr (.st X.dep 1) 0), (16, v), (17, .i l.length), (18, .int .i64 (a.1 : Int))]) (fun a => X.fr [.cells true [.int .i64 cl, .int .i64 sz], .cells true [.int .i64 a.2.1, .int .i64 a.2.2]] none)
      (fun a => a.1 ≤ l.length ∧ W.legalGo cl sz x y l = W.legalGo cl sz a.2.1 a.2.2 (l.drop a.1)) ?_ (0, x, y) ⟨Nat.zero_le _, rfl⟩
    rintro ⟨i, cx, cy⟩ ⟨hi, hI⟩ ih
    dsimp only at hi hI ⊢
    simp (maxDischargeDepth := 8) only [go_sem, reduceIte, reduceCtorEq, Nat.reduceEqDiff, Nat.reduceAdd, Nat.reduceMul, Nat.reduceSub, Nat.reduceLeDiff, Nat.reduceLT, Nat.reduceBEq, Int.reduceToNat, Int.reduceEq, Int.reduceLT, Int.reduceLE, Int.reduceAdd, Int.reduceSub, Int.reduceMul, Int.reduceNeg, hw, hl.lv, hl.len]
    by_cases hlt : i < l.length
    · have hel : l[i]? = some l[i] := List.getElem?_eq_getElem hlt
      have hdr : l.drop i = l[i] :: l.drop (i + 1) := List.drop_eq_getElem_cons hlt
      generalize l[i] = c at hel hdr
      obtain ⟨a, b⟩ := c
      rw [hdr] at hI
      have hI : W.legalGo cl sz x y l = (W.steps cl sz cx cy (dirR cx cy a b 8) && W.legalGo cl sz a b (l.drop (i + 1))) := hI
      simp (maxDischargeDepth := 8) only [go_sem, reduceIte, reduceCtorEq, Nat.reduceEqDiff, Nat.reduceAdd, Nat.reduceMul, Nat.reduceSub, Nat.reduceLeDiff, Nat.reduceLT, Nat.reduceBEq, Int.reduceToNat, Int.reduceEq, Int.reduceLT, Int.reduceLE, Int.reduceAdd, Int.reduceSub, Int.reduceMul, Int.reduceNeg, show decide ((i : Int) < (l.length : Int)) = true from decide_eq_true (by omega), hw, hX, hl.iaddrC hlt, hl.loadC hel, hl.lv, r_cell_Dir, r_class_Steps hW hg]
      cases h2 : W.steps cl sz cx cy (dirR cx cy a b 8) with
      | false =>
        rw [h2] at hI
        simp (maxDischargeDepth := 8) only [go_sem, reduceIte, reduceCtorEq, Nat.reduceEqDiff, Nat.reduceAdd, Nat.reduceMul, Nat.reduceSub, Nat.reduceLeDiff, Nat.reduceLT, Nat.reduceBEq, Int.reduceToNat, Int.reduceEq, Int.reduceLT, Int.reduceLE, Int.reduceAdd, Int.reduceSub, Int.reduceMul, Int.reduceNeg, hw, hI]
      | true =>
        rw [h2, Bool.true_and] at hI
        simp (maxDischargeDepth := 8) only [go_sem, reduceIte, reduceCtorEq, Nat.reduceEqDiff, Nat.reduceAdd, Nat.reduceMul, Nat.reduceSub, Nat.reduceLeDiff, Nat.reduceLT, Nat.reduceBEq, Int.reduceToNat, Int.reduceEq, Int.reduceLT, Int.reduceLE, Int.reduceAdd, Int.reduceSub, Int.reduceMul, Int.reduceNeg, hw, hX, hl.iaddrC hlt, hl.loadC hel, wrap_succ (show i ≤ 4611686018427387903 by simp only [two48] at hb; omega), hl.lv]
        rw [KL_keep _ _ _ (by simp (maxDischargeDepth := 8) only [go_sem, reduceIte, reduceCtorEq, Nat.reduceEqDiff, Nat.reduceAdd, Nat.reduceMul, Nat.reduceSub, Nat.reduceLeDiff, Nat.reduceLT, Nat.reduceBEq, Int.reduceToNat, Int.reduceEq, Int.reduceLT, Int.reduceLE, Int.reduceAdd, Int.reduceSub, Int.reduceMul, Int.reduceNeg, hl.lv])]
        simp (maxDischargeDepth := 8) only [go_sem, reduceIte, reduceCtorEq, Nat.reduceEqDiff, Nat.reduceAdd, Nat.reduceMul, Nat.reduceSub, Nat.reduceLeDiff, Nat.reduceLT, Nat.reduceBEq, Int.reduceToNat, Int.reduceEq, Int.reduceLT, Int.reduceLE, Int.reduceAdd, Int.reduceSub, Int.reduceMul, Int.reduceNeg]
        exact ih (i + 1, a, b) ⟨by dsimp only; omega, hI⟩ (by dsimp only; omega)
    · obtain rfl : i = l.length := by omega
      rw [List.drop_length] at hI
      simp (maxDischargeDepth := 8) only [go_sem, reduceIte, reduceCtorEq, Nat.reduceEqDiff, Nat.reduceAdd, Nat.reduceMul, Nat.reduceSub, Nat.reduceLeDiff, Nat.reduceLT, Nat.reduceBEq, Int.reduceToNat, Int.reduceEq, Int.reduceLT, Int.reduceLE, Int.reduceAdd, Int.reduceSub, Int.reduceMul, Int.reduceNeg, show decide ((l.length : Int) < (l.length : Int)) = false from decide_eq_false (by omega), hw, hI]
      rfl
theorem r_ref06_Legal {m : Mem} {p : QP} {W : Wd} {bl : List Bld} (hV : RefAt m p W bl) (ho : ∀ a b, (atL bl a b).isSome = (atL W.bl a b).isSome) (hg : W.Good) {v : SV} {l : List (Int × Int)} (hl : LiesD cellF m v l) (hb : l.length ≤ two48) {X : Mem} (hX : HpSub m X) (hw : X.Wf) (cl sz x y : Int) : RF tb f_ref06_Legal [.ptr (.hp p.k 0) 0, .agg [.int .i64 cl, .int .i64 sz], .agg [.int .i64 x, .int .i64 y], v] X = some (.bool (W.legal cl sz x y l), X) := by
  rw [RF_go t_ref06_Legal _ _ rfl]
  simp (maxDischargeDepth := 8) only [go_sem, reduceIte, reduceCtorEq, Nat.reduceEqDiff, Nat.reduceAdd, Nat.reduceMul, Nat.reduceSub, Nat.reduceLeDiff, Nat.reduceLT, Nat.reduceBEq, Int.reduceToNat, Int.reduceEq, Int.reduceLT, Int.reduceLE, Int.reduceAdd, Int.reduceSub, Int.reduceMul, Int.reduceNeg, s_ref06_Legal, hw, hX, r_ref06_Stands hV ho hg]
  unfold Wd.legal
  cases h1 : W.stands cl sz x y with
  | false => simp (maxDischargeDepth := 8) only [go_sem, reduceIte, reduceCtorEq, Nat.reduceEqDiff, Nat.reduceAdd, Nat.reduceMul, Nat.reduceSub, Nat.reduceLeDiff, Nat.reduceLT, Nat.reduceBEq, Int.reduceToNat, Int.reduceEq, Int.reduceLT, Int.reduceLE, Int.reduceAdd, Int.reduceSub, Int.reduceMul, Int.reduceNeg, hw]
  | true =>
    simp (maxDischargeDepth := 8) only [go_sem, reduceIte, reduceCtorEq, Nat.reduceEqDiff, Nat.reduceAdd, Nat.reduceMul, Nat.reduceSub, Nat.reduceLeDiff, Nat.reduceLT, Nat.reduceBEq, Int.reduceToNat, Int.reduceEq, Int.reduceLT, Int.reduceLE, Int.reduceAdd, Int.reduceSub, Int.reduceMul, Int.reduceNeg, hw, hl.len]
    rw [KL_keep _ _ _ (by simp (maxDischargeDepth := 8) only [go_sem, reduceIte, reduceCtorEq, Nat.reduceEqDiff, Nat.reduceAdd, Nat.reduceMul, Nat.reduceSub, Nat.reduceLeDiff, Nat.reduceLT, Nat.reduceBEq, Int.reduceToNat, Int.reduceEq, Int.reduceLT, Int.reduceLE, Int.reduceAdd, Int.reduceSub, Int.reduceMul, Int.reduceNeg, hl.lv])]
    simp (maxDischargeDepth := 8) only [go_sem, reduceIte, reduceCtorEq, Nat.reduceEqDiff, Nat.reduceAdd, Nat.reduceMul, Nat.reduceSub, Nat.reduceLeDiff, Nat.reduceLT, Nat.reduceBEq, Int.reduceToNat, Int.reduceEq, Int.reduceLT, Int.reduceLE, Int.reduceAdd, Int.reduceSub, Int.reduceMul, Int.reduceNeg]
    refine KL_indE (α := Nat × Int × Int) (fun a => l.length - a.1) (fun a => [(0, .ptr (.hp p.k 0) 0), (3, v), (5, .ptr (.st X.dep 0) 0), (6, .ptr (.st X.dep 1) 0), (9, .int .i64 (a.1 : Int))]) (fun a => X.fr [.cells true [.int .i64 cl, .int .i64 sz], .cells true [.int .i64 a.2.1, .int .i64 a.2.2]] none)
      (fun a => a.1 ≤ l.length ∧ W.legalGo cl sz x y l = W.legalGo cl sz a.2.1 a.2.2 (l.drop a.1)) ?_ (0, x, y) ⟨Nat.zero_le _, rfl⟩
    rintro ⟨i, cx, cy⟩ ⟨hi, hI⟩ ih
    dsimp only at hi hI ⊢
    simp (maxDischargeDepth := 8) only [go_sem, reduceIte, reduceCtorEq, Nat.reduceEqDiff, Nat.reduceAdd, Nat.reduceMul, Nat.reduceSub, Nat.reduceLeDiff, Nat.reduceLT, Nat.reduceBEq, Int.reduceToNat, Int.reduceEq, Int.reduceLT, Int.reduceLE, Int.reduceAdd, Int.reduceSub, Int.reduceMul, Int.reduceNeg, hw, hl.lv, hl.len]
    by_cases hlt : i < l.length
    · have hel : l[i]? = some l[i] := List.getElem?_eq_getElem hlt
      have hdr : l.drop i = l[i] :: l.drop (i + 1) := List.drop_eq_getElem_cons hlt
      generalize l[i] = c at hel hdr
      obtain ⟨a, b⟩ := c
      rw [hdr] at hI
      have hI : W.legalGo cl sz x y l = (W.steps cl sz cx cy (dirR cx cy a b 8) && W.legalGo cl sz a b (l.drop (i + 1))) := hI
      simp (maxDischargeDepth := 8) only [go_sem, reduceIte, reduceCtorEq, Nat.reduceEqDiff, Nat.reduceAdd, Nat.reduceMul, Nat.reduceSub, Nat.reduceLeDiff, Nat.reduceLT, Nat.reduceBEq, Int.reduceToNat, Int.reduceEq, Int.reduceLT, Int.reduceLE, Int.reduceAdd, Int.reduceSub, Int.reduceMul, Int.reduceNeg, show decide ((i : Int) < (l.length : Int)) = true from decide_eq_true (by omega), hw, hX, hl.iaddrC hlt, hl.loadC hel, hl.lv, r_ref03_Dir]
      cases h3 : decide (dirR cx cy a b 8 < 0) with
      | true =>
        rw [steps_neg W cl sz cx cy (of_decide_eq_true h3), Bool.false_and] at hI
        simp (maxDischargeDepth := 8) only [go_sem, reduceIte, reduceCtorEq, Nat.reduceEqDiff, Nat.reduceAdd, Nat.reduceMul, Nat.reduceSub, Nat.reduceLeDiff, Nat.reduceLT, Nat.reduceBEq, Int.reduceToNat, Int.reduceEq, Int.reduceLT, Int.reduceLE, Int.reduceAdd, Int.reduceSub, Int.reduceMul, Int.reduceNeg, hw, hI]
      | false =>
      simp (maxDischargeDepth := 8) only [go_sem, reduceIte, reduceCtorEq, Nat.reduceEqDiff, Nat.reduceAdd, Nat.reduceMul, Nat.reduceSub, Nat.reduceLeDiff, Nat.reduceLT, Nat.reduceBEq, Int.reduceToNat, Int.reduceEq, Int.reduceLT, Int.reduceLE, Int.reduceAdd, Int.reduceSub, Int.reduceMul, Int.reduceNeg, hw, hX, r_ref06_Steps hV ho hg]
      cases h2 : W.steps cl sz cx cy (dirR cx cy a b 8) with
      | false =>
        rw [h2] at hI
        simp (maxDischargeDepth := 8) only [go_sem, reduceIte, reduceCtorEq, Nat.reduceEqDiff, Nat.reduceAdd, Nat.reduceMul, Nat.reduceSub, Nat.reduceLeDiff, Nat.reduceLT, Nat.reduceBEq, Int.reduceToNat, Int.reduceEq, Int.reduceLT, Int.reduceLE, Int.reduceAdd, Int.reduceSub, Int.reduceMul, Int.reduceNeg, hw, hI]
      | true =>
        rw [h2, Bool.true_and] at hI
        simp (maxDischargeDepth := 8) only [go_sem, reduceIte, reduceCtorEq, Nat.reduceEqDiff, Nat.reduceAdd, Nat.reduceMul, Nat.reduceSub, Nat.reduceLeDiff, Nat.reduceLT, Nat.reduceBEq, Int.reduceToNat, Int.reduceEq, Int.reduceLT, Int.reduceLE, Int.reduceAdd, Int.reduceSub, Int.reduceMul, Int.reduceNeg, hw, hX, hl.iaddrC hlt, hl.loadC hel, wrap_succ (show i ≤ 4611686018427387903 by simp only [two48] at hb; omega), hl.lv]
        rw [KL_keep _ _ _ (by simp (maxDischargeDepth := 8) only [go_sem, reduceIte, reduceCtorEq, Nat.reduceEqDiff, Nat.reduceAdd, Nat.reduceMul, Nat.reduceSub, Nat.reduceLeDiff, Nat.reduceLT, Nat.reduceBEq, Int.reduceToNat, Int.reduceEq, Int.reduceLT, Int.reduceLE, Int.reduceAdd, Int.reduceSub, Int.reduceMul, Int.reduceNeg, hl.lv])]
        simp (maxDischargeDepth := 8) only [go_sem, reduceIte, reduceCtorEq, Nat.reduceEqDiff, Nat.reduceAdd, Nat.reduceMul, Nat.reduceSub, Nat.reduceLeDiff, Nat.reduceLT, Nat.reduceBEq, Int.reduceToNat, Int.reduceEq, Int.reduceLT, Int.reduceLE, Int.reduceAdd, Int.reduceSub, Int.reduceMul, Int.reduceNeg]
        exact ih (i + 1, a, b) ⟨by dsimp only; omega, hI⟩ (by dsimp only; omega)
    · obtain rfl : i = l.length := by omega
      rw [List.drop_length] at hI
      simp (maxDischargeDepth := 8) only [go_sem, reduceIte, reduceCtorEq, Nat.reduceEqDiff, Nat.reduceAdd, Nat.reduceMul, Nat.reduceSub, Nat.reduceLeDiff, Nat.reduceLT, Nat.reduceBEq, Int.reduceToNat, Int.reduceEq, Int.reduceLT, Int.reduceLE, Int.reduceAdd, Int.reduceSub, Int.reduceMul, Int.reduceNeg, show decide ((l.length : Int) < (l.length : Int)) = false from decide_eq_false (by omega), hw, hI]
      rfl
def Wd.plain (w h : Int) : Wd := ⟨w, h, List.replicate (w * h).toNat 0, [], []⟩
theorem plain_good (w h : Int) : (Wd.plain w h).Good := fun x hx => by
  have := List.eq_of_mem_replicate hx
  omega
theorem plain33 : newW 3 3 (List.replicate 9 0) [] = some (Wd.plain 3 3) := by rfl
structure MapIn (X : Mem) (tv bv : SV) (tiles : List Int) (bl : List Bld) : Prop where
  t : LiesD byteF (Hm X.heap) tv tiles
  g : ∀ t ∈ tiles, 0 ≤ t ∧ t ≤ 255
  b : LiesD bldF (Hm X.heap) bv bl
  n : bl.length ≤ two48
theorem both_of {X : Mem} {tv bv : SV} {tiles : List Int} {bl : List Bld} {w hh : Int} {z : Option (SV × Mem)} (hz : RF tb f_law06_Both [.agg [.int .i64 w, .int .i64 hh, tv, bv]] X = z) (hm : MapIn X tv bv tiles bl) (hw : X.Wf) (hhb : X.hb ≤ X.hl) :
    (∃ H' u, z = some (.tup [.nilp, .nilp, .bool false], (X.hp H').es (escMin X.esc u)) ∧ Keep [] X.heap H') ∨
    (∃ H' u p q, z = some (.tup [.ptr (.hp p.k 0) 0, .ptr (.hp q.k 0) 0, .bool true], (X.hp H').es (escMin X.esc u)) ∧
    WorldOwn H' p ⟨w, hh, tiles, bl, []⟩ ∧ RefOwn H' q ⟨w, hh, tiles, bl, []⟩ bl ∧ Wd.Good ⟨w, hh, tiles, bl, []⟩ ∧ Keep [] X.heap H' ∧ (∀ i ∈ p.fp, X.heap.length ≤ i ∧ i ∉ q.fp) ∧ (∀ i ∈ q.fp, X.heap.length ≤ i)) := by
  rw [← hz]
  cases hc : chkB w hh tiles bl with
  | false => exact .inl (r_law06_Both_no hm.t hm.g hm.b hm.n hw hhb w hh hc)
  | true =>
    right
    obtain ⟨H', u, p, q, h1, h2, h3, h4, h5, h6⟩ := r_law06_Both hm.t hm.g hm.b hm.n hw hhb w hh hc
    exact ⟨H', u, p, q, h1, h2, h3, fun x hx => ⟨(hm.g x hx).1, (chk_in hc).2.2.2.2.1 x hx⟩, h4, h5, h6⟩
theorem hxs_cell (l : List (Int × Int)) : SV.hxs (l.flatMap cellF.enc) = 0 := by induction l with | nil => rfl | cons a l ih => simp only [List.flatMap_cons]; exact ih
/-- Rounds, each of which keeps what lies behind, or notes it. -/
inductive RoundsN (F : Tbl) (b : Bk) (P : Mem → Prop) (H : Nat) : List (List SV) → Mem → Option Nat → Mem → Option Nat → Bool → Prop
  | nil (m : Mem) (u : Option Nat) : RoundsN F b P H [] m u m u true
  | stop {x : List SV} {L : List (List SV)} {m m' : Mem} {u d : Option Nat} (h : Yields F b x m m' d false) (hp : P m') (hk : m'.hl = m.hl ∨ ∃ k, d = some k ∧ k < H) : RoundsN F b P H (x :: L) m u m' (escMin u d) false
  | next {x : List SV} {L : List (List SV)} {m m' m'' : Mem} {u d u' : Option Nat} {go : Bool} (h : Yields F b x m m' d true) (hp : P m') (hk : m'.hl = m.hl ∨ ∃ k, d = some k ∧ k < H) (t : RoundsN F b P H L m' (escMin u d) m'' u' go) : RoundsN F b P H (x :: L) m u m'' u' go
theorem noted_next {H : Nat} {m m' : Mem} {u d : Option Nat} (h : Noted H m u) (hk : m'.hl = m.hl ∨ ∃ k, d = some k ∧ k < H) : Noted H m' (escMin u d) := by
  rcases hk with hk | ⟨k, rfl, hk⟩
  · rcases h with h | ⟨j, rfl, hj⟩
    · exact .inl (hk.trans h)
    · cases d with
      | none => exact .inr ⟨j, rfl, hj⟩
      | some d => exact .inr ⟨min j d, rfl, by omega⟩
  · cases u with
    | none => exact .inr ⟨k, rfl, hk⟩
    | some j => exact .inr ⟨min j k, rfl, by omega⟩
theorem RoundsN.noted {F : Tbl} {b : Bk} {P : Mem → Prop} {H : Nat} {L : List (List SV)} {m m' : Mem} {u u' : Option Nat} {go : Bool} (h : RoundsN F b P H L m u m' u' go) (h0 : Noted H m u) : Noted H m' u' := by
  induction h with
  | nil => exact h0
  | stop _ _ hk => exact noted_next h0 hk
  | next _ _ hk _ ih => exact ih (noted_next h0 hk)
theorem RoundsN.weak {F : Tbl} {b : Bk} {P : Mem → Prop} {H H' : Nat} {L : List (List SV)} {m m' : Mem} {u u' : Option Nat} {go : Bool} (h : RoundsN F b P H L m u m' u' go) (hh : H ≤ H') : RoundsN F b P H' L m u m' u' go := by
  induction h with
  | nil => exact .nil _ _
  | stop h hp hk => exact .stop h hp (hk.imp_right fun ⟨k, h1, h2⟩ => ⟨k, h1, by omega⟩)
  | next h hp hk _ ih => exact .next h hp (hk.imp_right fun ⟨k, h1, h2⟩ => ⟨k, h1, by omega⟩) ih
theorem RoundsN.last {F : Tbl} {b : Bk} {P : Mem → Prop} {H : Nat} {L : List (List SV)} {m m' : Mem} {u u' : Option Nat} {go : Bool} (h : RoundsN F b P H L m u m' u' go) (h0 : P m) : P m' := by
  induction h with
  | nil => exact h0
  | stop _ hp => exact hp
  | next _ hp _ _ ih => exact ih hp
theorem stands_has {W : Wd} {cl sz x y : Int} (h : W.stands cl sz x y = true) : W.has x y = true := by
  simp only [Wd.stands, Bool.and_eq_true] at h
  have h := h.1
  unfold footR at h
  split at h
  · simp only [withinB, Bool.and_eq_true] at h
    exact h.1.2
  · simp only [withinB, Bool.and_eq_true] at h
    have : mayB 0 0 0 0 = true := h.1.1
    exact absurd this (by decide)
theorem isDir_in {d : Int} (h : isDir d = true) : 0 ≤ d ∧ d ≤ 7 := by simpa [isDir] using h
theorem dirR_step {x y d : Int} (h : stepOk x y d = true) : dirR x y (x + turnX d) (y + turnY d) 8 = d := by
  have hd := isDir_in (step_in h).1
  have : d = 0 ∨ d = 1 ∨ d = 2 ∨ d = 3 ∨ d = 4 ∨ d = 5 ∨ d = 6 ∨ d = 7 := by omega
  have ht : goes x y (x + turnX d) (y + turnY d) d = true := by simp [goes, h]
  rcases this with rfl | rfl | rfl | rfl | rfl | rfl | rfl | rfl <;>
    simp only [dirR] <;> simp [goes, turnX, turnY, h] <;> first | done | (intros; omega) | skip
theorem dir8 {d : Int} (h : isDir d = true) : d = 0 ∨ d = 1 ∨ d = 2 ∨ d = 3 ∨ d = 4 ∨ d = 5 ∨ d = 6 ∨ d = 7 := by
  have := isDir_in h; omega
section
open Go.RowKit Go.WideShapes
theorem slB_cases {α : Type} (d : Fl α) (s : Sl α) : slB d s = [] ∨ slB d s = [s.l.flatMap d.enc] := by
  unfold slB; split <;> simp
theorem blk_at {n0 : In} {L : List (List SV)} (h : n0.map (·.2) = L) {j : Nat} {c : List SV} (hj : L[j]? = some c) (pre post : In) : ∃ t, (pre ++ n0 ++ post)[pre.length + j]? = some (t, c) := by
  rw [← h, List.getElem?_map] at hj
  cases hx : n0[j]? with
  | none => rw [hx] at hj; cases hj
  | some x =>
    rw [hx] at hj
    simp only [Option.map_some, Option.some.injEq] at hj
    have hlt := (List.getElem?_eq_some_iff.1 hx).1
    refine ⟨x.1, ?_⟩
    rw [List.append_assoc, List.getElem?_append_right (Nat.le_add_right _ _), Nat.add_sub_cancel_left, List.getElem?_append_left hlt, hx, ← hj]
/-- A slice that came in. -/
theorem sl_inG {α : Type} {d : Fl α} (hd : d.Even) {P : Program} {e : TypeId} {ok : α → Prop} {s : Sl α} (hok : slOk P e ok s) {pre n0 post : In} {A B : List (List SV)} (e0 : n0.map (·.2) = A ++ slB d s ++ B) : LiesD d (In.mem (pre ++ n0 ++ post)) (slV d s (pre.length + A.length)) s.l := by
  refine lies_in hd hok.2.2.2.1 hok.2.2.2.2 ?_
  rcases slB_cases d s with h | h
  · exact .inl h
  · refine .inr ⟨_, h, ?_⟩
    rw [h] at e0
    obtain ⟨t, ht⟩ := blk_at e0 (j := A.length) (c := s.l.flatMap d.enc) (by simp) pre post
    exact In.get (x := (t, _)) ht
theorem sl_bd {α : Type} {P : Program} {e : TypeId} {ok : α → Prop} {s : Sl α} (hok : slOk P e ok s) {b : Nat} (hb : P.bytesOf e = b) : 2 * s.l.length * b ≤ two48 := by
  have := hok.2.1
  rw [hb] at this
  have h2 : 2 * s.l.length * b = 2 * (s.l.length * b) := Nat.mul_assoc _ _ _
  simp only [two48, reachBytes, maxLen] at *
  omega
abbrev Bl' := Int × ((Int × Int) × (Int × Int))
abbrev bldF' : Fl Bl' := Fl.pair (Fl.int .i64) (Fl.pair (Fl.pair (Fl.int .i64) (Fl.int .i64)) (Fl.pair (Fl.int .i64) (Fl.int .i64)))
theorem bldF'_even : bldF'.Even := ⟨fun _ => rfl⟩
def bl5 (b : Bl') : Bld := (b.1, b.2.1.1, b.2.1.2, b.2.2.1, b.2.2.2)
theorem bl5_lies {m : Mem} {v : SV} {l : List Bl'} (h : LiesD bldF' m v l) : LiesD bldF m v (l.map bl5) := by
  unfold LiesD at *
  rw [List.length_map, show (l.map bl5).flatMap bldF.enc = l.flatMap bldF'.enc by rw [List.flatMap_map]; rfl]
  exact h
abbrev MT := Int × Int × Sl Int × Sl Bl'
abbrev rdM : Rd MT := Rd.pair (Rd.flat (Fl.int .i64)) (Rd.pair (Rd.flat (Fl.int .i64)) (Rd.pair (Rd.slice byteF) (Rd.slice bldF')))
theorem rdM_blks (a : MT) (n : Nat) : rdM.blks a n = slB byteF a.2.2.1 ++ slB bldF' a.2.2.2 := by simp [rdM, Rd.pair, Rd.flat, Rd.slice]
theorem mapIn_of {P : Program} {e e' : TypeId} {okB : Bl' → Prop} {t : Sl Int} {b : Sl Bl'} (h1 : slOk P e (inR .u8) t) (h2 : slOk P e' okB b) (hB : P.bytesOf e' = 40) {pre n0 post : In} (e0 : n0.map (·.2) = slB byteF t ++ slB bldF' b) :
    MapIn (In.mem (pre ++ n0 ++ post)) (slV byteF t pre.length) (slV bldF' b (pre.length + (slB byteF t).length)) t.l (b.l.map bl5) := by
  refine ⟨?_, fun x hx => inR_u8 (h1.2.2.1 x hx), ?_, ?_⟩
  · have := sl_inG byteF_even h1 (pre := pre) (post := post) (A := []) (B := slB bldF' b) e0
    exact this
  · have := sl_inG bldF'_even h2 (pre := pre) (post := post) (A := slB byteF t) (B := []) (by rw [List.append_nil]; exact e0)
    exact bl5_lies this
  · have := sl_bd h2 hB
    rw [List.length_map]
    omega
end
/-- A cell more on an own slice. -/
theorem app1 {H0 H : Hp} {v : SV} {l : List (Int × Int)} (ow : Own cellF H v l) (fp : ∀ i ∈ slFp v, H0.length ≤ i) (kk : Keep [] H0 H) (hb : l.length ≤ 1000000) (X : Mem) (hhb : X.hb ≤ H0.length) (a b : Int) :
    ∃ v' H', (∀ f e, appV 2 16 [.int .i64 0, .int .i64 0] (fun _ => true) v (.sl (.hp H.length 0) 0 1 (some 1) 2) ((X.hp (H ++ [(0, .cells true [.int .i64 a, .int .i64 b])])).fr f e) = some (v', (X.hp H').fr f e)) ∧ Own cellF H' v' (l ++ [(a, b)]) ∧ Keep [] H0 H' ∧ (∀ i ∈ slFp v', H0.length ≤ i) ∧ IsSl v' := by
  have hyl : LiesD cellF (Hm (H ++ [(0, .cells true [.int .i64 a, .int .i64 b])])) (.sl (.hp H.length 0) 0 1 (some 1) 2) [(a, b)] := (own_new cellF_even H [(a, b)] (some 1)).lies cellF_even
  obtain ⟨v', H2, ha, o1, o2, o3, ⟨o4, o5, o6⟩, o7⟩ := app_own cellF_even (by decide) cellF_ok hxs_cell (ow.keep (Keep.app [] H [(0, .cells true [.int .i64 a, .int .i64 b])]) (by simp)) hyl (bytes := 16) (by simp only [List.length_singleton, two48]; omega) (by simp only [List.length_singleton, two48]; omega) X (fun i hi => by have := fp i hi; omega)
  have ha' := ha [.int .i64 0, .int .i64 0] rfl (fun _ => true) (ow.aw (fun _ _ => rfl))
  refine ⟨v', H2, ha', o1, (kk.trans (Keep.app [] _ _)).trans' o2 (fun n hn hl => by have := fp n hn; omega), fun i hi => ?_, o1.isSl cellF_even⟩
  have := kk.1
  rcases o3 i hi with h | h
  · exact fp i h
  · rw [List.length_append] at h; omega
/-- A list more. -/
theorem appL {H0 H : Hp} {v y : SV} {l k : List (Int × Int)} (ow : Own cellF H v l) (fp : ∀ i ∈ slFp v, H0.length ≤ i) (kk : Keep [] H0 H) (hy : LiesD cellF (Hm H) y k) (hb : l.length + k.length ≤ 1000000) (X : Mem) (hhb : X.hb ≤ H0.length) :
    ∃ v' H', (∀ f e, appV 2 16 [.int .i64 0, .int .i64 0] (fun _ => true) v y ((X.hp H).fr f e) = some (v', (X.hp H').fr f e)) ∧ Own cellF H' v' (l ++ k) ∧ Keep [] H0 H' ∧ (∀ i ∈ slFp v', H0.length ≤ i) ∧ IsSl v' := by
  obtain ⟨v', H2, ha, o1, o2, o3, ⟨o4, o5, o6⟩, o7⟩ := app_own cellF_even (by decide) cellF_ok hxs_cell ow hy (bytes := 16) (by simp only [two48]; omega) (by simp only [two48]; omega) X (fun i hi => by have := fp i hi; omega)
  have ha' := ha [.int .i64 0, .int .i64 0] rfl (fun _ => true) (ow.aw (fun _ _ => rfl))
  refine ⟨v', H2, ha', o1, kk.trans' o2 (fun n hn hl => by have := fp n hn; omega), fun i hi => ?_, o1.isSl cellF_even⟩
  have := kk.1
  rcases o3 i hi with h | h
  · exact fp i h
  · omega
def absJ (a : Int) : Int := if a < 0 then -a else a
def apt (x y a b : Int) : Int := mxI (absJ (x - a)) (absJ (y - b))
def apartJ (x y a b : Int) : Int := iB (nearC x y && nearC a b) (apt x y a b)
def octD (p q : Int) : Int := 14 * mnI p q + 10 * (mxI p q - mnI p q)
theorem r_cell_amount (m : Mem) (a b : Int) : RF tb f_cell_amount [.int .i64 a, .int .i64 b] m = some (.int .i64 (mxI (IntKind.wrap .i64 (a - b)) (IntKind.wrap .i64 (b - a))), m) := by
  rw [RF_go t_cell_amount _ _ rfl]
  simp (maxDischargeDepth := 8) only [go_sem, reduceIte, reduceCtorEq, Nat.reduceEqDiff, Nat.reduceAdd, Nat.reduceMul, Nat.reduceSub, Nat.reduceLeDiff, Nat.reduceLT, Nat.reduceBEq, Int.reduceToNat, Int.reduceEq, Int.reduceLT, Int.reduceLE, Int.reduceAdd, Int.reduceSub, Int.reduceMul, Int.reduceNeg, s_cell_amount]
theorem mx_absJ {a b : Int} : mxI (a - b) (b - a) = absJ (a - b) := by unfold absJ mxI; split <;> split <;> omega
theorem absJ_in (a : Int) : 0 ≤ absJ a ∧ (absJ a = a ∨ absJ a = -a) ∧ a ≤ absJ a ∧ -a ≤ absJ a := by unfold absJ; split <;> omega
theorem mxI_eq (a b : Int) : (mxI a b = a ∨ mxI a b = b) ∧ a ≤ mxI a b ∧ b ≤ mxI a b := by unfold mxI; split <;> omega
theorem mnI_eq (a b : Int) : (mnI a b = a ∨ mnI a b = b) ∧ mnI a b ≤ a ∧ mnI a b ≤ b := by unfold mnI; split <;> omega
theorem r_cell_Apart (m : Mem) (hm : m.Wf) (x y a b : Int) : RF tb f_cell_Apart [.agg [.int .i64 x, .int .i64 y], .agg [.int .i64 a, .int .i64 b]] m = some (.int .i64 (apartJ x y a b), m) := by
  rw [RF_go t_cell_Apart _ _ rfl]
  simp (maxDischargeDepth := 8) only [go_sem, reduceIte, reduceCtorEq, Nat.reduceEqDiff, Nat.reduceAdd, Nat.reduceMul, Nat.reduceSub, Nat.reduceLeDiff, Nat.reduceLT, Nat.reduceBEq, Int.reduceToNat, Int.reduceEq, Int.reduceLT, Int.reduceLE, Int.reduceAdd, Int.reduceSub, Int.reduceMul, Int.reduceNeg, s_cell_Apart, hm, r_cell_Near]
  cases h1 : nearC x y with
  | false => simp (maxDischargeDepth := 8) only [go_sem, reduceIte, reduceCtorEq, Nat.reduceEqDiff, Nat.reduceAdd, Nat.reduceMul, Nat.reduceSub, Nat.reduceLeDiff, Nat.reduceLT, Nat.reduceBEq, Int.reduceToNat, Int.reduceEq, Int.reduceLT, Int.reduceLE, Int.reduceAdd, Int.reduceSub, Int.reduceMul, Int.reduceNeg]; simp [apartJ, h1, iB]
  | true =>
    simp (maxDischargeDepth := 8) only [go_sem, reduceIte, reduceCtorEq, Nat.reduceEqDiff, Nat.reduceAdd, Nat.reduceMul, Nat.reduceSub, Nat.reduceLeDiff, Nat.reduceLT, Nat.reduceBEq, Int.reduceToNat, Int.reduceEq, Int.reduceLT, Int.reduceLE, Int.reduceAdd, Int.reduceSub, Int.reduceMul, Int.reduceNeg, hm, r_cell_Near]
    cases h2 : nearC a b with
    | false => simp (maxDischargeDepth := 8) only [go_sem, reduceIte, reduceCtorEq, Nat.reduceEqDiff, Nat.reduceAdd, Nat.reduceMul, Nat.reduceSub, Nat.reduceLeDiff, Nat.reduceLT, Nat.reduceBEq, Int.reduceToNat, Int.reduceEq, Int.reduceLT, Int.reduceLE, Int.reduceAdd, Int.reduceSub, Int.reduceMul, Int.reduceNeg]; simp [apartJ, h1, h2, iB]
    | true =>
      have n1 := nearC_in h1
      have n2 := nearC_in h2
      simp (maxDischargeDepth := 8) only [go_sem, reduceIte, reduceCtorEq, Nat.reduceEqDiff, Nat.reduceAdd, Nat.reduceMul, Nat.reduceSub, Nat.reduceLeDiff, Nat.reduceLT, Nat.reduceBEq, Int.reduceToNat, Int.reduceEq, Int.reduceLT, Int.reduceLE, Int.reduceAdd, Int.reduceSub, Int.reduceMul, Int.reduceNeg, hm, r_cell_amount, wrap_small (x := x - a) (by omega) (by omega), wrap_small (x := a - x) (by omega) (by omega), wrap_small (x := y - b) (by omega) (by omega), wrap_small (x := b - y) (by omega) (by omega)]
      simp [apartJ, apt, h1, h2, iB, mx_absJ]
/-- One nearer. -/
def sgJ (x a : Int) : Int := if x < a then 1 else if a < x then -1 else 0
def toJ (x a : Int) : Int := x + sgJ x a
theorem r_smooth_toward (m : Mem) (hm : m.Wf) (x a : Int) (hx : -4611686018427387904 ≤ x ∧ x ≤ 4611686018427387904) : RF tb f_smooth_toward [.int .i64 x, .int .i64 a] m = some (.int .i64 (toJ x a), m) := by
  rw [RF_go t_smooth_toward _ _ rfl]
  simp (maxDischargeDepth := 8) only [go_sem, reduceIte, reduceCtorEq, Nat.reduceEqDiff, Nat.reduceAdd, Nat.reduceMul, Nat.reduceSub, Nat.reduceLeDiff, Nat.reduceLT, Nat.reduceBEq, Int.reduceToNat, Int.reduceEq, Int.reduceLT, Int.reduceLE, Int.reduceAdd, Int.reduceSub, Int.reduceMul, Int.reduceNeg, s_smooth_toward, hm]
  unfold toJ sgJ
  by_cases h0 : x < a
  · simp (maxDischargeDepth := 8) only [go_sem, reduceIte, reduceCtorEq, Nat.reduceEqDiff, Nat.reduceAdd, Nat.reduceMul, Nat.reduceSub, Nat.reduceLeDiff, Nat.reduceLT, Nat.reduceBEq, Int.reduceToNat, Int.reduceEq, Int.reduceLT, Int.reduceLE, Int.reduceAdd, Int.reduceSub, Int.reduceMul, Int.reduceNeg, show decide (x < a) = true from decide_eq_true h0, wrap_small (x := x + 1) (by omega) (by omega), if_pos h0]
  · simp (maxDischargeDepth := 8) only [go_sem, reduceIte, reduceCtorEq, Nat.reduceEqDiff, Nat.reduceAdd, Nat.reduceMul, Nat.reduceSub, Nat.reduceLeDiff, Nat.reduceLT, Nat.reduceBEq, Int.reduceToNat, Int.reduceEq, Int.reduceLT, Int.reduceLE, Int.reduceAdd, Int.reduceSub, Int.reduceMul, Int.reduceNeg, show decide (x < a) = false from decide_eq_false h0]
    rw [if_neg h0]
    by_cases h2 : a < x
    · simp (maxDischargeDepth := 8) only [go_sem, reduceIte, reduceCtorEq, Nat.reduceEqDiff, Nat.reduceAdd, Nat.reduceMul, Nat.reduceSub, Nat.reduceLeDiff, Nat.reduceLT, Nat.reduceBEq, Int.reduceToNat, Int.reduceEq, Int.reduceLT, Int.reduceLE, Int.reduceAdd, Int.reduceSub, Int.reduceMul, Int.reduceNeg, show decide (x > a) = true from decide_eq_true h2, wrap_small (x := x - 1) (by omega) (by omega), if_pos h2]
      rfl
    · simp (maxDischargeDepth := 8) only [go_sem, reduceIte, reduceCtorEq, Nat.reduceEqDiff, Nat.reduceAdd, Nat.reduceMul, Nat.reduceSub, Nat.reduceLeDiff, Nat.reduceLT, Nat.reduceBEq, Int.reduceToNat, Int.reduceEq, Int.reduceLT, Int.reduceLE, Int.reduceAdd, Int.reduceSub, Int.reduceMul, Int.reduceNeg, show decide (x > a) = false from decide_eq_false h2, if_neg h2, Int.add_zero]
def lineL : Nat → Int → Int → Int → Int → List (Int × Int)
  | 0, _, _, _, _ => []
  | n + 1, x, y, a, b => (toJ x a, toJ y b) :: lineL n (toJ x a) (toJ y b) a b
def lineOk (x y a b : Int) : Bool := nearC x y && nearC a b && decide (apt x y a b ≤ 16384)
def lineP (x y a b : Int) : List (Int × Int) := if lineOk x y a b then lineL (apt x y a b).toNat x y a b else []
theorem apt_in (x y a b : Int) : 0 ≤ apt x y a b ∧ absJ (x - a) ≤ apt x y a b ∧ absJ (y - b) ≤ apt x y a b := by
  have h1 := absJ_in (x - a)
  have h2 := absJ_in (y - b)
  have h3 := mxI_eq (absJ (x - a)) (absJ (y - b))
  unfold apt
  omega
theorem apt_zero {x y a b : Int} (h : apt x y a b = 0) : x = a ∧ y = b := by
  have h1 := absJ_in (x - a)
  have h2 := absJ_in (y - b)
  have h3 := apt_in x y a b
  omega
theorem apt_self (x y : Int) : apt x y x y = 0 := by simp [apt, absJ, mxI]
theorem abs_to (x a : Int) : absJ (toJ x a - a) = if x = a then 0 else absJ (x - a) - 1 := by
  unfold toJ sgJ absJ
  split <;> (try split) <;> (try split) <;> (try split) <;> omega
theorem apt_to {x y a b : Int} (h : ¬ (x = a ∧ y = b)) : apt (toJ x a) (toJ y b) a b = apt x y a b - 1 := by
  have h1 := absJ_in (x - a)
  have h2 := absJ_in (y - b)
  unfold apt
  rw [abs_to, abs_to]
  by_cases h3 : x = a
  · subst h3
    have h4 : ¬ y = b := fun h5 => h ⟨rfl, h5⟩
    rw [if_pos rfl, if_neg h4]
    have : absJ (x - x) = 0 := by simp [absJ]
    rw [this]
    unfold mxI
    split <;> split <;> omega
  · rw [if_neg h3]
    by_cases h4 : y = b
    · subst h4
      rw [if_pos rfl]
      have : absJ (y - y) = 0 := by simp [absJ]
      rw [this]
      unfold mxI
      split <;> split <;> omega
    · rw [if_neg h4]
      unfold mxI
      split <;> split <;> omega
theorem near_to {x a : Int} (h1 : -1048576 ≤ x ∧ x ≤ 1048576) (h2 : -1048576 ≤ a ∧ a ≤ 1048576) : -1048576 ≤ toJ x a ∧ toJ x a ≤ 1048576 := by
  unfold toJ sgJ
  split <;> (try split) <;> omega
theorem lineL_len : ∀ (n : Nat) (x y a b : Int), (lineL n x y a b).length = n
  | 0, _, _, _, _ => rfl
  | n + 1, x, y, a, b => by simp only [lineL, List.length_cons, lineL_len n]
theorem line_step {x y a b : Int} (h : ¬ (x = a ∧ y = b)) : lineL (apt x y a b).toNat x y a b = (toJ x a, toJ y b) :: lineL (apt (toJ x a) (toJ y b) a b).toNat (toJ x a) (toJ y b) a b := by
  have h0 : 0 < apt x y a b := by
    have := apt_in x y a b
    rcases Int.lt_or_eq_of_le this.1 with h1 | h1
    · exact h1
    · exact absurd (apt_zero h1.symm) h
  rw [apt_to h]
  have e : (apt x y a b).toNat = (apt x y a b - 1).toNat + 1 := by omega
  rw [e]
  rfl
theorem take_hl {X : Mem} {H : Hp} (hH : X.heap = H) : List.take X.hl H = H := by subst hH; exact List.take_length
theorem r_smooth_Line {X : Mem} (hw : X.Wf) (hhb : X.hb ≤ X.hl) (x y a b : Int) : ∃ v' H', RF tb f_smooth_Line [cellV x y, cellV a b] X = some (v', X.hp H') ∧ Own cellF H' v' (lineP x y a b) ∧ (∀ i ∈ slFp v', X.heap.length ≤ i) ∧ Keep [] X.heap H' := by
  rw [RF_go t_smooth_Line _ _ rfl, push_hp]
  generalize hH : X.heap = H at *
  have hHl : X.hl = H.length := by rw [← hH]; rfl
  simp (maxDischargeDepth := 8) only [go_sem, reduceIte, reduceCtorEq, Nat.reduceEqDiff, Nat.reduceAdd, Nat.reduceMul, Nat.reduceSub, Nat.reduceLeDiff, Nat.reduceLT, Nat.reduceBEq, Int.reduceToNat, Int.reduceEq, Int.reduceLT, Int.reduceLE, Int.reduceAdd, Int.reduceSub, Int.reduceMul, Int.reduceNeg, s_smooth_Line, cellV, hw, hH, r_cell_Near]
  have nope : lineOk x y a b = false → Own cellF H .nils (lineP x y a b) := fun h => by rw [lineP, h]; exact Own.nil _
  cases h1 : nearC x y with
  | false =>
    simp (maxDischargeDepth := 8) only [go_sem, reduceIte, reduceCtorEq, Nat.reduceEqDiff, Nat.reduceAdd, Nat.reduceMul, Nat.reduceSub, Nat.reduceLeDiff, Nat.reduceLT, Nat.reduceBEq, Int.reduceToNat, Int.reduceEq, Int.reduceLT, Int.reduceLE, Int.reduceAdd, Int.reduceSub, Int.reduceMul, Int.reduceNeg, hw]
    rw [take_hl hH]
    exact ⟨.nils, H, rfl, nope (by simp [lineOk, h1]), by simp [slFp], Keep.refl _ _⟩
  | true =>
    simp (maxDischargeDepth := 8) only [go_sem, reduceIte, reduceCtorEq, Nat.reduceEqDiff, Nat.reduceAdd, Nat.reduceMul, Nat.reduceSub, Nat.reduceLeDiff, Nat.reduceLT, Nat.reduceBEq, Int.reduceToNat, Int.reduceEq, Int.reduceLT, Int.reduceLE, Int.reduceAdd, Int.reduceSub, Int.reduceMul, Int.reduceNeg, hw, r_cell_Near]
    cases h2 : nearC a b with
    | false =>
      simp (maxDischargeDepth := 8) only [go_sem, reduceIte, reduceCtorEq, Nat.reduceEqDiff, Nat.reduceAdd, Nat.reduceMul, Nat.reduceSub, Nat.reduceLeDiff, Nat.reduceLT, Nat.reduceBEq, Int.reduceToNat, Int.reduceEq, Int.reduceLT, Int.reduceLE, Int.reduceAdd, Int.reduceSub, Int.reduceMul, Int.reduceNeg, hw]
      rw [take_hl hH]
      exact ⟨.nils, H, rfl, nope (by simp [lineOk, h2]), by simp [slFp], Keep.refl _ _⟩
    | true =>
      have n1 := nearC_in h1
      have n2 := nearC_in h2
      have ea : apartJ x y a b = apt x y a b := by simp [apartJ, h1, h2, iB]
      simp (maxDischargeDepth := 8) only [go_sem, reduceIte, reduceCtorEq, Nat.reduceEqDiff, Nat.reduceAdd, Nat.reduceMul, Nat.reduceSub, Nat.reduceLeDiff, Nat.reduceLT, Nat.reduceBEq, Int.reduceToNat, Int.reduceEq, Int.reduceLT, Int.reduceLE, Int.reduceAdd, Int.reduceSub, Int.reduceMul, Int.reduceNeg, hw, r_cell_Apart, ea]
      by_cases h3 : apt x y a b > 16384
      · simp (maxDischargeDepth := 8) only [go_sem, reduceIte, reduceCtorEq, Nat.reduceEqDiff, Nat.reduceAdd, Nat.reduceMul, Nat.reduceSub, Nat.reduceLeDiff, Nat.reduceLT, Nat.reduceBEq, Int.reduceToNat, Int.reduceEq, Int.reduceLT, Int.reduceLE, Int.reduceAdd, Int.reduceSub, Int.reduceMul, Int.reduceNeg, hw, show decide (apt x y a b > 16384) = true from decide_eq_true h3]
        rw [take_hl hH]
        exact ⟨.nils, H, rfl, nope (by simp [lineOk]; omega), by simp [slFp], Keep.refl _ _⟩
      · have hok : lineOk x y a b = true := by simp [lineOk, h1, h2]; omega
        have hl : lineP x y a b = lineL (apt x y a b).toNat x y a b := by rw [lineP, hok]; rfl
        simp (maxDischargeDepth := 8) only [go_sem, reduceIte, reduceCtorEq, Nat.reduceEqDiff, Nat.reduceAdd, Nat.reduceMul, Nat.reduceSub, Nat.reduceLeDiff, Nat.reduceLT, Nat.reduceBEq, Int.reduceToNat, Int.reduceEq, Int.reduceLT, Int.reduceLE, Int.reduceAdd, Int.reduceSub, Int.reduceMul, Int.reduceNeg, hw, show decide (apt x y a b > 16384) = false from decide_eq_false h3]
        rw [KL_keep _ _ _ (by simp (maxDischargeDepth := 8) only [go_sem, reduceIte, reduceCtorEq, Nat.reduceEqDiff, Nat.reduceAdd, Nat.reduceMul, Nat.reduceSub, Nat.reduceLeDiff, Nat.reduceLT, Nat.reduceBEq, Int.reduceToNat, Int.reduceEq, Int.reduceLT, Int.reduceLE, Int.reduceAdd, Int.reduceSub, Int.reduceMul, Int.reduceNeg])]
        simp (maxDischargeDepth := 8) only [go_sem, reduceIte, reduceCtorEq, Nat.reduceEqDiff, Nat.reduceAdd, Nat.reduceMul, Nat.reduceSub, Nat.reduceLeDiff, Nat.reduceLT, Nat.reduceBEq, Int.reduceToNat, Int.reduceEq, Int.reduceLT, Int.reduceLE, Int.reduceAdd, Int.reduceSub, Int.reduceMul, Int.reduceNeg]
        refine KL_ind (R := fun z => ∃ v' H', fin [.t 4] X z = some (v', X.hp H') ∧ Own cellF H' v' (lineP x y a b) ∧ (∀ i ∈ slFp v', H.length ≤ i) ∧ Keep [] H H') (α := Int × Int × SV × Hp × List (Int × Int)) (fun q => (apt q.1 q.2.1 a b).toNat)
          (fun q => [(2, .ptr (.st X.dep 0) 0), (3, .ptr (.st X.dep 1) 0), (5, q.2.2.1)]) (fun q => (X.hp q.2.2.2.1).fr [.cells true [.int .i64 q.1, .int .i64 q.2.1], .cells true [.int .i64 a, .int .i64 b]] none)
          (fun q => (-1048576 ≤ q.1 ∧ q.1 ≤ 1048576) ∧ (-1048576 ≤ q.2.1 ∧ q.2.1 ≤ 1048576) ∧ q.2.2.2.2.length + (apt q.1 q.2.1 a b).toNat ≤ 16384 ∧ lineP x y a b = q.2.2.2.2 ++ lineL (apt q.1 q.2.1 a b).toNat q.1 q.2.1 a b ∧ Own cellF q.2.2.2.1 q.2.2.1 q.2.2.2.2 ∧ (∀ i ∈ slFp q.2.2.1, H.length ≤ i) ∧ Keep [] H q.2.2.2.1) ?_ (x, y, .nils, H, []) ⟨n1.1, n1.2, by dsimp only [List.length_nil]; omega, hl, Own.nil _, by simp [slFp], Keep.refl _ _⟩
        rintro ⟨cx, cy, v, Hk, l⟩ ⟨g1, g2, g3, g4, ow, fp, kk⟩ ih
        dsimp only at g1 g2 g3 g4 ow fp kk ⊢
        have s1 := ow.isSl cellF_even
        simp (maxDischargeDepth := 8) only [go_sem, reduceIte, reduceCtorEq, Nat.reduceEqDiff, Nat.reduceAdd, Nat.reduceMul, Nat.reduceSub, Nat.reduceLeDiff, Nat.reduceLT, Nat.reduceBEq, Int.reduceToNat, Int.reduceEq, Int.reduceLT, Int.reduceLE, Int.reduceAdd, Int.reduceSub, Int.reduceMul, Int.reduceNeg, hw, s1.l]
        by_cases he : cx = a ∧ cy = b
        · obtain ⟨rfl, rfl⟩ := he
          rw [apt_self] at g4
          have g4 : lineP x y cx cy = l := by rw [g4]; exact List.append_nil _
          simp (maxDischargeDepth := 8) only [go_sem, reduceIte, reduceCtorEq, Nat.reduceEqDiff, Nat.reduceAdd, Nat.reduceMul, Nat.reduceSub, Nat.reduceLeDiff, Nat.reduceLT, Nat.reduceBEq, Int.reduceToNat, Int.reduceEq, Int.reduceLT, Int.reduceLE, Int.reduceAdd, Int.reduceSub, Int.reduceMul, Int.reduceNeg, hw, s1.l]
          rw [g4]
          refine ⟨v, _, rfl, ow.congr fun i hi => fin_keep1 (.inr ?_), fp, ?_⟩
          · have := fp i hi
            rw [hx_fp hi]
            omega
          · rw [← hH] at kk ⊢
            exact kk.back1
        · have he' : (cx == a && cy == b) = false := by simpa using he
          have t1 := fun {X : Mem} (hw : X.Wf) => r_smooth_toward X hw cx a ⟨by omega, by omega⟩
          have t2 := fun {X : Mem} (hw : X.Wf) => r_smooth_toward X hw cy b ⟨by omega, by omega⟩
          simp (maxDischargeDepth := 8) only [go_sem, reduceIte, reduceCtorEq, Nat.reduceEqDiff, Nat.reduceAdd, Nat.reduceMul, Nat.reduceSub, Nat.reduceLeDiff, Nat.reduceLT, Nat.reduceBEq, Int.reduceToNat, Int.reduceEq, Int.reduceLT, Int.reduceLE, Int.reduceAdd, Int.reduceSub, Int.reduceMul, Int.reduceNeg, hw, he', t1, t2, s1.l]
          obtain ⟨v', H2, ha, o1, k2, f2, s2⟩ := app1 ow fp kk (by omega) X (by omega) (toJ cx a) (toJ cy b)
          simp (maxDischargeDepth := 8) only [go_sem, reduceIte, reduceCtorEq, Nat.reduceEqDiff, Nat.reduceAdd, Nat.reduceMul, Nat.reduceSub, Nat.reduceLeDiff, Nat.reduceLT, Nat.reduceBEq, Int.reduceToNat, Int.reduceEq, Int.reduceLT, Int.reduceLE, Int.reduceAdd, Int.reduceSub, Int.reduceMul, Int.reduceNeg, hw, ha, s1.l, s2.l]
          rw [KL_keep _ _ _ (by simp (maxDischargeDepth := 8) only [go_sem, reduceIte, reduceCtorEq, Nat.reduceEqDiff, Nat.reduceAdd, Nat.reduceMul, Nat.reduceSub, Nat.reduceLeDiff, Nat.reduceLT, Nat.reduceBEq, Int.reduceToNat, Int.reduceEq, Int.reduceLT, Int.reduceLE, Int.reduceAdd, Int.reduceSub, Int.reduceMul, Int.reduceNeg, s2.l])]
          simp (maxDischargeDepth := 8) only [go_sem, reduceIte, reduceCtorEq, Nat.reduceEqDiff, Nat.reduceAdd, Nat.reduceMul, Nat.reduceSub, Nat.reduceLeDiff, Nat.reduceLT, Nat.reduceBEq, Int.reduceToNat, Int.reduceEq, Int.reduceLT, Int.reduceLE, Int.reduceAdd, Int.reduceSub, Int.reduceMul, Int.reduceNeg]
          rw [line_step he] at g4
          have hpos : 0 < apt cx cy a b := by
            have h5 := apt_in cx cy a b
            rcases Int.lt_or_eq_of_le h5.1 with h6 | h6
            · exact h6
            · exact absurd (apt_zero h6.symm) he
          refine ih (toJ cx a, toJ cy b, v', H2, l ++ [(toJ cx a, toJ cy b)]) ⟨near_to g1 n2.1, near_to g2 n2.2, ?_, ?_, o1, f2, k2⟩ ?_
          · dsimp only; rw [apt_to he, List.length_append, List.length_singleton]; omega
          · dsimp only; rw [g4, List.append_assoc]; rfl
          · dsimp only; rw [apt_to he]; omega
theorem dirR_goes (x y a b : Int) : ∀ n, dirR x y a b n < 0 ∨ goes x y a b (dirR x y a b n) = true
  | 0 => .inl (show (-1 : Int) < 0 by decide)
  | n + 1 => by
    simp only [dirR]
    split
    · exact .inr ‹_›
    · exact dirR_goes x y a b n
theorem step_adj {W : Wd} {cl sz x y a b : Int} (h : W.steps cl sz x y (dirR x y a b 8) = true) :
    0 ≤ dirR x y a b 8 ∧ stepOk x y (dirR x y a b 8) = true ∧ x + turnX (dirR x y a b 8) = a ∧ y + turnY (dirR x y a b 8) = b ∧ W.stands cl sz x y = true ∧ W.stands cl sz a b = true := by
  rcases dirR_goes x y a b 8 with h1 | h1
  · rw [steps_neg W cl sz x y h1] at h; cases h
  · generalize dirR x y a b 8 = d at h h1
    simp only [goes, Bool.and_eq_true, decide_eq_true_eq] at h1
    obtain ⟨h2, rfl, rfl⟩ := h1
    have h3 := isDir_in (step_in h2).1
    simp only [Wd.steps, Bool.and_eq_true] at h
    exact ⟨h3.1, h2, rfl, rfl, h.1.1.2, h.1.2⟩
theorem stands_near {W : Wd} (w1 : 1 ≤ W.w ∧ W.w ≤ 128) (w2 : 1 ≤ W.h ∧ W.h ≤ 128) {cl sz x y : Int} (h : W.stands cl sz x y = true) : nearC x y = true := by
  have := has_in (stands_has h)
  simp only [nearC, nearP, Bool.and_eq_true, decide_eq_true_eq]
  omega
/-- The first so many steps. -/
theorem legal_at {W : Wd} {cl sz : Int} : ∀ (l : List (Int × Int)) (k : Nat) (x y a b : Int), W.legal cl sz x y l = true → l[k]? = some (a, b) → W.legal cl sz a b (l.drop (k + 1)) = true ∧ W.legal cl sz x y (l.take (k + 1)) = true
  | [], k, x, y, a, b, _, h2 => by simp at h2
  | c :: l, 0, x, y, a, b, h1, h2 => by
    simp only [List.getElem?_cons_zero, Option.some.injEq] at h2
    subst h2
    simp only [Wd.legal, Wd.legalGo, Bool.and_eq_true, List.drop_succ_cons, List.drop_zero, Nat.zero_add, List.take_succ_cons, List.take_zero] at h1 ⊢
    have := step_adj h1.2.1
    exact ⟨⟨this.2.2.2.2.2, h1.2.2⟩, ⟨h1.1, h1.2.1, trivial⟩⟩
  | c :: l, k + 1, x, y, a, b, h1, h2 => by
    simp only [List.getElem?_cons_succ] at h2
    simp only [Wd.legal, Wd.legalGo, Bool.and_eq_true] at h1
    have h3 := step_adj h1.2.1
    have h4 := legal_at l k c.1 c.2 a b (by simp only [Wd.legal, Bool.and_eq_true]; exact ⟨h3.2.2.2.2.2, h1.2.2⟩) h2
    simp only [Wd.legal, Wd.legalGo, Bool.and_eq_true, List.drop_succ_cons, List.take_succ_cons] at h4 ⊢
    exact ⟨h4.1, h1.1, h1.2.1, h4.2.2⟩
def endL (x y : Int) : List (Int × Int) → Int × Int
  | [] => (x, y)
  | c :: l => endL c.1 c.2 l
theorem legal_app {W : Wd} {cl sz : Int} : ∀ (l k : List (Int × Int)) (x y : Int), W.legalGo cl sz x y (l ++ k) = (W.legalGo cl sz x y l && W.legalGo cl sz (endL x y l).1 (endL x y l).2 k)
  | [], k, x, y => rfl
  | c :: l, k, x, y => by
    simp only [List.cons_append, Wd.legalGo, legal_app l k c.1 c.2, endL, Bool.and_assoc]
theorem end_app : ∀ (l k : List (Int × Int)) (x y : Int), endL x y (l ++ k) = endL (endL x y l).1 (endL x y l).2 k
  | [], k, x, y => rfl
  | c :: l, k, x, y => end_app l k c.1 c.2
/-- Distance and cost along a legal way. -/
theorem apt_step {x y d a b : Int} : apt x y a b ≤ 1 + apt (x + turnX d) (y + turnY d) a b := by
  have h := turn_lo d
  have h1 := absJ_in (x - a)
  have h2 := absJ_in (y - b)
  have h3 := absJ_in (x + turnX d - a)
  have h4 := absJ_in (y + turnY d - b)
  have h5 := mxI_eq (absJ (x - a)) (absJ (y - b))
  have h6 := mxI_eq (absJ (x + turnX d - a)) (absJ (y + turnY d - b))
  unfold apt
  omega
theorem oct_step {x y d a b : Int} (hd : isDir d = true) : octD (absJ (x - a)) (absJ (y - b)) ≤ costP d + octD (absJ (x + turnX d - a)) (absJ (y + turnY d - b)) := by
  have h1 := absJ_in (x - a)
  have h2 := absJ_in (y - b)
  have h3 := absJ_in (x + turnX d - a)
  have h4 := absJ_in (y + turnY d - b)
  have h5 := mxI_eq (absJ (x - a)) (absJ (y - b))
  have h6 := mxI_eq (absJ (x + turnX d - a)) (absJ (y + turnY d - b))
  have h7 := mnI_eq (absJ (x - a)) (absJ (y - b))
  have h8 := mnI_eq (absJ (x + turnX d - a)) (absJ (y + turnY d - b))
  have hs : (turnX d = 0 ∨ turnY d = 0) ∧ (-1 ≤ turnX d ∧ turnX d ≤ 1 ∧ -1 ≤ turnY d ∧ turnY d ≤ 1) ∧ costP d = 10 ∨ (-1 ≤ turnX d ∧ turnX d ≤ 1 ∧ -1 ≤ turnY d ∧ turnY d ≤ 1) ∧ costP d = 14 := by
    rcases dir8 hd with rfl | rfl | rfl | rfl | rfl | rfl | rfl | rfl <;> decide
  unfold octD
  omega
theorem legal_far {W : Wd} {cl sz : Int} : ∀ (l : List (Int × Int)) (x y : Int), W.legal cl sz x y l = true → apt x y (endL x y l).1 (endL x y l).2 ≤ l.length ∧ W.stands cl sz (endL x y l).1 (endL x y l).2 = true ∧
    ∀ n, n + octD (absJ (x - (endL x y l).1)) (absJ (y - (endL x y l).2)) ≤ costGo x y n l ∧ n ≤ costGo x y n l
  | [], x, y, h => by
    simp only [Wd.legal, Bool.and_eq_true] at h
    refine ⟨by simp [endL, apt_self], h.1, fun n => ?_⟩
    simp [endL, costGo, octD, absJ, mxI, mnI]
  | c :: l, x, y, h => by
    simp only [Wd.legal, Wd.legalGo, Bool.and_eq_true] at h
    have h3 := step_adj h.2.1
    obtain ⟨i1, i2, i3⟩ := legal_far l c.1 c.2 (by simp only [Wd.legal, Bool.and_eq_true]; exact ⟨h3.2.2.2.2.2, h.2.2⟩)
    have h4 := @apt_step x y (dirR x y c.1 c.2 8) (endL c.1 c.2 l).1 (endL c.1 c.2 l).2
    have h5 := @oct_step x y (dirR x y c.1 c.2 8) (endL c.1 c.2 l).1 (endL c.1 c.2 l).2 (step_in h3.2.1).1
    rw [h3.2.2.1, h3.2.2.2.1] at h4 h5
    simp only [endL, List.length_cons, Int.natCast_succ]
    refine ⟨by omega, i2, fun n => ?_⟩
    simp only [costGo]
    rw [if_neg (by omega)]
    have := i3 (n + costP (dirR x y c.1 c.2 8))
    have := cost_in (dirR x y c.1 c.2 8)
    omega
theorem cost_add {W : Wd} {cl sz : Int} : ∀ (l k : List (Int × Int)) (x y n : Int), W.legalGo cl sz x y l = true → costGo x y n (l ++ k) = costGo (endL x y l).1 (endL x y l).2 (costGo x y n l) k
  | [], k, x, y, n, _ => rfl
  | c :: l, k, x, y, n, h => by
    simp only [Wd.legalGo, Bool.and_eq_true] at h
    have h3 := step_adj h.1
    simp only [List.cons_append, costGo, endL]
    rw [if_neg (by omega), if_neg (by omega)]
    exact cost_add l k c.1 c.2 _ h.2
theorem cost_mono {W : Wd} {cl sz : Int} : ∀ (l : List (Int × Int)) (x y n n' : Int), W.legalGo cl sz x y l = true → n ≤ n' → costGo x y n l ≤ costGo x y n' l
  | [], x, y, n, n', _, hn => hn
  | c :: l, x, y, n, n', h, hn => by
    simp only [Wd.legalGo, Bool.and_eq_true] at h
    have h3 := step_adj h.1
    simp only [costGo]
    rw [if_neg (by omega), if_neg (by omega)]
    exact cost_mono l c.1 c.2 _ _ h.2 (by omega)
/-- The line's step. -/
theorem line_dir {x y a b : Int} (h : ¬ (x = a ∧ y = b)) : ∃ d, isDir d = true ∧ turnX d = sgJ x a ∧ turnY d = sgJ y b ∧ costP d + octD (absJ (toJ x a - a)) (absJ (toJ y b - b)) = octD (absJ (x - a)) (absJ (y - b)) := by
  have key : ∀ p q : Int, 0 ≤ p → 0 ≤ q → (¬ p = 0 → ¬ q = 0 → 14 + octD (p - 1) (q - 1) = octD p q) ∧ (¬ p = 0 → 10 + octD (p - 1) 0 = octD p 0) ∧ (¬ q = 0 → 10 + octD 0 (q - 1) = octD 0 q) := by
    intro p q hp hq
    have h5 := mxI_eq p q
    have h6 := mnI_eq p q
    have h7 := mxI_eq (p - 1) (q - 1)
    have h8 := mnI_eq (p - 1) (q - 1)
    have a1 := mxI_eq p 0
    have a2 := mnI_eq p 0
    have a3 := mxI_eq (p - 1) 0
    have a4 := mnI_eq (p - 1) 0
    have b1 := mxI_eq 0 q
    have b2 := mnI_eq 0 q
    have b3 := mxI_eq 0 (q - 1)
    have b4 := mnI_eq 0 (q - 1)
    unfold octD
    refine ⟨?_, ?_, ?_⟩ <;> omega
  have h1 := absJ_in (x - a)
  have h2 := absJ_in (y - b)
  obtain ⟨k1, k2, k3⟩ := key _ _ h1.1 h2.1
  have z : ∀ n : Int, absJ (n - n) = 0 := fun n => by simp [absJ]
  rw [abs_to, abs_to]
  rcases Int.lt_trichotomy x a with p1 | rfl | p1 <;> rcases Int.lt_trichotomy y b with p2 | rfl | p2
  · refine ⟨4, rfl, by simp [sgJ, p1, turnX], by simp [sgJ, p2, turnY], ?_⟩
    rw [if_neg (by omega), if_neg (by omega)]; exact k1 (by omega) (by omega)
  · refine ⟨0, rfl, by simp [sgJ, p1, turnX], by simp [sgJ, turnY], ?_⟩
    rw [if_neg (by omega), if_pos rfl, z]; exact k2 (by omega)
  · refine ⟨7, rfl, by simp [sgJ, p1, turnX], by simp [sgJ, p2, turnY]; omega, ?_⟩
    rw [if_neg (by omega), if_neg (by omega)]; exact k1 (by omega) (by omega)
  · refine ⟨1, rfl, by simp [sgJ, turnX], by simp [sgJ, p2, turnY], ?_⟩
    rw [if_neg (show ¬ y = b by omega), if_pos rfl, z]; exact k3 (by omega)
  · exact absurd ⟨rfl, rfl⟩ h
  · refine ⟨3, rfl, by simp [sgJ, turnX], by simp [sgJ, p2, turnY]; omega, ?_⟩
    rw [if_neg (show ¬ y = b by omega), if_pos rfl, z]; exact k3 (by omega)
  · refine ⟨5, rfl, by simp [sgJ, p1, turnX]; omega, by simp [sgJ, p2, turnY], ?_⟩
    rw [if_neg (by omega), if_neg (by omega)]; exact k1 (by omega) (by omega)
  · refine ⟨2, rfl, by simp [sgJ, p1, turnX]; omega, by simp [sgJ, turnY], ?_⟩
    rw [if_neg (by omega), if_pos rfl, z]; exact k2 (by omega)
  · refine ⟨6, rfl, by simp [sgJ, p1, turnX]; omega, by simp [sgJ, p2, turnY]; omega, ?_⟩
    rw [if_neg (by omega), if_neg (by omega)]; exact k1 (by omega) (by omega)
theorem line_cost : ∀ (n : Nat) (x y a b c : Int), nearC x y = true → nearC a b = true → (apt x y a b).toNat = n → endL x y (lineL n x y a b) = (a, b) ∧ costGo x y c (lineL n x y a b) = c + octD (absJ (x - a)) (absJ (y - b))
  | 0, x, y, a, b, c, h1, h2, hn => by
    have h3 := apt_in x y a b
    obtain ⟨rfl, rfl⟩ := apt_zero (show apt x y a b = 0 by omega)
    exact ⟨rfl, by simp [lineL, costGo, octD, absJ, mxI, mnI]⟩
  | n + 1, x, y, a, b, c, h1, h2, hn => by
    have he : ¬ (x = a ∧ y = b) := by
      rintro ⟨rfl, rfl⟩
      rw [apt_self] at hn
      cases hn
    obtain ⟨d, hd, d1, d2, d3⟩ := line_dir he
    have n1 := nearC_in h1
    have n2 := nearC_in h2
    have h1' : nearC (toJ x a) (toJ y b) = true := by
      have e1 := near_to n1.1 n2.1
      have e2 := near_to n1.2 n2.2
      simp only [nearC, nearP, Bool.and_eq_true, decide_eq_true_eq]
      exact ⟨e1, e2⟩
    have hs : stepOk x y d = true := by
      simp only [stepOk, hd, h1, Bool.true_and, d1, d2]
      exact h1'
    have hdir := dirR_step hs
    rw [d1, d2] at hdir
    change dirR x y (toJ x a) (toJ y b) 8 = d at hdir
    have h0 := isDir_in hd
    obtain ⟨i1, i2⟩ := line_cost n (toJ x a) (toJ y b) a b (c + costP d) h1' h2 (by rw [apt_to he]; omega)
    simp only [lineL, endL, costGo]
    refine ⟨i1, ?_⟩
    rw [hdir, if_neg (by omega), i2]
    omega
theorem lineP_law {x y a b : Int} (h : lineOk x y a b = true) : (lineP x y a b).length = (apt x y a b).toNat ∧ endL x y (lineP x y a b) = (a, b) ∧ ∀ c, costGo x y c (lineP x y a b) = c + octD (absJ (x - a)) (absJ (y - b)) := by
  have h' := h
  simp only [lineOk, Bool.and_eq_true, decide_eq_true_eq] at h'
  rw [lineP, h]
  exact ⟨lineL_len _ _ _ _ _, (line_cost _ x y a b 0 h'.1.1 h'.1.2 rfl).1, fun c => (line_cost _ x y a b c h'.1.1 h'.1.2 rfl).2⟩
/-- The farthest cell that a line leads to. -/
def Wd.best (W : Wd) (cl sz x y : Int) (l : List (Int × Int)) : Nat → Nat
  | 0 => 0
  | n + 1 => match l[n]? with
    | some c => if W.legal cl sz x y (lineP x y c.1 c.2) then n + 1 else W.best cl sz x y l n
    | none => W.best cl sz x y l n
def Wd.smGo (W : Wd) (cl sz : Int) : Nat → Int → Int → List (Int × Int) → List (Int × Int)
  | 0, _, _, _ => []
  | f + 1, x, y, l => match W.best cl sz x y l (min 32 l.length) with
    | 0 => []
    | k + 1 => match l[k]? with
      | some c => lineP x y c.1 c.2 ++ W.smGo cl sz f c.1 c.2 (l.drop (k + 1))
      | none => []
theorem smGo_nil (W : Wd) (cl sz : Int) (f : Nat) (x y : Int) : W.smGo cl sz f x y [] = [] := by
  cases f <;> rfl
theorem smGo_fuel (W : Wd) (cl sz : Int) : ∀ (f f' : Nat) (x y : Int) (l : List (Int × Int)), l.length ≤ f → l.length ≤ f' → W.smGo cl sz f x y l = W.smGo cl sz f' x y l
  | 0, f', x, y, l, h, _ => by
    have : l = [] := List.eq_nil_of_length_eq_zero (by omega)
    subst this
    rw [smGo_nil, smGo_nil]
  | f + 1, 0, x, y, l, _, h => by
    have : l = [] := List.eq_nil_of_length_eq_zero (by omega)
    subst this
    rw [smGo_nil, smGo_nil]
  | f + 1, f' + 1, x, y, l, h, h' => by
    simp only [Wd.smGo]
    cases W.best cl sz x y l (min 32 l.length) with
    | zero => rfl
    | succ k =>
      dsimp only
      cases hk : l[k]? with
      | none => rfl
      | some c =>
        dsimp only
        rw [smGo_fuel W cl sz f f' c.1 c.2 (l.drop (k + 1)) (by rw [List.length_drop]; omega) (by rw [List.length_drop]; omega)]
theorem best_in {W : Wd} {cl sz x y : Int} {l : List (Int × Int)} (hl : W.legal cl sz x y l = true) (w1 : 1 ≤ W.w ∧ W.w ≤ 128) (w2 : 1 ≤ W.h ∧ W.h ≤ 128) : ∀ n, 0 < n → n ≤ l.length → ∃ k c, W.best cl sz x y l n = k + 1 ∧ k < n ∧ l[k]? = some c ∧ W.legal cl sz x y (lineP x y c.1 c.2) = true
  | 0, h, _ => absurd h (Nat.lt_irrefl 0)
  | n + 1, _, hn => by
    simp only [Wd.best]
    have hel : l[n]? = some l[n] := List.getElem?_eq_getElem (by omega)
    generalize l[n] = c at hel
    rw [hel]
    dsimp only
    cases hc : W.legal cl sz x y (lineP x y c.1 c.2) with
    | true => exact ⟨n, c, by simp, by omega, hel, hc⟩
    | false =>
      simp only [Bool.false_eq_true, if_false]
      by_cases h0 : n = 0
      · subst h0
        exfalso
        cases l with
        | nil => simp at hel
        | cons c' l =>
          simp only [List.getElem?_cons_zero, Option.some.injEq] at hel
          subst hel
          simp only [Wd.legal, Wd.legalGo, Bool.and_eq_true] at hl
          have h3 := step_adj hl.2.1
          have e1 := h3.2.2.1
          have e2 := h3.2.2.2.1
          have hlt := turn_lo (dirR x y c'.1 c'.2 8)
          have hz : ¬ (turnX (dirR x y c'.1 c'.2 8) = 0 ∧ turnY (dirR x y c'.1 c'.2 8) = 0) := fun hz => by
            have := (isDir_turn (dirR x y c'.1 c'.2 8)).2 hz
            rw [(step_in h3.2.1).1] at this
            cases this
          have p1 : toJ x c'.1 = c'.1 := by unfold toJ sgJ; split <;> (try split) <;> omega
          have p2 : toJ y c'.2 = c'.2 := by unfold toJ sgJ; split <;> (try split) <;> omega
          have he : ¬ (x = c'.1 ∧ y = c'.2) := by rintro ⟨q1, q2⟩; exact hz ⟨by omega, by omega⟩
          have ha : apt x y c'.1 c'.2 = 1 := by
            have := apt_to he
            rw [p1, p2, apt_self] at this
            omega
          have hok : lineOk x y c'.1 c'.2 = true := by
            simp only [lineOk, stands_near w1 w2 h3.2.2.2.2.1, stands_near w1 w2 h3.2.2.2.2.2, ha]
            rfl
          have : lineP x y c'.1 c'.2 = [(c'.1, c'.2)] := by
            rw [lineP, hok, ha]
            show lineL 1 x y c'.1 c'.2 = _
            simp only [lineL, p1, p2]
          rw [this] at hc
          simp only [Wd.legal, Wd.legalGo, hl.1, hl.2.1] at hc
          cases hc
      · obtain ⟨k, c', i1, i2, i3⟩ := best_in hl w1 w2 n (by omega) (by omega)
        exact ⟨k, c', i1, by omega, i3⟩
theorem smGo_len {W : Wd} (w1 : 1 ≤ W.w ∧ W.w ≤ 128) (w2 : 1 ≤ W.h ∧ W.h ≤ 128) {cl sz x y a b : Int} {l : List (Int × Int)} {k : Nat} (hl : W.legal cl sz x y l = true) (hk : l[k]? = some (a, b)) : lineOk x y a b = true ∨ 16384 < l.length := by
  rcases Nat.lt_or_ge 16384 l.length with h | hlen
  · exact .inr h
  refine .inl ?_
  have h1 := legal_at l k x y a b hl hk
  have h2 := legal_far _ _ _ h1.2
  have h3 : endL x y (l.take (k + 1)) = (a, b) := by
    rw [List.take_add_one, hk, end_app]
    rfl
  rw [h3] at h2
  simp only [Wd.legal, Bool.and_eq_true] at hl
  simp only [lineOk, stands_near w1 w2 hl.1, stands_near w1 w2 h2.2.1, Bool.true_and, decide_eq_true_eq]
  have h4 := h2.1
  dsimp only at h4
  rw [List.length_take] at h4
  omega
theorem line_le {W : Wd} (w1 : 1 ≤ W.w ∧ W.w ≤ 128) (w2 : 1 ≤ W.h ∧ W.h ≤ 128) {cl sz x y a b : Int} {l : List (Int × Int)} {k : Nat} (hl : W.legal cl sz x y l = true) (hlen : l.length ≤ 16384) (hk : l[k]? = some (a, b)) : (lineP x y a b).length ≤ k + 1 := by
  have hok : lineOk x y a b = true := by
    rcases smGo_len w1 w2 hl hk with h | h
    · exact h
    · omega
  rw [(lineP_law hok).1]
  have h1 := legal_at l k x y a b hl hk
  have h2 := legal_far _ _ _ h1.2
  have h3 : endL x y (l.take (k + 1)) = (a, b) := by
    rw [List.take_add_one, hk, end_app]
    rfl
  rw [h3] at h2
  have h4 := h2.1
  dsimp only at h4
  rw [List.length_take] at h4
  omega
def Wd.smOk (W : Wd) (cl sz x y : Int) (l : List (Int × Int)) : Bool := decide (l.length ≤ 16384) && W.legal cl sz x y l
theorem best_cut (W : Wd) (cl sz x y : Int) (l : List (Int × Int)) (n : Nat) : W.best cl sz x y l (n + 1) = match l[n]? with
    | some c => if W.legal cl sz x y (lineP x y c.1 c.2) then n + 1 else W.best cl sz x y l n
    | none => W.best cl sz x y l n := rfl
theorem smGo_cons {W : Wd} {cl sz x y : Int} {l : List (Int × Int)} {k : Nat} {c : Int × Int} (hk : W.best cl sz x y l (min 32 l.length) = k + 1) (hc : l[k]? = some c) : W.smGo cl sz l.length x y l = lineP x y c.1 c.2 ++ W.smGo cl sz (l.drop (k + 1)).length c.1 c.2 (l.drop (k + 1)) := by
  have hlt : k < l.length := by
    rcases Nat.lt_or_ge k l.length with h | h
    · exact h
    · rw [List.getElem?_eq_none h] at hc; cases hc
  obtain ⟨f, hf⟩ : ∃ f, l.length = f + 1 := ⟨l.length - 1, by omega⟩
  rw [smGo_fuel W cl sz l.length (f + 1) x y l (Nat.le_refl _) (by omega)]
  simp only [Wd.smGo, hk, hc]
  rw [smGo_fuel W cl sz f (l.drop (k + 1)).length c.1 c.2 _ (by rw [List.length_drop]; omega) (Nat.le_refl _)]
theorem r_smooth_Smooth_no {X : Mem} {p : WP} {W : Wd} (hO : WorldAt (Hm X.heap) p W) (hg : W.Good) {v : SV} {l : List (Int × Int)} (hl : LiesD cellF (Hm X.heap) v l) (hw : X.Wf) (cl sz x y : Int) (hn : W.smOk cl sz x y l = false) : ∃ H', RF tb f_smooth_Smooth [.ptr (.hp p.k 0) 0, .agg [.int .i64 cl, .int .i64 sz], cellV x y, v] X = some (.tup [.nils, .int .i64 1], X.hp H') ∧ Keep [] X.heap H' := by
  rw [RF_go t_smooth_Smooth _ _ rfl, push_hp]
  generalize hH : X.heap = H at *
  simp (maxDischargeDepth := 8) only [go_sem, reduceIte, reduceCtorEq, Nat.reduceEqDiff, Nat.reduceAdd, Nat.reduceMul, Nat.reduceSub, Nat.reduceLeDiff, Nat.reduceLT, Nat.reduceBEq, Int.reduceToNat, Int.reduceEq, Int.reduceLT, Int.reduceLE, Int.reduceAdd, Int.reduceSub, Int.reduceMul, Int.reduceNeg, s_smooth_Smooth, cellV, hw, hH, hl.len, hl.lv]
  by_cases h1 : (l.length : Int) > 16384
  · simp (maxDischargeDepth := 8) only [go_sem, reduceIte, reduceCtorEq, Nat.reduceEqDiff, Nat.reduceAdd, Nat.reduceMul, Nat.reduceSub, Nat.reduceLeDiff, Nat.reduceLT, Nat.reduceBEq, Int.reduceToNat, Int.reduceEq, Int.reduceLT, Int.reduceLE, Int.reduceAdd, Int.reduceSub, Int.reduceMul, Int.reduceNeg, show decide ((l.length : Int) > 16384) = true from decide_eq_true h1, hw, hl.lv]
    rw [take_hl hH]
    exact ⟨H, rfl, Keep.refl _ _⟩
  · have h2 : W.legal cl sz x y l = false := by
      simp only [Wd.smOk, show decide (l.length ≤ 16384) = true from decide_eq_true (by omega), Bool.true_and] at hn
      exact hn
    simp (maxDischargeDepth := 8) only [go_sem, reduceIte, reduceCtorEq, Nat.reduceEqDiff, Nat.reduceAdd, Nat.reduceMul, Nat.reduceSub, Nat.reduceLeDiff, Nat.reduceLT, Nat.reduceBEq, Int.reduceToNat, Int.reduceEq, Int.reduceLT, Int.reduceLE, Int.reduceAdd, Int.reduceSub, Int.reduceMul, Int.reduceNeg, show decide ((l.length : Int) > 16384) = false from decide_eq_false h1, hw, hl.lv, r_class_Legal hO hg hl (by simp only [two48]; omega), h2]
    rw [take_hl hH]
    exact ⟨H, rfl, Keep.refl _ _⟩
theorem line_of {X : Mem} {x y a b : Int} {z : Option (SV × Mem)} (hz : RF tb f_smooth_Line [cellV x y, cellV a b] X = z) (hw : X.Wf) (hhb : X.hb ≤ X.hl) : ∃ v' H', z = some (v', X.hp H') ∧ Own cellF H' v' (lineP x y a b) ∧ (∀ i ∈ slFp v', X.heap.length ≤ i) ∧ Keep [] X.heap H' := by
  rw [← hz]
  exact r_smooth_Line hw hhb x y a b
theorem r_smooth_Smooth {X : Mem} {p : WP} {W : Wd} (hO : WorldOwn X.heap p W) (hg : W.Good) {v : SV} {l : List (Int × Int)} (hl : LiesD cellF (Hm X.heap) v l) (hw : X.Wf) (hhb : X.hb ≤ X.hl) (cl sz x y : Int) (hn : W.smOk cl sz x y l = true) :
    ∃ v' H', RF tb f_smooth_Smooth [.ptr (.hp p.k 0) 0, .agg [.int .i64 cl, .int .i64 sz], cellV x y, v] X = some (.tup [v', .int .i64 0], X.hp H') ∧ Own cellF H' v' (W.smGo cl sz l.length x y l) ∧ (∀ i ∈ slFp v', X.heap.length ≤ i) ∧ Keep [] X.heap H' := by
  rw [RF_go t_smooth_Smooth _ _ rfl, push_hp]
  generalize hH : X.heap = H at *
  have hHl : X.hl = H.length := by rw [← hH]; rfl
  have w1 := hO.at_.w1
  have w2 := hO.at_.h1
  simp only [Wd.smOk, Bool.and_eq_true, decide_eq_true_eq] at hn
  simp (maxDischargeDepth := 8) only [go_sem, reduceIte, reduceCtorEq, Nat.reduceEqDiff, Nat.reduceAdd, Nat.reduceMul, Nat.reduceSub, Nat.reduceLeDiff, Nat.reduceLT, Nat.reduceBEq, Int.reduceToNat, Int.reduceEq, Int.reduceLT, Int.reduceLE, Int.reduceAdd, Int.reduceSub, Int.reduceMul, Int.reduceNeg, s_smooth_Smooth, cellV, hw, hH, hl.len, hl.lv, show decide ((l.length : Int) > 16384) = false from decide_eq_false (by omega), r_class_Legal hO.at_ hg hl (by simp only [two48]; omega), hn.2]
  rw [KL_keep _ _ _ (by simp (maxDischargeDepth := 8) only [go_sem, reduceIte, reduceCtorEq, Nat.reduceEqDiff, Nat.reduceAdd, Nat.reduceMul, Nat.reduceSub, Nat.reduceLeDiff, Nat.reduceLT, Nat.reduceBEq, Int.reduceToNat, Int.reduceEq, Int.reduceLT, Int.reduceLE, Int.reduceAdd, Int.reduceSub, Int.reduceMul, Int.reduceNeg, hl.lv])]
  simp (maxDischargeDepth := 8) only [go_sem, reduceIte, reduceCtorEq, Nat.reduceEqDiff, Nat.reduceAdd, Nat.reduceMul, Nat.reduceSub, Nat.reduceLeDiff, Nat.reduceLT, Nat.reduceBEq, Int.reduceToNat, Int.reduceEq, Int.reduceLT, Int.reduceLE, Int.reduceAdd, Int.reduceSub, Int.reduceMul, Int.reduceNeg]
  refine KL_ind (R := fun z => ∃ v' H', fin [.t 8, .t 9] X z = some (.tup [v', .int .i64 0], X.hp H') ∧ Own cellF H' v' (W.smGo cl sz l.length x y l) ∧ (∀ i ∈ slFp v', H.length ≤ i) ∧ Keep [] H H') (α := Int × Int × SV × List (Int × Int) × SV × List (Int × Int) × Hp) (fun q => q.2.2.2.1.length)
    (fun q => [(0, .ptr (.hp p.k 0) 0), (3, q.2.2.1), (5, .ptr (.st X.dep 0) 0), (6, .ptr (.st X.dep 1) 0), (10, q.2.2.2.2.1)])
    (fun q => (X.hp q.2.2.2.2.2.2).fr [.cells true [.int .i64 cl, .int .i64 sz], .cells true [.int .i64 q.1, .int .i64 q.2.1]] none)
    (fun q => W.legal cl sz q.1 q.2.1 q.2.2.2.1 = true ∧ q.2.2.2.2.2.1.length + q.2.2.2.1.length ≤ 16384 ∧ LiesD cellF (Hm H) q.2.2.1 q.2.2.2.1 ∧ W.smGo cl sz l.length x y l = q.2.2.2.2.2.1 ++ W.smGo cl sz q.2.2.2.1.length q.1 q.2.1 q.2.2.2.1 ∧ Own cellF q.2.2.2.2.2.2 q.2.2.2.2.1 q.2.2.2.2.2.1 ∧ (∀ i ∈ slFp q.2.2.2.2.1, H.length ≤ i) ∧ Keep [] H q.2.2.2.2.2.2) ?_ (x, y, v, l, .nils, [], H) ⟨hn.2, by simp; exact hn.1, hl, rfl, Own.nil _, by simp [slFp], Keep.refl _ _⟩
  rintro ⟨cx, cy, pv, l1, ov, o, Hk⟩ ⟨g1, g2, g3, g4, ow, fp, kk⟩ ih
  dsimp only at g1 g2 g3 g4 ow fp kk ⊢
  have s1 := ow.isSl cellF_even
  simp (maxDischargeDepth := 8) only [go_sem, reduceIte, reduceCtorEq, Nat.reduceEqDiff, Nat.reduceAdd, Nat.reduceMul, Nat.reduceSub, Nat.reduceLeDiff, Nat.reduceLT, Nat.reduceBEq, Int.reduceToNat, Int.reduceEq, Int.reduceLT, Int.reduceLE, Int.reduceAdd, Int.reduceSub, Int.reduceMul, Int.reduceNeg, hw, s1.l, g3.lv, g3.len]
  by_cases hpos : 0 < l1.length
  · simp (maxDischargeDepth := 8) only [go_sem, reduceIte, reduceCtorEq, Nat.reduceEqDiff, Nat.reduceAdd, Nat.reduceMul, Nat.reduceSub, Nat.reduceLeDiff, Nat.reduceLT, Nat.reduceBEq, Int.reduceToNat, Int.reduceEq, Int.reduceLT, Int.reduceLE, Int.reduceAdd, Int.reduceSub, Int.reduceMul, Int.reduceNeg, show decide ((l1.length : Int) > 0) = true from decide_eq_true (by omega), hw, s1.l, g3.lv, g3.len]
    have hmn : mnI 32 (l1.length : Int) = ((min 32 l1.length : Nat) : Int) := by unfold mnI; split <;> omega
    rw [hmn]
    obtain ⟨k, c, hk, b2, b3, b4⟩ := best_in g1 w1 w2 (min 32 l1.length) (by omega) (by omega)
    obtain ⟨c1, c2⟩ := c
    have hgo := smGo_cons hk b3
    have hle := line_le w1 w2 g1 (by omega) b3
    dsimp only at hgo hle b4
    rw [KL_keep _ _ _ (by simp (maxDischargeDepth := 8) only [go_sem, reduceIte, reduceCtorEq, Nat.reduceEqDiff, Nat.reduceAdd, Nat.reduceMul, Nat.reduceSub, Nat.reduceLeDiff, Nat.reduceLT, Nat.reduceBEq, Int.reduceToNat, Int.reduceEq, Int.reduceLT, Int.reduceLE, Int.reduceAdd, Int.reduceSub, Int.reduceMul, Int.reduceNeg, s1.l, g3.lv])]
    simp (maxDischargeDepth := 8) only [go_sem, reduceIte, reduceCtorEq, Nat.reduceEqDiff, Nat.reduceAdd, Nat.reduceMul, Nat.reduceSub, Nat.reduceLeDiff, Nat.reduceLT, Nat.reduceBEq, Int.reduceToNat, Int.reduceEq, Int.reduceLT, Int.reduceLE, Int.reduceAdd, Int.reduceSub, Int.reduceMul, Int.reduceNeg]
    refine KL_ind (R := fun z => ∃ v' H', fin [.t 8, .t 9] X z = some (.tup [v', .int .i64 0], X.hp H') ∧ Own cellF H' v' (W.smGo cl sz l.length x y l) ∧ (∀ i ∈ slFp v', H.length ≤ i) ∧ Keep [] H H') (α := Nat × Hp) (fun q => q.1)
      (fun q => [(0, .ptr (.hp p.k 0) 0), (3, pv), (5, .ptr (.st X.dep 0) 0), (6, .ptr (.st X.dep 1) 0), (10, ov), (11, .int .i64 (q.1 : Int))])
      (fun q => (X.hp q.2).fr [.cells true [.int .i64 cl, .int .i64 sz], .cells true [.int .i64 cx, .int .i64 cy]] none)
      (fun q => q.1 ≤ l1.length ∧ W.best cl sz cx cy l1 q.1 = k + 1 ∧ Own cellF q.2 ov o ∧ Keep [] H q.2) ?_ (min 32 l1.length, Hk) ⟨by dsimp only; omega, hk, ow, kk⟩
    clear ow kk
    rintro ⟨j, Hk⟩ ⟨hj, hbj, ow, kk⟩ ih'
    dsimp only at hj hbj ow kk ⊢
    have hj0 : 0 < j := by
      rcases Nat.eq_zero_or_pos j with rfl | h
      · cases hbj
      · exact h
    obtain ⟨j, rfl⟩ : ∃ i, j = i + 1 := ⟨j - 1, by omega⟩
    have hel : l1[j]? = some l1[j] := List.getElem?_eq_getElem (by omega)
    generalize l1[j] = e at hel
    obtain ⟨a, b⟩ := e
    have hj1 : IntKind.wrap .i64 (((j + 1 : Nat) : Int) - 1) = (j : Int) := by rw [wrap_small (by omega) (by omega)]; omega
    have g3' := g3.keep kk (by simp)
    simp (maxDischargeDepth := 8) only [go_sem, reduceIte, reduceCtorEq, Nat.reduceEqDiff, Nat.reduceAdd, Nat.reduceMul, Nat.reduceSub, Nat.reduceLeDiff, Nat.reduceLT, Nat.reduceBEq, Int.reduceToNat, Int.reduceEq, Int.reduceLT, Int.reduceLE, Int.reduceAdd, Int.reduceSub, Int.reduceMul, Int.reduceNeg, hw, s1.l, g3.lv, g3.len, show decide (((j + 1 : Nat) : Int) > 0) = true from decide_eq_true (by omega), hj1, g3'.iaddrC (show j < l1.length by omega), g3'.loadC hel]
    generalize hz : RF tb f_smooth_Line _ _ = z
    obtain ⟨lv, H2, rfl, lo, lf, lk⟩ := line_of hz (by simp (maxDischargeDepth := 8) only [go_sem, reduceIte, reduceCtorEq, Nat.reduceEqDiff, Nat.reduceAdd, Nat.reduceMul, Nat.reduceSub, Nat.reduceLeDiff, Nat.reduceLT, Nat.reduceBEq, Int.reduceToNat, Int.reduceEq, Int.reduceLT, Int.reduceLE, Int.reduceAdd, Int.reduceSub, Int.reduceMul, Int.reduceNeg, hw]) (by show X.hb ≤ Hk.length; have := kk.1; omega)
    have kH2 : Keep [] H H2 := kk.trans lk
    have s2 := lo.isSl cellF_even
    have hlen : (lineP cx cy a b).length ≤ two48 := by
      have := line_le w1 w2 g1 (by omega) hel
      simp only [two48]
      omega
    rw [best_cut, hel] at hbj
    dsimp only at hbj
    simp (maxDischargeDepth := 8) only [go_sem, reduceIte, reduceCtorEq, Nat.reduceEqDiff, Nat.reduceAdd, Nat.reduceMul, Nat.reduceSub, Nat.reduceLeDiff, Nat.reduceLT, Nat.reduceBEq, Int.reduceToNat, Int.reduceEq, Int.reduceLT, Int.reduceLE, Int.reduceAdd, Int.reduceSub, Int.reduceMul, Int.reduceNeg, hw, s1.l, s2.l, g3.lv, r_class_Legal (hO.keep kH2 (by simp)).at_ hg (lo.lies cellF_even) hlen]
    cases hlg : W.legal cl sz cx cy (lineP cx cy a b) with
    | false =>
      rw [hlg] at hbj
      simp (maxDischargeDepth := 8) only [go_sem, reduceIte, reduceCtorEq, Nat.reduceEqDiff, Nat.reduceAdd, Nat.reduceMul, Nat.reduceSub, Nat.reduceLeDiff, Nat.reduceLT, Nat.reduceBEq, Int.reduceToNat, Int.reduceEq, Int.reduceLT, Int.reduceLE, Int.reduceAdd, Int.reduceSub, Int.reduceMul, Int.reduceNeg, hw, s1.l, s2.l, g3.lv, hj1]
      rw [KL_keep _ _ _ (by simp (maxDischargeDepth := 8) only [go_sem, reduceIte, reduceCtorEq, Nat.reduceEqDiff, Nat.reduceAdd, Nat.reduceMul, Nat.reduceSub, Nat.reduceLeDiff, Nat.reduceLT, Nat.reduceBEq, Int.reduceToNat, Int.reduceEq, Int.reduceLT, Int.reduceLE, Int.reduceAdd, Int.reduceSub, Int.reduceMul, Int.reduceNeg, s1.l, g3.lv])]
      simp (maxDischargeDepth := 8) only [go_sem, reduceIte, reduceCtorEq, Nat.reduceEqDiff, Nat.reduceAdd, Nat.reduceMul, Nat.reduceSub, Nat.reduceLeDiff, Nat.reduceLT, Nat.reduceBEq, Int.reduceToNat, Int.reduceEq, Int.reduceLT, Int.reduceLE, Int.reduceAdd, Int.reduceSub, Int.reduceMul, Int.reduceNeg]
      exact ih' (j, H2) ⟨by dsimp only; omega, hbj, ow.keep lk (by simp), kH2⟩ (by dsimp only; omega)
    | true =>
      rw [hlg, if_pos rfl] at hbj
      obtain rfl : j = k := by omega
      rw [b3] at hel
      cases hel
      obtain ⟨v', H3, ha, o1, k3, f3, s3⟩ := appL (ow.keep lk (by simp)) fp kH2 (lo.lies cellF_even) (by omega) X (by omega)
      have g5 := g3.keep k3 (by simp)
      have hds : sliceV 2 pv (some ((j + 1 : Nat) : Int)) none none = some (dropV 2 (j + 1) pv) := Lies.dropS g3 (by omega)
      simp (maxDischargeDepth := 8) only [go_sem, reduceIte, reduceCtorEq, Nat.reduceEqDiff, Nat.reduceAdd, Nat.reduceMul, Nat.reduceSub, Nat.reduceLeDiff, Nat.reduceLT, Nat.reduceBEq, Int.reduceToNat, Int.reduceEq, Int.reduceLT, Int.reduceLE, Int.reduceAdd, Int.reduceSub, Int.reduceMul, Int.reduceNeg, hw, s1.l, s2.l, g3.lv, hj1, ha, s3.l, g5.iaddrC (show j < l1.length by omega), g5.loadC b3, hds]
      have g6 : LiesD cellF (Hm H) (dropV 2 (j + 1) pv) (l1.drop (j + 1)) := LiesD.drop cellF_even g3 (by omega)
      rw [KL_keep _ _ _ (by simp (maxDischargeDepth := 8) only [go_sem, reduceIte, reduceCtorEq, Nat.reduceEqDiff, Nat.reduceAdd, Nat.reduceMul, Nat.reduceSub, Nat.reduceLeDiff, Nat.reduceLT, Nat.reduceBEq, Int.reduceToNat, Int.reduceEq, Int.reduceLT, Int.reduceLE, Int.reduceAdd, Int.reduceSub, Int.reduceMul, Int.reduceNeg, s3.l, g6.lv])]
      simp (maxDischargeDepth := 8) only [go_sem, reduceIte, reduceCtorEq, Nat.reduceEqDiff, Nat.reduceAdd, Nat.reduceMul, Nat.reduceSub, Nat.reduceLeDiff, Nat.reduceLT, Nat.reduceBEq, Int.reduceToNat, Int.reduceEq, Int.reduceLT, Int.reduceLE, Int.reduceAdd, Int.reduceSub, Int.reduceMul, Int.reduceNeg]
      rw [hgo, ← List.append_assoc] at g4
      refine ih (c1, c2, dropV 2 (j + 1) pv, l1.drop (j + 1), v', o ++ lineP cx cy c1 c2, H3) ⟨(legal_at l1 j cx cy c1 c2 g1 b3).1, ?_, g6, g4, o1, f3, k3⟩ ?_
      · dsimp only
        rw [List.length_append, List.length_drop]
        omega
      · dsimp only
        rw [List.length_drop]
        omega
  · have hnil : l1 = [] := List.eq_nil_of_length_eq_zero (by omega)
    subst hnil
    simp (maxDischargeDepth := 8) only [go_sem, reduceIte, reduceCtorEq, Nat.reduceEqDiff, Nat.reduceAdd, Nat.reduceMul, Nat.reduceSub, Nat.reduceLeDiff, Nat.reduceLT, Nat.reduceBEq, Int.reduceToNat, Int.reduceEq, Int.reduceLT, Int.reduceLE, Int.reduceAdd, Int.reduceSub, Int.reduceMul, Int.reduceNeg, hw, s1.l, g3.lv, g3.len, show decide ((0 : Int) > 0) = false from rfl]
    have g4 : W.smGo cl sz l.length x y l = o := by rw [g4]; exact List.append_nil _
    rw [g4]
    refine ⟨ov, _, rfl, ow.congr fun i hi => fin_keep1 (.inr ?_), fp, ?_⟩
    · have := fp i hi
      rw [hx_fp hi]
      omega
    · rw [← hH] at kk ⊢
      exact kk.back1
theorem smooth_of {X : Mem} {p : WP} {W : Wd} {v : SV} {l : List (Int × Int)} {cl sz x y : Int} {z : Option (SV × Mem)} (hz : RF tb f_smooth_Smooth [.ptr (.hp p.k 0) 0, .agg [.int .i64 cl, .int .i64 sz], cellV x y, v] X = z) (hO : WorldOwn X.heap p W) (hg : W.Good) (hl : LiesD cellF (Hm X.heap) v l) (hw : X.Wf) (hhb : X.hb ≤ X.hl) :
    ∃ v' H' e, z = some (.tup [v', .int .i64 e], X.hp H') ∧ e = (if W.smOk cl sz x y l then 0 else 1) ∧ Own cellF H' v' (if W.smOk cl sz x y l then W.smGo cl sz l.length x y l else []) ∧ (∀ i ∈ slFp v', X.heap.length ≤ i) ∧ Keep [] X.heap H' := by
  rw [← hz]
  cases hn : W.smOk cl sz x y l with
  | false =>
    obtain ⟨H', h1, h2⟩ := r_smooth_Smooth_no hO.at_ hg hl hw cl sz x y hn
    exact ⟨.nils, H', 1, h1, rfl, Own.nil _, by simp [slFp], h2⟩
  | true =>
    obtain ⟨v', H', h1, h2, h3, h4⟩ := r_smooth_Smooth hO hg hl hw hhb cl sz x y hn
    exact ⟨v', H', 0, h1, rfl, h2, h3, h4⟩
theorem q33a : (Wd.plain 3 3).smOk 0 1 0 0 [(1, 0), (1, 1)] = true := by decide +kernel
theorem q33b : (Wd.plain 3 3).smGo 0 1 2 0 0 [(1, 0), (1, 1)] = [(1, 1)] := by decide +kernel
theorem q33c : lineP 0 0 2 0 = [(1, 0), (2, 0)] := by decide +kernel
theorem r_law15_awake (X : Mem) (hw : X.Wf) (hhb : X.hb ≤ X.hl) : ∃ H' u, RF tb f_law15_awake [] X = some (.bool true, (X.hp H').es (escMin X.esc u)) ∧ Keep [] X.heap H' := by
  rw [RF_go t_law15_awake _ _ rfl, push_hp]
  generalize hH : X.heap = H
  have hHl : X.hl = H.length := by rw [← hH]; rfl
  obtain ⟨H1, hH1⟩ : ∃ H1, H ++ [(0, SBk.cells true (List.replicate 9 [SV.int IntKind.u8 0]).flatten)] = H1 := ⟨_, rfl⟩
  have own : Own byteF H1 (.sl (.hp H.length 0) 0 9 (some 9) 1) (List.replicate 9 0) := by rw [← hH1]; exact mkslV_own byteF_even H 0 9
  have k1 : Keep [] H H1 := by rw [← hH1]; exact Keep.app _ _ _
  have hn := r_grid_New (X := (X.hp H1).fr [] none) (bl := []) (own.lies byteF_even) (LiesD.nil bldF _) (by decide) (fr_wf (hp_wf hw) _ _) (by show X.hb ≤ H1.length; have := k1.1; omega) 3 3
  rw [plain33] at hn
  obtain ⟨H2, u, p, h1, hO, k2, hF⟩ := hn
  change Keep [] H1 H2 at k2
  have hg := plain_good 3 3
  obtain ⟨H3, hH3⟩ : ∃ H3, H2 ++ [(0, SBk.cells true [.int .i64 1, .int .i64 0, .int .i64 1, .int .i64 1])] = H3 := ⟨_, rfl⟩
  have k3 : Keep [] H2 H3 := by rw [← hH3]; exact Keep.app _ _ _
  have hl3 : LiesD cellF (Hm H3) (.sl (.hp H2.length 0) 0 2 (some 2) 2) [(1, 0), (1, 1)] := by rw [← hH3]; exact (own_new cellF_even H2 [(1, 0), (1, 1)] (some 2)).lies cellF_even
  simp (maxDischargeDepth := 8) only [go_sem, reduceIte, reduceCtorEq, Nat.reduceEqDiff, Nat.reduceAdd, Nat.reduceMul, Nat.reduceSub, Nat.reduceLeDiff, Nat.reduceLT, Nat.reduceBEq, Int.reduceToNat, Int.reduceEq, Int.reduceLT, Int.reduceLE, Int.reduceAdd, Int.reduceSub, Int.reduceMul, Int.reduceNeg, s_law15_awake, hw, hH, show (9 : Int) ≤ (two48 : Int) from by decide, hH1, h1, hH3]
  generalize hz : RF tb f_smooth_Smooth _ _ = z
  obtain ⟨v', H4, e, rfl, he, o4, f4, k4⟩ := smooth_of hz (hO.keep k3 (by simp)) hg hl3 (by simp (maxDischargeDepth := 8) only [go_sem, reduceIte, reduceCtorEq, Nat.reduceEqDiff, Nat.reduceAdd, Nat.reduceMul, Nat.reduceSub, Nat.reduceLeDiff, Nat.reduceLT, Nat.reduceBEq, Int.reduceToNat, Int.reduceEq, Int.reduceLT, Int.reduceLE, Int.reduceAdd, Int.reduceSub, Int.reduceMul, Int.reduceNeg, hw]) (by show X.hb ≤ H3.length; have := k1.1; have := k2.1; have := k3.1; omega)
  change Keep [] H3 H4 at k4
  rw [q33a, if_pos rfl] at he o4
  rw [show ([((1 : Int), (0 : Int)), (1, 1)]).length = 2 from rfl, q33b] at o4
  subst he
  have s4 := o4.isSl cellF_even
  have l4 := o4.lies cellF_even
  simp (maxDischargeDepth := 8) only [go_sem, reduceIte, reduceCtorEq, Nat.reduceEqDiff, Nat.reduceAdd, Nat.reduceMul, Nat.reduceSub, Nat.reduceLeDiff, Nat.reduceLT, Nat.reduceBEq, Int.reduceToNat, Int.reduceEq, Int.reduceLT, Int.reduceLE, Int.reduceAdd, Int.reduceSub, Int.reduceMul, Int.reduceNeg, hw, s4.l, l4.len]
  generalize hz : RF tb f_smooth_Line _ _ = z
  obtain ⟨v5, H5, rfl, o5, f5, k5⟩ := line_of hz (by simp (maxDischargeDepth := 8) only [go_sem, reduceIte, reduceCtorEq, Nat.reduceEqDiff, Nat.reduceAdd, Nat.reduceMul, Nat.reduceSub, Nat.reduceLeDiff, Nat.reduceLT, Nat.reduceBEq, Int.reduceToNat, Int.reduceEq, Int.reduceLT, Int.reduceLE, Int.reduceAdd, Int.reduceSub, Int.reduceMul, Int.reduceNeg, hw]) (by show X.hb ≤ H4.length; have := k1.1; have := k2.1; have := k3.1; have := k4.1; omega)
  change Keep [] H4 H5 at k5
  rw [q33c] at o5
  have l5 := o5.lies cellF_even
  simp (maxDischargeDepth := 8) only [go_sem, reduceIte, reduceCtorEq, Nat.reduceEqDiff, Nat.reduceAdd, Nat.reduceMul, Nat.reduceSub, Nat.reduceLeDiff, Nat.reduceLT, Nat.reduceBEq, Int.reduceToNat, Int.reduceEq, Int.reduceLT, Int.reduceLE, Int.reduceAdd, Int.reduceSub, Int.reduceMul, Int.reduceNeg, hw, l5.len]
  exact ⟨_, _, rfl, by rw [← hH] at k1 ⊢; exact (k1.trans (k2.trans (k3.trans (k4.trans k5)))).back0⟩
theorem aw15 {X : Mem} {z : Option (SV × Mem)} (hz : RF tb f_law15_awake [] X = z) (hw : X.Wf) (hhb : X.hb ≤ X.hl) : ∃ H' u, z = some (.bool true, (X.hp H').es (escMin X.esc u)) ∧ Keep [] X.heap H' := by
  rw [← hz]
  exact r_law15_awake X hw hhb
/-- What comes of a path. -/
theorem smGo_law {W : Wd} (w1 : 1 ≤ W.w ∧ W.w ≤ 128) (w2 : 1 ≤ W.h ∧ W.h ≤ 128) {cl sz : Int} : ∀ (n : Nat) (x y : Int) (l : List (Int × Int)), l.length ≤ n → l.length ≤ 16384 → W.legal cl sz x y l = true →
    (W.smGo cl sz l.length x y l).length ≤ l.length ∧ W.legal cl sz x y (W.smGo cl sz l.length x y l) = true ∧ endL x y (W.smGo cl sz l.length x y l) = endL x y l ∧ ∀ c, costGo x y c (W.smGo cl sz l.length x y l) ≤ costGo x y c l
  | 0, x, y, l, h1, h2, h3 => by
    have : l = [] := List.eq_nil_of_length_eq_zero (by omega)
    subst this
    exact ⟨Nat.le_refl _, h3, rfl, fun c => Int.le_refl _⟩
  | n + 1, x, y, l, h1, h2, h3 => by
    by_cases hnil : l.length = 0
    · have : l = [] := List.eq_nil_of_length_eq_zero hnil
      subst this
      exact ⟨Nat.le_refl _, h3, rfl, fun c => Int.le_refl _⟩
    obtain ⟨k, c, hk, b2, b3, b4⟩ := best_in h3 w1 w2 (min 32 l.length) (by omega) (by omega)
    obtain ⟨a, b⟩ := c
    dsimp only at b4
    have hle := line_le w1 w2 h3 h2 b3
    rw [smGo_cons hk b3]
    dsimp only
    have h4 := legal_at l k x y a b h3 b3
    have hok : lineOk x y a b = true := by
      rcases smGo_len w1 w2 h3 b3 with h | h
      · exact h
      · omega
    have hlw := lineP_law hok
    have hlen : (l.drop (k + 1)).length = l.length - (k + 1) := List.length_drop
    obtain ⟨i1, i2, i3, i4⟩ := smGo_law w1 w2 n a b (l.drop (k + 1)) (by omega) (by omega) h4.1
    have ht : endL x y (l.take (k + 1)) = (a, b) := by
      rw [List.take_add_one, b3, end_app]
      rfl
    have hf := legal_far _ _ _ h4.2
    rw [ht] at hf
    have hsp : l = l.take (k + 1) ++ l.drop (k + 1) := (List.take_append_drop _ _).symm
    simp only [Wd.legal, Bool.and_eq_true] at b4 i2 h4
    refine ⟨?_, ?_, ?_, fun c => ?_⟩
    · rw [List.length_append]; omega
    · simp only [Wd.legal, Bool.and_eq_true]
      refine ⟨b4.1, ?_⟩
      rw [legal_app, hlw.2.1, b4.2, i2.2]
      rfl
    · rw [end_app, hlw.2.1, i3]
      conv => rhs; rw [hsp, end_app, ht]
    · rw [cost_add _ _ _ _ _ b4.2, hlw.2.1, hlw.2.2]
      conv => rhs; rw [hsp, cost_add _ _ _ _ _ h4.2.2, ht]
      dsimp only at hf ⊢
      exact Int.le_trans (i4 _) (cost_mono _ _ _ _ _ h4.1.2 (hf.2.2 c).1)
theorem endL_get : ∀ (l : List (Int × Int)) (x y : Int), 0 < l.length → l[l.length - 1]? = some (endL x y l)
  | [], x, y, h => absurd h (Nat.lt_irrefl 0)
  | [c], x, y, _ => rfl
  | c :: d :: l, x, y, _ => by
    have := endL_get (d :: l) c.1 c.2 (by simp)
    simp only [List.length_cons, Nat.add_sub_cancel] at this ⊢
    rw [List.getElem?_cons_succ]
    exact this
theorem r_law15_SmoothCheaper {X : Mem} {tv bv : SV} {tiles : List Int} {bl : List Bld} (hm : MapIn X tv bv tiles bl) {v : SV} {l : List (Int × Int)} (hl : LiesD cellF (Hm X.heap) v l) (hlb : 2 * l.length * 16 ≤ two48) (hw : X.Wf) (hhb : X.hb ≤ X.hl) (w hh cl sz x y : Int) : ∃ m', RF tb f_law15_SmoothCheaper [.agg [.int .i64 w, .int .i64 hh, tv, bv], .agg [.int .i64 cl, .int .i64 sz, .int .i64 x, .int .i64 y, v]] X = some (.bool true, m') := by
  rw [RF_go t_law15_SmoothCheaper _ _ rfl, push_hp]
  simp (maxDischargeDepth := 8) only [go_sem, reduceIte, reduceCtorEq, Nat.reduceEqDiff, Nat.reduceAdd, Nat.reduceMul, Nat.reduceSub, Nat.reduceLeDiff, Nat.reduceLT, Nat.reduceBEq, Int.reduceToNat, Int.reduceEq, Int.reduceLT, Int.reduceLE, Int.reduceAdd, Int.reduceSub, Int.reduceMul, Int.reduceNeg, s_law15_SmoothCheaper, hw, hm.t.cell, hm.b.cell, hl.cell]
  generalize hz : RF tb f_law06_Both _ _ = z
  rcases both_of hz ⟨hm.t, hm.g, hm.b, hm.n⟩ (by simp (maxDischargeDepth := 8) only [go_sem, reduceIte, reduceCtorEq, Nat.reduceEqDiff, Nat.reduceAdd, Nat.reduceMul, Nat.reduceSub, Nat.reduceLeDiff, Nat.reduceLT, Nat.reduceBEq, Int.reduceToNat, Int.reduceEq, Int.reduceLT, Int.reduceLE, Int.reduceAdd, Int.reduceSub, Int.reduceMul, Int.reduceNeg, hw]) hhb with ⟨H', u, rfl, k⟩ | ⟨H', u, p, q, rfl, hO, hR, hg, k, -, -⟩
  · have hle : X.hb ≤ H'.length := by have := k.1; exact Nat.le_trans hhb this
    simp (maxDischargeDepth := 8) only [go_sem, reduceIte, reduceCtorEq, Nat.reduceEqDiff, Nat.reduceAdd, Nat.reduceMul, Nat.reduceSub, Nat.reduceLeDiff, Nat.reduceLT, Nat.reduceBEq, Int.reduceToNat, Int.reduceEq, Int.reduceLT, Int.reduceLE, Int.reduceAdd, Int.reduceSub, Int.reduceMul, Int.reduceNeg, hw, hl.cell]
    generalize hz : RF tb f_law15_awake _ _ = z
    obtain ⟨H', u, rfl, -⟩ := aw15 hz (by simp (maxDischargeDepth := 8) only [go_sem, reduceIte, reduceCtorEq, Nat.reduceEqDiff, Nat.reduceAdd, Nat.reduceMul, Nat.reduceSub, Nat.reduceLeDiff, Nat.reduceLT, Nat.reduceBEq, Int.reduceToNat, Int.reduceEq, Int.reduceLT, Int.reduceLE, Int.reduceAdd, Int.reduceSub, Int.reduceMul, Int.reduceNeg, hw]) hle
    simp (maxDischargeDepth := 8) only [go_sem, reduceIte, reduceCtorEq, Nat.reduceEqDiff, Nat.reduceAdd, Nat.reduceMul, Nat.reduceSub, Nat.reduceLeDiff, Nat.reduceLT, Nat.reduceBEq, Int.reduceToNat, Int.reduceEq, Int.reduceLT, Int.reduceLE, Int.reduceAdd, Int.reduceSub, Int.reduceMul, Int.reduceNeg, hw]
    exact ⟨_, rfl⟩
  · have hle : X.hb ≤ H'.length := by have := k.1; exact Nat.le_trans hhb this
    have hl' := hl.keep k (by simp)
    simp (maxDischargeDepth := 8) only [go_sem, reduceIte, reduceCtorEq, Nat.reduceEqDiff, Nat.reduceAdd, Nat.reduceMul, Nat.reduceSub, Nat.reduceLeDiff, Nat.reduceLT, Nat.reduceBEq, Int.reduceToNat, Int.reduceEq, Int.reduceLT, Int.reduceLE, Int.reduceAdd, Int.reduceSub, Int.reduceMul, Int.reduceNeg, hw, hl.cell, hl.len]
    by_cases h2 : (l.length : Int) > 2000
    · simp (maxDischargeDepth := 8) only [go_sem, reduceIte, reduceCtorEq, Nat.reduceEqDiff, Nat.reduceAdd, Nat.reduceMul, Nat.reduceSub, Nat.reduceLeDiff, Nat.reduceLT, Nat.reduceBEq, Int.reduceToNat, Int.reduceEq, Int.reduceLT, Int.reduceLE, Int.reduceAdd, Int.reduceSub, Int.reduceMul, Int.reduceNeg, hw, hl.cell, hl.len, show decide ((l.length : Int) > 2000) = true from decide_eq_true h2]
      generalize hz : RF tb f_law15_awake _ _ = z
      obtain ⟨H', u, rfl, -⟩ := aw15 hz (by simp (maxDischargeDepth := 8) only [go_sem, reduceIte, reduceCtorEq, Nat.reduceEqDiff, Nat.reduceAdd, Nat.reduceMul, Nat.reduceSub, Nat.reduceLeDiff, Nat.reduceLT, Nat.reduceBEq, Int.reduceToNat, Int.reduceEq, Int.reduceLT, Int.reduceLE, Int.reduceAdd, Int.reduceSub, Int.reduceMul, Int.reduceNeg, hw]) hle
      simp (maxDischargeDepth := 8) only [go_sem, reduceIte, reduceCtorEq, Nat.reduceEqDiff, Nat.reduceAdd, Nat.reduceMul, Nat.reduceSub, Nat.reduceLeDiff, Nat.reduceLT, Nat.reduceBEq, Int.reduceToNat, Int.reduceEq, Int.reduceLT, Int.reduceLE, Int.reduceAdd, Int.reduceSub, Int.reduceMul, Int.reduceNeg, hw]
      exact ⟨_, rfl⟩
    · simp (maxDischargeDepth := 8) only [go_sem, reduceIte, reduceCtorEq, Nat.reduceEqDiff, Nat.reduceAdd, Nat.reduceMul, Nat.reduceSub, Nat.reduceLeDiff, Nat.reduceLT, Nat.reduceBEq, Int.reduceToNat, Int.reduceEq, Int.reduceLT, Int.reduceLE, Int.reduceAdd, Int.reduceSub, Int.reduceMul, Int.reduceNeg, hw, hl.cell, hl.len, show decide ((l.length : Int) > 2000) = false from decide_eq_false h2]
      generalize hz : RF tb f_smooth_Smooth _ _ = z
      obtain ⟨sv, H3, e, rfl, he, o4, f4, k3⟩ := smooth_of hz hO hg hl' (by simp (maxDischargeDepth := 8) only [go_sem, reduceIte, reduceCtorEq, Nat.reduceEqDiff, Nat.reduceAdd, Nat.reduceMul, Nat.reduceSub, Nat.reduceLeDiff, Nat.reduceLT, Nat.reduceBEq, Int.reduceToNat, Int.reduceEq, Int.reduceLT, Int.reduceLE, Int.reduceAdd, Int.reduceSub, Int.reduceMul, Int.reduceNeg, hw]) hle
      change Keep [] H' H3 at k3
      have w1 := hO.at_.w1
      have w2 := hO.at_.h1
      have hR3 := (hR.keep k3 (by simp)).at_
      have hl3 := hl'.keep k3 (by simp)
      have hle3 : X.hb ≤ H3.length := by have := k3.1; omega
      have s4 := o4.isSl cellF_even
      generalize hW : (⟨w, hh, tiles, bl, []⟩ : Wd) = W at *
      cases hn : W.smOk cl sz x y l with
      | false =>
        rw [hn] at he o4
        have he : e = 1 := he
        have o4 : Own cellF H3 sv [] := o4
        subst he
        have hnl : W.legal cl sz x y l = false := by
          simp only [Wd.smOk, show decide (l.length ≤ 16384) = true from decide_eq_true (by omega), Bool.true_and] at hn
          exact hn
        have e4 := (o4.lies cellF_even).len
        simp (maxDischargeDepth := 8) only [go_sem, reduceIte, reduceCtorEq, Nat.reduceEqDiff, Nat.reduceAdd, Nat.reduceMul, Nat.reduceSub, Nat.reduceLeDiff, Nat.reduceLT, Nat.reduceBEq, Int.reduceToNat, Int.reduceEq, Int.reduceLT, Int.reduceLE, Int.reduceAdd, Int.reduceSub, Int.reduceMul, Int.reduceNeg, hw, hl.cell, s4.l, r_ref06_Legal hR3 (fun a b => by rw [← hW]) hg hl3 (show l.length ≤ two48 by simp only [two48]; omega), hnl, e4, show ((1 : Int) != 0) = true from rfl]
        generalize hz : RF tb f_law15_awake _ _ = z
        obtain ⟨H', u, rfl, -⟩ := aw15 hz (by simp (maxDischargeDepth := 8) only [go_sem, reduceIte, reduceCtorEq, Nat.reduceEqDiff, Nat.reduceAdd, Nat.reduceMul, Nat.reduceSub, Nat.reduceLeDiff, Nat.reduceLT, Nat.reduceBEq, Int.reduceToNat, Int.reduceEq, Int.reduceLT, Int.reduceLE, Int.reduceAdd, Int.reduceSub, Int.reduceMul, Int.reduceNeg, hw]) hle3
        simp (maxDischargeDepth := 8) only [go_sem, reduceIte, reduceCtorEq, Nat.reduceEqDiff, Nat.reduceAdd, Nat.reduceMul, Nat.reduceSub, Nat.reduceLeDiff, Nat.reduceLT, Nat.reduceBEq, Int.reduceToNat, Int.reduceEq, Int.reduceLT, Int.reduceLE, Int.reduceAdd, Int.reduceSub, Int.reduceMul, Int.reduceNeg, hw]
        exact ⟨_, rfl⟩
      | true =>
        rw [hn] at he o4
        have he : e = 0 := he
        have o4 : Own cellF H3 sv (W.smGo cl sz l.length x y l) := o4
        subst he
        simp only [Wd.smOk, Bool.and_eq_true, decide_eq_true_eq] at hn
        obtain ⟨i1, i2, i3, i4⟩ := smGo_law w1 w2 l.length x y l (Nat.le_refl _) hn.1 hn.2
        generalize W.smGo cl sz l.length x y l = r at o4 i1 i2 i3 i4
        have l4 := o4.lies cellF_even
        simp (maxDischargeDepth := 8) only [go_sem, reduceIte, reduceCtorEq, Nat.reduceEqDiff, Nat.reduceAdd, Nat.reduceMul, Nat.reduceSub, Nat.reduceLeDiff, Nat.reduceLT, Nat.reduceBEq, Int.reduceToNat, Int.reduceEq, Int.reduceLT, Int.reduceLE, Int.reduceAdd, Int.reduceSub, Int.reduceMul, Int.reduceNeg, hw, hl.cell, s4.l, s4.o, l4.len]
        have hcost : decide (costL x y r ≤ costL x y l) = true := by
          rw [costL, costL, if_neg (by omega), if_neg (by omega)]
          exact decide_eq_true (i4 0)
        by_cases hl0 : l.length = 0
        · have hr0 : r.length = 0 := by omega
          simp (maxDischargeDepth := 8) only [go_sem, reduceIte, reduceCtorEq, Nat.reduceEqDiff, Nat.reduceAdd, Nat.reduceMul, Nat.reduceSub, Nat.reduceLeDiff, Nat.reduceLT, Nat.reduceBEq, Int.reduceToNat, Int.reduceEq, Int.reduceLT, Int.reduceLE, Int.reduceAdd, Int.reduceSub, Int.reduceMul, Int.reduceNeg, hw, hl.cell, hl3.len, s4.l, s4.o, hr0, hl0, show decide (((0 : Nat) : Int) > 0) = false from rfl, show decide ((0 : Int) > 0) = false from rfl]
          have hge : decide (costL x y r ≤ costL x y l) = true := hcost
          simp (maxDischargeDepth := 8) only [go_sem, reduceIte, reduceCtorEq, Nat.reduceEqDiff, Nat.reduceAdd, Nat.reduceMul, Nat.reduceSub, Nat.reduceLeDiff, Nat.reduceLT, Nat.reduceBEq, Int.reduceToNat, Int.reduceEq, Int.reduceLT, Int.reduceLE, Int.reduceAdd, Int.reduceSub, Int.reduceMul, Int.reduceNeg, hw, hl.cell, hl3.cell, hl3.len, s4.l, s4.o, show (x == x && y == y) = true from by simp, r_ref06_Legal hR3 (fun a b => by rw [← hW]) hg l4 (show r.length ≤ two48 by simp only [two48]; omega), i2, r_ref06_Cost l4, r_ref06_Cost hl3, hge]
          generalize hz : RF tb f_law15_awake _ _ = z
          obtain ⟨H', u, rfl, -⟩ := aw15 hz (by simp (maxDischargeDepth := 8) only [go_sem, reduceIte, reduceCtorEq, Nat.reduceEqDiff, Nat.reduceAdd, Nat.reduceMul, Nat.reduceSub, Nat.reduceLeDiff, Nat.reduceLT, Nat.reduceBEq, Int.reduceToNat, Int.reduceEq, Int.reduceLT, Int.reduceLE, Int.reduceAdd, Int.reduceSub, Int.reduceMul, Int.reduceNeg, hw]) hle3
          simp (maxDischargeDepth := 8) only [go_sem, reduceIte, reduceCtorEq, Nat.reduceEqDiff, Nat.reduceAdd, Nat.reduceMul, Nat.reduceSub, Nat.reduceLeDiff, Nat.reduceLT, Nat.reduceBEq, Int.reduceToNat, Int.reduceEq, Int.reduceLT, Int.reduceLE, Int.reduceAdd, Int.reduceSub, Int.reduceMul, Int.reduceNeg, hw]
          exact ⟨_, rfl⟩
        · obtain ⟨ex, ey, hex⟩ : ∃ ex ey, endL x y l = (ex, ey) := ⟨_, _, rfl⟩
          have hle1 := endL_get l x y (by omega)
          rw [hex] at hle1 i3
          have wl1 : IntKind.wrap .i64 ((l.length : Int) - 1) = ((l.length - 1 : Nat) : Int) := by rw [wrap_small (by omega) (by omega)]; omega
          by_cases hr0 : r.length = 0
          · have : r = [] := List.eq_nil_of_length_eq_zero hr0
            have i3 : (x, y) = (ex, ey) := by rw [this] at i3; exact i3
            cases i3
            simp (maxDischargeDepth := 8) only [go_sem, reduceIte, reduceCtorEq, Nat.reduceEqDiff, Nat.reduceAdd, Nat.reduceMul, Nat.reduceSub, Nat.reduceLeDiff, Nat.reduceLT, Nat.reduceBEq, Int.reduceToNat, Int.reduceEq, Int.reduceLT, Int.reduceLE, Int.reduceAdd, Int.reduceSub, Int.reduceMul, Int.reduceNeg, hw, hl.cell, hl3.len, s4.l, s4.o, hr0, show decide (((0 : Nat) : Int) > 0) = false from rfl, show decide ((0 : Int) > 0) = false from rfl, show decide ((l.length : Int) > 0) = true from decide_eq_true (by omega), wl1, hl3.iaddrC (show l.length - 1 < l.length by omega), hl3.loadC hle1]
            have hge : decide (costL x y r ≤ costL x y l) = true := hcost
            simp (maxDischargeDepth := 8) only [go_sem, reduceIte, reduceCtorEq, Nat.reduceEqDiff, Nat.reduceAdd, Nat.reduceMul, Nat.reduceSub, Nat.reduceLeDiff, Nat.reduceLT, Nat.reduceBEq, Int.reduceToNat, Int.reduceEq, Int.reduceLT, Int.reduceLE, Int.reduceAdd, Int.reduceSub, Int.reduceMul, Int.reduceNeg, hw, hl.cell, hl3.cell, hl3.len, s4.l, s4.o, show (x == x && y == y) = true from by simp, r_ref06_Legal hR3 (fun a b => by rw [← hW]) hg l4 (show r.length ≤ two48 by simp only [two48]; omega), i2, r_ref06_Cost l4, r_ref06_Cost hl3, hge]
            generalize hz : RF tb f_law15_awake _ _ = z
            obtain ⟨H', u, rfl, -⟩ := aw15 hz (by simp (maxDischargeDepth := 8) only [go_sem, reduceIte, reduceCtorEq, Nat.reduceEqDiff, Nat.reduceAdd, Nat.reduceMul, Nat.reduceSub, Nat.reduceLeDiff, Nat.reduceLT, Nat.reduceBEq, Int.reduceToNat, Int.reduceEq, Int.reduceLT, Int.reduceLE, Int.reduceAdd, Int.reduceSub, Int.reduceMul, Int.reduceNeg, hw]) hle3
            simp (maxDischargeDepth := 8) only [go_sem, reduceIte, reduceCtorEq, Nat.reduceEqDiff, Nat.reduceAdd, Nat.reduceMul, Nat.reduceSub, Nat.reduceLeDiff, Nat.reduceLT, Nat.reduceBEq, Int.reduceToNat, Int.reduceEq, Int.reduceLT, Int.reduceLE, Int.reduceAdd, Int.reduceSub, Int.reduceMul, Int.reduceNeg, hw]
            exact ⟨_, rfl⟩
          · have hre1 := endL_get r x y (by omega)
            rw [i3] at hre1
            have wr1 : IntKind.wrap .i64 ((r.length : Int) - 1) = ((r.length - 1 : Nat) : Int) := by rw [wrap_small (by omega) (by omega)]; omega
            simp (maxDischargeDepth := 8) only [go_sem, reduceIte, reduceCtorEq, Nat.reduceEqDiff, Nat.reduceAdd, Nat.reduceMul, Nat.reduceSub, Nat.reduceLeDiff, Nat.reduceLT, Nat.reduceBEq, Int.reduceToNat, Int.reduceEq, Int.reduceLT, Int.reduceLE, Int.reduceAdd, Int.reduceSub, Int.reduceMul, Int.reduceNeg, hw, hl.cell, hl3.len, l4.len, s4.l, s4.o, show decide ((r.length : Int) > 0) = true from decide_eq_true (by omega), wr1, l4.iaddrC (show r.length - 1 < r.length by omega), l4.loadC hre1]
            simp (maxDischargeDepth := 8) only [go_sem, reduceIte, reduceCtorEq, Nat.reduceEqDiff, Nat.reduceAdd, Nat.reduceMul, Nat.reduceSub, Nat.reduceLeDiff, Nat.reduceLT, Nat.reduceBEq, Int.reduceToNat, Int.reduceEq, Int.reduceLT, Int.reduceLE, Int.reduceAdd, Int.reduceSub, Int.reduceMul, Int.reduceNeg, hw, hl.cell, hl3.len, s4.l, s4.o, show decide ((l.length : Int) > 0) = true from decide_eq_true (by omega), wl1, hl3.iaddrC (show l.length - 1 < l.length by omega), hl3.loadC hle1]
            have hge : decide (costL x y r ≤ costL x y l) = true := hcost
            simp (maxDischargeDepth := 8) only [go_sem, reduceIte, reduceCtorEq, Nat.reduceEqDiff, Nat.reduceAdd, Nat.reduceMul, Nat.reduceSub, Nat.reduceLeDiff, Nat.reduceLT, Nat.reduceBEq, Int.reduceToNat, Int.reduceEq, Int.reduceLT, Int.reduceLE, Int.reduceAdd, Int.reduceSub, Int.reduceMul, Int.reduceNeg, hw, hl.cell, hl3.cell, hl3.len, s4.l, s4.o, show (ex == ex && ey == ey) = true from by simp, r_ref06_Legal hR3 (fun a b => by rw [← hW]) hg l4 (show r.length ≤ two48 by simp only [two48]; omega), i2, r_ref06_Cost l4, r_ref06_Cost hl3, hge]
            generalize hz : RF tb f_law15_awake _ _ = z
            obtain ⟨H', u, rfl, -⟩ := aw15 hz (by simp (maxDischargeDepth := 8) only [go_sem, reduceIte, reduceCtorEq, Nat.reduceEqDiff, Nat.reduceAdd, Nat.reduceMul, Nat.reduceSub, Nat.reduceLeDiff, Nat.reduceLT, Nat.reduceBEq, Int.reduceToNat, Int.reduceEq, Int.reduceLT, Int.reduceLE, Int.reduceAdd, Int.reduceSub, Int.reduceMul, Int.reduceNeg, hw]) hle3
            simp (maxDischargeDepth := 8) only [go_sem, reduceIte, reduceCtorEq, Nat.reduceEqDiff, Nat.reduceAdd, Nat.reduceMul, Nat.reduceSub, Nat.reduceLeDiff, Nat.reduceLT, Nat.reduceBEq, Int.reduceToNat, Int.reduceEq, Int.reduceLT, Int.reduceLE, Int.reduceAdd, Int.reduceSub, Int.reduceMul, Int.reduceNeg, hw]
            exact ⟨_, rfl⟩
theorem law15_SmoothCheaper {P : Program} {e e' e'' : TypeId} {okB : Bl' → Prop} {okC : Int × Int → Prop} (a : MT) (b : (Int × Int) × (Int × Int) × Sl (Int × Int)) (h1 : slOk P e (inR .u8) a.2.2.1) (h2 : slOk P e' okB a.2.2.2) (hB : P.bytesOf e' = 40) (h3 : slOk P e'' okC b.2.2) (h16 : P.bytesOf e'' = 16) {n0 n1 : In} (e0 : n0.map (·.2) = rdM.blks a 0)
    (e1 : n1.map (·.2) = (Rd.pair (Rd.flat cellF) (Rd.pair (Rd.flat cellF) (Rd.slice cellF))).blks b ([] ++ n0).length) : ∃ m', RF tb f_law15_SmoothCheaper [.agg (rdM.cells a 0), .agg ((Rd.pair (Rd.flat cellF) (Rd.pair (Rd.flat cellF) (Rd.slice cellF))).cells b ([] ++ n0).length)] (In.mem ([] ++ n0 ++ n1)) = some (.bool true, m') := by
  rw [rdM_blks] at e0
  have e1 : n1.map (·.2) = slB cellF b.2.2 := by simpa [Rd.pair, Rd.flat, Rd.slice] using e1
  have hl := sl_inG cellF_even h3 (pre := [] ++ n0) (post := []) (A := []) (B := []) (by simpa using e1)
  rw [List.append_nil] at hl
  exact r_law15_SmoothCheaper (mapIn_of (pre := []) h1 h2 hB e0) hl (sl_bd h3 h16) (In.wf _) (Nat.zero_le _) _ _ _ _ _ _
end Go.Sh.T
