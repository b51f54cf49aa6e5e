import Derived.Test.YtnogldcjbkiboaaShWD7
set_option linter.all false
set_option linter.unusedVariables false
set_option linter.unusedSimpArgs false
set_option autoImplicit false
namespace Go.Sh.T
open Go.Sh
set_option maxHeartbeats 8000000
set_option maxRecDepth 20000
def holdW (wt : Int) : Int := if wt < 15 then wt + 1 else 15
theorem mn_hold {wt : Int} (h : 0 ≤ wt ∧ wt ≤ 15) : mnI (wt + 1) 15 = holdW wt := by unfold mnI holdW; split <;> split <;> omega
theorem r_unit_Hold {m : Mem} {p : SV} {l : List (Int × Int)} (hp : LiesD cellF m p l) (hb : 2 * l.length * 16 ≤ two48) {X : Mem} (hX : HpSub m X) (hw : X.Wf) (id pl cl sz ax ay ph gx gy wt : Int) :
    RF tb f_unit_Hold [unitV id pl cl sz ax ay ph gx gy p wt] X = if goB id pl cl sz ax ay ph gx gy wt l then some (.tup [unitV id pl cl sz ax ay ph gx gy (cloneV X.hl p l.length 2) (holdW wt), .int .i64 0], X.hap (cloneL p l.length (l.flatMap cellF.enc)))
      else some (.tup [zeroU, .int .i64 1], X) := by
  rw [RF_go t_unit_Hold _ _ rfl]
  simp (maxDischargeDepth := 8) only [go_sem, reduceIte, reduceCtorEq, Nat.reduceEqDiff, Nat.reduceAdd, Nat.reduceMul, Nat.reduceSub, Nat.reduceLeDiff, Nat.reduceLT, Nat.reduceBEq, Int.reduceToNat, Int.reduceEq, Int.reduceLT, Int.reduceLE, Int.reduceAdd, Int.reduceSub, Int.reduceMul, Int.reduceNeg, s_unit_Hold, hw, unitV, hp.cell, r_unit_goes hp hb, hX]
  rw [show (decide (ph = 1) && mayU id pl cl sz ax ay ph gx gy wt l) = goB id pl cl sz ax ay ph gx gy wt l from rfl]
  cases h1 : goB id pl cl sz ax ay ph gx gy wt l with
  | false => simp (maxDischargeDepth := 8) only [go_sem, reduceIte, reduceCtorEq, Nat.reduceEqDiff, Nat.reduceAdd, Nat.reduceMul, Nat.reduceSub, Nat.reduceLeDiff, Nat.reduceLT, Nat.reduceBEq, Int.reduceToNat, Int.reduceEq, Int.reduceLT, Int.reduceLE, Int.reduceAdd, Int.reduceSub, Int.reduceMul, Int.reduceNeg, hw]
  | true =>
    obtain ⟨rfl, hm, hpos, hwt, _⟩ := goB_pos h1
    have hw1 : IntKind.wrap .i64 (wt + 1) = wt + 1 := wrap_small (by omega) (by omega)
    simp (maxDischargeDepth := 8) only [go_sem, reduceIte, reduceCtorEq, Nat.reduceEqDiff, Nat.reduceAdd, Nat.reduceMul, Nat.reduceSub, Nat.reduceLeDiff, Nat.reduceLT, Nat.reduceBEq, Int.reduceToNat, Int.reduceEq, Int.reduceLT, Int.reduceLE, Int.reduceAdd, Int.reduceSub, Int.reduceMul, Int.reduceNeg, hw, hp.cell, hX, r_slices_Clone_api_Cell_api_Cell hp hb, cells_clone, cell_clone, lv_clone, hw1, mn_hold hwt, clone_back]
theorem r_ref21_Hold {m : Mem} {p : SV} {l : List (Int × Int)} (hp : LiesD cellF m p l) (hb : 2 * l.length * 16 ≤ two48) {X : Mem} (hX : HpSub m X) (hw : X.Wf) (id pl cl sz ax ay ph gx gy wt : Int) :
    RF tb f_ref21_Hold [unitV id pl cl sz ax ay ph gx gy p wt] X = if goB id pl cl sz ax ay ph gx gy wt l then some (.tup [unitV id pl cl sz ax ay ph gx gy (copyV X.hl l.length 2) (holdW wt), .int .i64 0], X.hap (copyL l.length (l.flatMap cellF.enc)))
      else some (.tup [zeroU, .int .i64 1], X) := by
  rw [RF_go t_ref21_Hold _ _ rfl]
  simp (maxDischargeDepth := 8) only [go_sem, reduceIte, reduceCtorEq, Nat.reduceEqDiff, Nat.reduceAdd, Nat.reduceMul, Nat.reduceSub, Nat.reduceLeDiff, Nat.reduceLT, Nat.reduceBEq, Int.reduceToNat, Int.reduceEq, Int.reduceLT, Int.reduceLE, Int.reduceAdd, Int.reduceSub, Int.reduceMul, Int.reduceNeg, s_ref21_Hold, hw, unitV, hp.cell, r_ref21_May hp hb, hX]
  cases h0 : mayU id pl cl sz ax ay ph gx gy wt l with
  | false =>
    rw [if_neg (by simp [goB, h0])]
    simp (maxDischargeDepth := 8) only [go_sem, reduceIte, reduceCtorEq, Nat.reduceEqDiff, Nat.reduceAdd, Nat.reduceMul, Nat.reduceSub, Nat.reduceLeDiff, Nat.reduceLT, Nat.reduceBEq, Int.reduceToNat, Int.reduceEq, Int.reduceLT, Int.reduceLE, Int.reduceAdd, Int.reduceSub, Int.reduceMul, Int.reduceNeg, hw]
  | true =>
  simp (maxDischargeDepth := 8) only [go_sem, reduceIte, reduceCtorEq, Nat.reduceEqDiff, Nat.reduceAdd, Nat.reduceMul, Nat.reduceSub, Nat.reduceLeDiff, Nat.reduceLT, Nat.reduceBEq, Int.reduceToNat, Int.reduceEq, Int.reduceLT, Int.reduceLE, Int.reduceAdd, Int.reduceSub, Int.reduceMul, Int.reduceNeg, hw, hp.cell]
  cases h2 : decide (ph = 1) with
  | false =>
    rw [if_neg (by simp [goB, h2])]
    simp (maxDischargeDepth := 8) only [go_sem, reduceIte, reduceCtorEq, Nat.reduceEqDiff, Nat.reduceAdd, Nat.reduceMul, Nat.reduceSub, Nat.reduceLeDiff, Nat.reduceLT, Nat.reduceBEq, Int.reduceToNat, Int.reduceEq, Int.reduceLT, Int.reduceLE, Int.reduceAdd, Int.reduceSub, Int.reduceMul, Int.reduceNeg, show (ph != 1) = true by simpa using h2, hw]
  | true =>
    have h1 : goB id pl cl sz ax ay ph gx gy wt l = true := by simp [goB, h0, h2]
    rw [if_pos h1]
    obtain ⟨rfl, hm, hpos, hwt, _⟩ := goB_pos h1
    have hw1 : IntKind.wrap .i64 (wt + 1) = wt + 1 := wrap_small (by omega) (by omega)
    simp (maxDischargeDepth := 8) only [go_sem, reduceIte, reduceCtorEq, Nat.reduceEqDiff, Nat.reduceAdd, Nat.reduceMul, Nat.reduceSub, Nat.reduceLeDiff, Nat.reduceLT, Nat.reduceBEq, Int.reduceToNat, Int.reduceEq, Int.reduceLT, Int.reduceLE, Int.reduceAdd, Int.reduceSub, Int.reduceMul, Int.reduceNeg, show ((1 : Int) != 1) = false from rfl, hw, hp.cell, hX, List.replicate, List.flatten_nil, app_copyC hp hb, hw1]
    unfold holdW
    by_cases hlt : wt < 15
    · simp (maxDischargeDepth := 8) only [go_sem, reduceIte, reduceCtorEq, Nat.reduceEqDiff, Nat.reduceAdd, Nat.reduceMul, Nat.reduceSub, Nat.reduceLeDiff, Nat.reduceLT, Nat.reduceBEq, Int.reduceToNat, Int.reduceEq, Int.reduceLT, Int.reduceLE, Int.reduceAdd, Int.reduceSub, Int.reduceMul, Int.reduceNeg, decide_eq_true hlt, hw, hlt, hw1]
    · obtain rfl : wt = 15 := by omega
      simp (maxDischargeDepth := 8) only [go_sem, reduceIte, reduceCtorEq, Nat.reduceEqDiff, Nat.reduceAdd, Nat.reduceMul, Nat.reduceSub, Nat.reduceLeDiff, Nat.reduceLT, Nat.reduceBEq, Int.reduceToNat, Int.reduceEq, Int.reduceLT, Int.reduceLE, Int.reduceAdd, Int.reduceSub, Int.reduceMul, Int.reduceNeg, show decide ((15 : Int) < 15) = false from rfl, hw]
theorem r_unit_Lose {m : Mem} {p : SV} {l : List (Int × Int)} (hp : LiesD cellF m p l) (hb : 2 * l.length * 16 ≤ two48) {X : Mem} (hX : HpSub m X) (hw : X.Wf) (id pl cl sz ax ay ph gx gy wt : Int) :
    RF tb f_unit_Lose [unitV id pl cl sz ax ay ph gx gy p wt] X = if goB id pl cl sz ax ay ph gx gy wt l then some (.tup [aimV id pl cl sz ax ay gx gy, .int .i64 0], X) else some (.tup [zeroU, .int .i64 1], X) := by
  rw [RF_go t_unit_Lose _ _ rfl]
  simp (maxDischargeDepth := 8) only [go_sem, reduceIte, reduceCtorEq, Nat.reduceEqDiff, Nat.reduceAdd, Nat.reduceMul, Nat.reduceSub, Nat.reduceLeDiff, Nat.reduceLT, Nat.reduceBEq, Int.reduceToNat, Int.reduceEq, Int.reduceLT, Int.reduceLE, Int.reduceAdd, Int.reduceSub, Int.reduceMul, Int.reduceNeg, s_unit_Lose, hw, unitV, hp.cell, r_unit_goes hp hb, hX]
  rw [show (decide (ph = 1) && mayU id pl cl sz ax ay ph gx gy wt l) = goB id pl cl sz ax ay ph gx gy wt l from rfl]
  cases h1 : goB id pl cl sz ax ay ph gx gy wt l with
  | false => simp (maxDischargeDepth := 8) only [go_sem, reduceIte, reduceCtorEq, Nat.reduceEqDiff, Nat.reduceAdd, Nat.reduceMul, Nat.reduceSub, Nat.reduceLeDiff, Nat.reduceLT, Nat.reduceBEq, Int.reduceToNat, Int.reduceEq, Int.reduceLT, Int.reduceLE, Int.reduceAdd, Int.reduceSub, Int.reduceMul, Int.reduceNeg, hw]
  | true => simp (maxDischargeDepth := 8) only [go_sem, reduceIte, reduceCtorEq, Nat.reduceEqDiff, Nat.reduceAdd, Nat.reduceMul, Nat.reduceSub, Nat.reduceLeDiff, Nat.reduceLT, Nat.reduceBEq, Int.reduceToNat, Int.reduceEq, Int.reduceLT, Int.reduceLE, Int.reduceAdd, Int.reduceSub, Int.reduceMul, Int.reduceNeg, hw, hp.cell, fun {X : Mem} (hw : X.Wf) => r_unit_Aim hp hw]
theorem r_ref21_Lose {m : Mem} {p : SV} {l : List (Int × Int)} (hp : LiesD cellF m p l) (hb : 2 * l.length * 16 ≤ two48) {X : Mem} (hX : HpSub m X) (hw : X.Wf) (id pl cl sz ax ay ph gx gy wt : Int) :
    RF tb f_ref21_Lose [unitV id pl cl sz ax ay ph gx gy p wt] X = if goB id pl cl sz ax ay ph gx gy wt l then some (.tup [aimV id pl cl sz ax ay gx gy, .int .i64 0], X) else some (.tup [zeroU, .int .i64 1], X) := by
  rw [RF_go t_ref21_Lose _ _ rfl]
  simp (maxDischargeDepth := 8) only [go_sem, reduceIte, reduceCtorEq, Nat.reduceEqDiff, Nat.reduceAdd, Nat.reduceMul, Nat.reduceSub, Nat.reduceLeDiff, Nat.reduceLT, Nat.reduceBEq, Int.reduceToNat, Int.reduceEq, Int.reduceLT, Int.reduceLE, Int.reduceAdd, Int.reduceSub, Int.reduceMul, Int.reduceNeg, s_ref21_Lose, hw, unitV, hp.cell, r_ref21_May hp hb, hX]
  cases h0 : mayU id pl cl sz ax ay ph gx gy wt l with
  | false =>
    rw [if_neg (by simp [goB, h0])]
    simp (maxDischargeDepth := 8) only [go_sem, reduceIte, reduceCtorEq, Nat.reduceEqDiff, Nat.reduceAdd, Nat.reduceMul, Nat.reduceSub, Nat.reduceLeDiff, Nat.reduceLT, Nat.reduceBEq, Int.reduceToNat, Int.reduceEq, Int.reduceLT, Int.reduceLE, Int.reduceAdd, Int.reduceSub, Int.reduceMul, Int.reduceNeg, hw]
  | true =>
  simp (maxDischargeDepth := 8) only [go_sem, reduceIte, reduceCtorEq, Nat.reduceEqDiff, Nat.reduceAdd, Nat.reduceMul, Nat.reduceSub, Nat.reduceLeDiff, Nat.reduceLT, Nat.reduceBEq, Int.reduceToNat, Int.reduceEq, Int.reduceLT, Int.reduceLE, Int.reduceAdd, Int.reduceSub, Int.reduceMul, Int.reduceNeg, hw, hp.cell]
  cases h2 : decide (ph = 1) with
  | false =>
    rw [if_neg (by simp [goB, h2])]
    simp (maxDischargeDepth := 8) only [go_sem, reduceIte, reduceCtorEq, Nat.reduceEqDiff, Nat.reduceAdd, Nat.reduceMul, Nat.reduceSub, Nat.reduceLeDiff, Nat.reduceLT, Nat.reduceBEq, Int.reduceToNat, Int.reduceEq, Int.reduceLT, Int.reduceLE, Int.reduceAdd, Int.reduceSub, Int.reduceMul, Int.reduceNeg, show (ph != 1) = true by simpa using h2, hw]
  | true =>
    rw [if_pos (by simp [goB, h0, h2])]
    simp (maxDischargeDepth := 8) only [go_sem, reduceIte, reduceCtorEq, Nat.reduceEqDiff, Nat.reduceAdd, Nat.reduceMul, Nat.reduceSub, Nat.reduceLeDiff, Nat.reduceLT, Nat.reduceBEq, Int.reduceToNat, Int.reduceEq, Int.reduceLT, Int.reduceLE, Int.reduceAdd, Int.reduceSub, Int.reduceMul, Int.reduceNeg, show (ph != 1) = false by simpa using h2, hw, hp.cell, fun {X : Mem} (hw : X.Wf) => r_ref21_Aim hp hw]
def asideB (id pl cl sz ax ay ph gx gy wt tx ty : Int) (l : List (Int × Int)) : Bool := goB id pl cl sz ax ay ph gx gy wt l && decide (0 ≤ dirR ax ay tx ty 8)
theorem r_unit_Aside {m : Mem} {p : SV} {l : List (Int × Int)} (hp : LiesD cellF m p l) (hb : 2 * l.length * 16 ≤ two48) {X : Mem} (hX : HpSub m X) (hw : X.Wf) (id pl cl sz ax ay ph gx gy wt tx ty : Int) :
    RF tb f_unit_Aside [unitV id pl cl sz ax ay ph gx gy p wt, .agg [.int .i64 tx, .int .i64 ty]] X = if asideB id pl cl sz ax ay ph gx gy wt tx ty l then some (.tup [aimV id pl cl sz tx ty gx gy, .int .i64 0], X) else some (.tup [zeroU, .int .i64 1], X) := by
  rw [RF_go t_unit_Aside _ _ rfl]
  simp (maxDischargeDepth := 8) only [go_sem, reduceIte, reduceCtorEq, Nat.reduceEqDiff, Nat.reduceAdd, Nat.reduceMul, Nat.reduceSub, Nat.reduceLeDiff, Nat.reduceLT, Nat.reduceBEq, Int.reduceToNat, Int.reduceEq, Int.reduceLT, Int.reduceLE, Int.reduceAdd, Int.reduceSub, Int.reduceMul, Int.reduceNeg, s_unit_Aside, hw, unitV, hp.cell, r_unit_goes hp hb, hX]
  rw [show (decide (ph = 1) && mayU id pl cl sz ax ay ph gx gy wt l) = goB id pl cl sz ax ay ph gx gy wt l from rfl]
  cases h1 : goB id pl cl sz ax ay ph gx gy wt l with
  | false =>
    rw [if_neg (by simp [asideB, h1])]
    simp (maxDischargeDepth := 8) only [go_sem, reduceIte, reduceCtorEq, Nat.reduceEqDiff, Nat.reduceAdd, Nat.reduceMul, Nat.reduceSub, Nat.reduceLeDiff, Nat.reduceLT, Nat.reduceBEq, Int.reduceToNat, Int.reduceEq, Int.reduceLT, Int.reduceLE, Int.reduceAdd, Int.reduceSub, Int.reduceMul, Int.reduceNeg, hw]
  | true =>
    simp (maxDischargeDepth := 8) only [go_sem, reduceIte, reduceCtorEq, Nat.reduceEqDiff, Nat.reduceAdd, Nat.reduceMul, Nat.reduceSub, Nat.reduceLeDiff, Nat.reduceLT, Nat.reduceBEq, Int.reduceToNat, Int.reduceEq, Int.reduceLT, Int.reduceLE, Int.reduceAdd, Int.reduceSub, Int.reduceMul, Int.reduceNeg, hw, hp.cell, r_cell_Dir]
    cases h2 : decide (dirR ax ay tx ty 8 < 0) with
    | true =>
      rw [if_neg (by simp [asideB, h1]; simp at h2; omega)]
      simp (maxDischargeDepth := 8) only [go_sem, reduceIte, reduceCtorEq, Nat.reduceEqDiff, Nat.reduceAdd, Nat.reduceMul, Nat.reduceSub, Nat.reduceLeDiff, Nat.reduceLT, Nat.reduceBEq, Int.reduceToNat, Int.reduceEq, Int.reduceLT, Int.reduceLE, Int.reduceAdd, Int.reduceSub, Int.reduceMul, Int.reduceNeg, hw]
    | false =>
      rw [if_pos (by simp [asideB, h1]; simp at h2; omega)]
      simp (maxDischargeDepth := 8) only [go_sem, reduceIte, reduceCtorEq, Nat.reduceEqDiff, Nat.reduceAdd, Nat.reduceMul, Nat.reduceSub, Nat.reduceLeDiff, Nat.reduceLT, Nat.reduceBEq, Int.reduceToNat, Int.reduceEq, Int.reduceLT, Int.reduceLE, Int.reduceAdd, Int.reduceSub, Int.reduceMul, Int.reduceNeg, hw, hp.cell, fun {X : Mem} (hw : X.Wf) => r_unit_Aim hp hw]
theorem r_ref21_Aside {m : Mem} {p : SV} {l : List (Int × Int)} (hp : LiesD cellF m p l) (hb : 2 * l.length * 16 ≤ two48) {X : Mem} (hX : HpSub m X) (hw : X.Wf) (id pl cl sz ax ay ph gx gy wt tx ty : Int) :
    RF tb f_ref21_Aside [unitV id pl cl sz ax ay ph gx gy p wt, .agg [.int .i64 tx, .int .i64 ty]] X = if asideB id pl cl sz ax ay ph gx gy wt tx ty l then some (.tup [aimV id pl cl sz tx ty gx gy, .int .i64 0], X) else some (.tup [zeroU, .int .i64 1], X) := by
  rw [RF_go t_ref21_Aside _ _ rfl]
  simp (maxDischargeDepth := 8) only [go_sem, reduceIte, reduceCtorEq, Nat.reduceEqDiff, Nat.reduceAdd, Nat.reduceMul, Nat.reduceSub, Nat.reduceLeDiff, Nat.reduceLT, Nat.reduceBEq, Int.reduceToNat, Int.reduceEq, Int.reduceLT, Int.reduceLE, Int.reduceAdd, Int.reduceSub, Int.reduceMul, Int.reduceNeg, s_ref21_Aside, hw, unitV, hp.cell, r_ref21_May hp hb, hX]
  cases h0 : mayU id pl cl sz ax ay ph gx gy wt l with
  | false =>
    rw [if_neg (by simp [asideB, goB, h0])]
    simp (maxDischargeDepth := 8) only [go_sem, reduceIte, reduceCtorEq, Nat.reduceEqDiff, Nat.reduceAdd, Nat.reduceMul, Nat.reduceSub, Nat.reduceLeDiff, Nat.reduceLT, Nat.reduceBEq, Int.reduceToNat, Int.reduceEq, Int.reduceLT, Int.reduceLE, Int.reduceAdd, Int.reduceSub, Int.reduceMul, Int.reduceNeg, hw]
  | true =>
  simp (maxDischargeDepth := 8) only [go_sem, reduceIte, reduceCtorEq, Nat.reduceEqDiff, Nat.reduceAdd, Nat.reduceMul, Nat.reduceSub, Nat.reduceLeDiff, Nat.reduceLT, Nat.reduceBEq, Int.reduceToNat, Int.reduceEq, Int.reduceLT, Int.reduceLE, Int.reduceAdd, Int.reduceSub, Int.reduceMul, Int.reduceNeg, hw, hp.cell]
  cases h2 : decide (ph = 1) with
  | false =>
    rw [if_neg (by simp [asideB, goB, h2])]
    simp (maxDischargeDepth := 8) only [go_sem, reduceIte, reduceCtorEq, Nat.reduceEqDiff, Nat.reduceAdd, Nat.reduceMul, Nat.reduceSub, Nat.reduceLeDiff, Nat.reduceLT, Nat.reduceBEq, Int.reduceToNat, Int.reduceEq, Int.reduceLT, Int.reduceLE, Int.reduceAdd, Int.reduceSub, Int.reduceMul, Int.reduceNeg, show (ph != 1) = true by simpa using h2, hw]
  | true =>
    simp (maxDischargeDepth := 8) only [go_sem, reduceIte, reduceCtorEq, Nat.reduceEqDiff, Nat.reduceAdd, Nat.reduceMul, Nat.reduceSub, Nat.reduceLeDiff, Nat.reduceLT, Nat.reduceBEq, Int.reduceToNat, Int.reduceEq, Int.reduceLT, Int.reduceLE, Int.reduceAdd, Int.reduceSub, Int.reduceMul, Int.reduceNeg, show (ph != 1) = false by simpa using h2, hw, hp.cell, r_ref03_Dir]
    cases h3 : decide (dirR ax ay tx ty 8 < 0) with
    | true =>
      rw [if_neg (by simp [asideB]; simp at h3; omega)]
      simp (maxDischargeDepth := 8) only [go_sem, reduceIte, reduceCtorEq, Nat.reduceEqDiff, Nat.reduceAdd, Nat.reduceMul, Nat.reduceSub, Nat.reduceLeDiff, Nat.reduceLT, Nat.reduceBEq, Int.reduceToNat, Int.reduceEq, Int.reduceLT, Int.reduceLE, Int.reduceAdd, Int.reduceSub, Int.reduceMul, Int.reduceNeg, hw]
    | false =>
      rw [if_pos (by simp [asideB, goB, h0, h2]; simp at h2 h3; omega)]
      simp (maxDischargeDepth := 8) only [go_sem, reduceIte, reduceCtorEq, Nat.reduceEqDiff, Nat.reduceAdd, Nat.reduceMul, Nat.reduceSub, Nat.reduceLeDiff, Nat.reduceLT, Nat.reduceBEq, Int.reduceToNat, Int.reduceEq, Int.reduceLT, Int.reduceLE, Int.reduceAdd, Int.reduceSub, Int.reduceMul, Int.reduceNeg, hw, hp.cell, fun {X : Mem} (hw : X.Wf) => r_ref21_Aim hp hw]
theorem r_law21_awake (m : Mem) (hm : m.Wf) : RF tb f_law21_awake [] m = some (.bool true, m) := by
  rw [RF_go t_law21_awake _ _ rfl]
  have h0 : LiesD cellF m .nils [] := LiesD.nil _ _
  have h0' : LiesD cellF (m.hap [(0, .cells true [.int .i64 1, .int .i64 0])]) .nils [] := LiesD.nil _ _
  have hv : LiesD cellF (m.hap [(0, .cells true [.int .i64 1, .int .i64 0])]) (.sl (.hp m.hl 0) 0 1 (some 1) 2) [(1, 0)] :=
    ⟨rfl, .inr (.inr ⟨m.hl, 0, 0, some 1, [.int .i64 1, .int .i64 0], true, rfl, by simp (maxDischargeDepth := 8) only [go_sem, reduceIte, reduceCtorEq, Nat.reduceEqDiff, Nat.reduceAdd, Nat.reduceMul, Nat.reduceSub, Nat.reduceLeDiff, Nat.reduceLT, Nat.reduceBEq, Int.reduceToNat, Int.reduceEq, Int.reduceLT, Int.reduceLE, Int.reduceAdd, Int.reduceSub, Int.reduceMul, Int.reduceNeg], by decide, rfl⟩)⟩
  have hb1 : 2 * ([(1, 0)] : List (Int × Int)).length * 16 ≤ two48 := by decide
  have hb0 : 2 * ([] : List (Int × Int)).length * 16 ≤ two48 := by decide
  have hq := cloneL_lies hv
  have g1 : giveB 1 0 0 1 0 0 2 1 0 0 [] [(1, 0)] = true := by decide
  have g2 : goB 1 0 0 1 0 0 1 1 0 0 [(1, 0)] = true := by decide
  have ec : ∀ h, cloneV h (.sl (.hp m.hl 0) 0 1 (some 1) 2) 1 2 = .sl (.hp (h + 1) 0) 0 1 none 2 := fun _ => rfl
  have el : cloneL (.sl (.hp m.hl 0) 0 1 (some 1) 2) 1 (([(1, 0)] : List (Int × Int)).flatMap cellF.enc) = [(0, .cells true []), (0, .cells true [.int .i64 1, .int .i64 0])] := rfl
  simp (maxDischargeDepth := 8) only [go_sem, reduceIte, reduceCtorEq, Nat.reduceEqDiff, Nat.reduceAdd, Nat.reduceMul, Nat.reduceSub, Nat.reduceLeDiff, Nat.reduceLT, Nat.reduceBEq, Int.reduceToNat, Int.reduceEq, Int.reduceLT, Int.reduceLE, Int.reduceAdd, Int.reduceSub, Int.reduceMul, Int.reduceNeg, ec, el] at hq
  simp (maxDischargeDepth := 8) only [go_sem, reduceIte, reduceCtorEq, Nat.reduceEqDiff, Nat.reduceAdd, Nat.reduceMul, Nat.reduceSub, Nat.reduceLeDiff, Nat.reduceLT, Nat.reduceBEq, Int.reduceToNat, Int.reduceEq, Int.reduceLT, Int.reduceLE, Int.reduceAdd, Int.reduceSub, Int.reduceMul, Int.reduceNeg, s_law21_awake, hm, fun {X : Mem} (hw : X.Wf) => r_unit_Aim h0 hw, show aimB 0 0 1 0 = true from rfl, iB_t, List.replicate, List.flatten_nil, List.flatten_cons, r_unit_Give h0' hb0 hv hb1, g1, ec, el]
  simp (maxDischargeDepth := 8) only [go_sem, reduceIte, reduceCtorEq, Nat.reduceEqDiff, Nat.reduceAdd, Nat.reduceMul, Nat.reduceSub, Nat.reduceLeDiff, Nat.reduceLT, Nat.reduceBEq, Int.reduceToNat, Int.reduceEq, Int.reduceLT, Int.reduceLE, Int.reduceAdd, Int.reduceSub, Int.reduceMul, Int.reduceNeg, hm, r_unit_Step hq hb1, g2, show ([(1, 0)] : List (Int × Int)).headD (0, 0) = (1, 0) from rfl]
end Go.Sh.T
