import Derived.Test.YtepecbjlfekkaaaShWSmoothTurnsa
import Derived.Test.YtepecbjlfekkaaaShArg
set_option linter.all false
set_option linter.unusedVariables false
set_option linter.unusedSimpArgs false
set_option autoImplicit false
namespace Go.Sh.T
open Go.Sh
set_option maxHeartbeats 8000000
set_option maxRecDepth 20000
def trnGo : Int → Int → Int → Int → List (Int × Int) → Int
  | _, _, n, _, [] => n
  | x, y, n, last, c :: l => if dirR x y c.1 c.2 8 < 0 then -1 else trnGo c.1 c.2 (if 0 ≤ last ∧ ¬ dirR x y c.1 c.2 8 = last then n + 1 else n) (dirR x y c.1 c.2 8) l
theorem r_smooth_Turns {m : Mem} {v : SV} {l : List (Int × Int)} (hl : LiesD cellF m v l) (hb : l.length ≤ two48) {X : Mem} (hX : HpSub m X) (hw : X.Wf) (x y : Int) : RF tb f_smooth_Turns [cellV x y, v] X = some (.int .i64 (trnGo x y 0 (-1) l), X) := by
  rw [RF_go t_smooth_Turns _ _ rfl]
  simp (maxDischargeDepth := 8) only [go_sem, reduceIte, reduceCtorEq, Nat.reduceEqDiff, Nat.reduceAdd, Nat.reduceMul, Nat.reduceSub, Nat.reduceLeDiff, Nat.reduceLT, Nat.reduceBEq, Int.reduceToNat, Int.reduceEq, Int.reduceLT, Int.reduceLE, Int.reduceAdd, Int.reduceSub, Int.reduceMul, Int.reduceNeg, s_smooth_Turns, cellV, hw, hX, hl.len, hl.lv]
  rw [KL_keep _ _ _ (by simp (maxDischargeDepth := 8) only [go_sem, reduceIte, reduceCtorEq, Nat.reduceEqDiff, Nat.reduceAdd, Nat.reduceMul, Nat.reduceSub, Nat.reduceLeDiff, Nat.reduceLT, Nat.reduceBEq, Int.reduceToNat, Int.reduceEq, Int.reduceLT, Int.reduceLE, Int.reduceAdd, Int.reduceSub, Int.reduceMul, Int.reduceNeg, hl.lv])]
  simp (maxDischargeDepth := 8) only [go_sem, reduceIte, reduceCtorEq, Nat.reduceEqDiff, Nat.reduceAdd, Nat.reduceMul, Nat.reduceSub, Nat.reduceLeDiff, Nat.reduceLT, Nat.reduceBEq, Int.reduceToNat, Int.reduceEq, Int.reduceLT, Int.reduceLE, Int.reduceAdd, Int.reduceSub, Int.reduceMul, Int.reduceNeg]
  refine KL_indE (α := Nat × Int × Int × Int × Int) (fun a => l.length - a.1) (fun a => [(2, .ptr (.st X.dep 0) 0), (5, .int .i64 a.2.2.2.1), (6, .int .i64 a.2.2.2.2), (10, v), (11, .i l.length), (12, .int .i64 (a.1 : Int))]) (fun a => X.fr [.cells true [.int .i64 a.2.1, .int .i64 a.2.2.1]] none)
    (fun a => a.1 ≤ l.length ∧ (0 ≤ a.2.2.2.1 ∧ a.2.2.2.1 ≤ a.1) ∧ trnGo x y 0 (-1) l = trnGo a.2.1 a.2.2.1 a.2.2.2.1 a.2.2.2.2 (l.drop a.1)) ?_ (0, x, y, 0, -1) ⟨Nat.zero_le _, by simp, rfl⟩
  rintro ⟨i, cx, cy, n, last⟩ ⟨hi, hn, hI⟩ ih
  dsimp only at hi hn hI ⊢
  simp only [two48] at hb
  simp (maxDischargeDepth := 8) only [go_sem, reduceIte, reduceCtorEq, Nat.reduceEqDiff, Nat.reduceAdd, Nat.reduceMul, Nat.reduceSub, Nat.reduceLeDiff, Nat.reduceLT, Nat.reduceBEq, Int.reduceToNat, Int.reduceEq, Int.reduceLT, Int.reduceLE, Int.reduceAdd, Int.reduceSub, Int.reduceMul, Int.reduceNeg, hw, hl.lv, hl.len]
  by_cases hlt : i < l.length
  · have hel : l[i]? = some l[i] := List.getElem?_eq_getElem hlt
    have hdr : l.drop i = l[i] :: l.drop (i + 1) := List.drop_eq_getElem_cons hlt
    generalize l[i] = c at hel hdr
    obtain ⟨a, b⟩ := c
    rw [hdr] at hI
    simp (maxDischargeDepth := 8) only [go_sem, reduceIte, reduceCtorEq, Nat.reduceEqDiff, Nat.reduceAdd, Nat.reduceMul, Nat.reduceSub, Nat.reduceLeDiff, Nat.reduceLT, Nat.reduceBEq, Int.reduceToNat, Int.reduceEq, Int.reduceLT, Int.reduceLE, Int.reduceAdd, Int.reduceSub, Int.reduceMul, Int.reduceNeg, show decide ((i : Int) < (l.length : Int)) = true from decide_eq_true (by omega), hw, hX, hl.iaddrC hlt, hl.loadC hel, hl.lv, r_cell_Dir]
    simp only [trnGo] at hI
    by_cases h0 : dirR cx cy a b 8 < 0
    · rw [if_pos h0] at hI
      simp (maxDischargeDepth := 8) only [go_sem, reduceIte, reduceCtorEq, Nat.reduceEqDiff, Nat.reduceAdd, Nat.reduceMul, Nat.reduceSub, Nat.reduceLeDiff, Nat.reduceLT, Nat.reduceBEq, Int.reduceToNat, Int.reduceEq, Int.reduceLT, Int.reduceLE, Int.reduceAdd, Int.reduceSub, Int.reduceMul, Int.reduceNeg, show decide (dirR cx cy a b 8 < 0) = true from decide_eq_true h0, hw, hI]
    · rw [if_neg h0] at hI
      simp (maxDischargeDepth := 8) only [go_sem, reduceIte, reduceCtorEq, Nat.reduceEqDiff, Nat.reduceAdd, Nat.reduceMul, Nat.reduceSub, Nat.reduceLeDiff, Nat.reduceLT, Nat.reduceBEq, Int.reduceToNat, Int.reduceEq, Int.reduceLT, Int.reduceLE, Int.reduceAdd, Int.reduceSub, Int.reduceMul, Int.reduceNeg, show decide (dirR cx cy a b 8 < 0) = false from decide_eq_false h0, hw]
      by_cases h1 : 0 ≤ last
      · simp (maxDischargeDepth := 8) only [go_sem, reduceIte, reduceCtorEq, Nat.reduceEqDiff, Nat.reduceAdd, Nat.reduceMul, Nat.reduceSub, Nat.reduceLeDiff, Nat.reduceLT, Nat.reduceBEq, Int.reduceToNat, Int.reduceEq, Int.reduceLT, Int.reduceLE, Int.reduceAdd, Int.reduceSub, Int.reduceMul, Int.reduceNeg, show decide (last ≥ 0) = true from decide_eq_true h1, hw]
        by_cases h2 : dirR cx cy a b 8 = last
        · rw [if_neg (fun h => h.2 h2)] at hI
          simp (maxDischargeDepth := 8) only [go_sem, reduceIte, reduceCtorEq, Nat.reduceEqDiff, Nat.reduceAdd, Nat.reduceMul, Nat.reduceSub, Nat.reduceLeDiff, Nat.reduceLT, Nat.reduceBEq, Int.reduceToNat, Int.reduceEq, Int.reduceLT, Int.reduceLE, Int.reduceAdd, Int.reduceSub, Int.reduceMul, Int.reduceNeg, show (dirR cx cy a b 8 != last) = false from by simp [h2], hw, hX, hl.iaddrC hlt, hl.loadC hel, hl.lv, wrap_succ (show i ≤ 4611686018427387903 by omega)]
          rw [KL_keep _ _ _ (by simp (maxDischargeDepth := 8) only [go_sem, reduceIte, reduceCtorEq, Nat.reduceEqDiff, Nat.reduceAdd, Nat.reduceMul, Nat.reduceSub, Nat.reduceLeDiff, Nat.reduceLT, Nat.reduceBEq, Int.reduceToNat, Int.reduceEq, Int.reduceLT, Int.reduceLE, Int.reduceAdd, Int.reduceSub, Int.reduceMul, Int.reduceNeg, hl.lv])]
          simp (maxDischargeDepth := 8) only [go_sem, reduceIte, reduceCtorEq, Nat.reduceEqDiff, Nat.reduceAdd, Nat.reduceMul, Nat.reduceSub, Nat.reduceLeDiff, Nat.reduceLT, Nat.reduceBEq, Int.reduceToNat, Int.reduceEq, Int.reduceLT, Int.reduceLE, Int.reduceAdd, Int.reduceSub, Int.reduceMul, Int.reduceNeg]
          exact ih (i + 1, a, b, n, dirR cx cy a b 8) ⟨by dsimp only; omega, by dsimp only; omega, hI⟩ (by dsimp only; omega)
        · rw [if_pos ⟨h1, h2⟩] at hI
          simp (maxDischargeDepth := 8) only [go_sem, reduceIte, reduceCtorEq, Nat.reduceEqDiff, Nat.reduceAdd, Nat.reduceMul, Nat.reduceSub, Nat.reduceLeDiff, Nat.reduceLT, Nat.reduceBEq, Int.reduceToNat, Int.reduceEq, Int.reduceLT, Int.reduceLE, Int.reduceAdd, Int.reduceSub, Int.reduceMul, Int.reduceNeg, show (dirR cx cy a b 8 != last) = true from by simpa using h2, hw, hX, hl.iaddrC hlt, hl.loadC hel, hl.lv, wrap_succ (show i ≤ 4611686018427387903 by omega), wrap_small (x := n + 1) (by omega) (by omega)]
          rw [KL_keep _ _ _ (by simp (maxDischargeDepth := 8) only [go_sem, reduceIte, reduceCtorEq, Nat.reduceEqDiff, Nat.reduceAdd, Nat.reduceMul, Nat.reduceSub, Nat.reduceLeDiff, Nat.reduceLT, Nat.reduceBEq, Int.reduceToNat, Int.reduceEq, Int.reduceLT, Int.reduceLE, Int.reduceAdd, Int.reduceSub, Int.reduceMul, Int.reduceNeg, hl.lv])]
          simp (maxDischargeDepth := 8) only [go_sem, reduceIte, reduceCtorEq, Nat.reduceEqDiff, Nat.reduceAdd, Nat.reduceMul, Nat.reduceSub, Nat.reduceLeDiff, Nat.reduceLT, Nat.reduceBEq, Int.reduceToNat, Int.reduceEq, Int.reduceLT, Int.reduceLE, Int.reduceAdd, Int.reduceSub, Int.reduceMul, Int.reduceNeg]
          exact ih (i + 1, a, b, n + 1, dirR cx cy a b 8) ⟨by dsimp only; omega, by dsimp only; omega, hI⟩ (by dsimp only; omega)
      · rw [if_neg (fun h => h1 h.1)] at hI
        simp (maxDischargeDepth := 8) only [go_sem, reduceIte, reduceCtorEq, Nat.reduceEqDiff, Nat.reduceAdd, Nat.reduceMul, Nat.reduceSub, Nat.reduceLeDiff, Nat.reduceLT, Nat.reduceBEq, Int.reduceToNat, Int.reduceEq, Int.reduceLT, Int.reduceLE, Int.reduceAdd, Int.reduceSub, Int.reduceMul, Int.reduceNeg, show decide (last ≥ 0) = false from decide_eq_false h1, hw, hX, hl.iaddrC hlt, hl.loadC hel, hl.lv, wrap_succ (show i ≤ 4611686018427387903 by omega)]
        rw [KL_keep _ _ _ (by simp (maxDischargeDepth := 8) only [go_sem, reduceIte, reduceCtorEq, Nat.reduceEqDiff, Nat.reduceAdd, Nat.reduceMul, Nat.reduceSub, Nat.reduceLeDiff, Nat.reduceLT, Nat.reduceBEq, Int.reduceToNat, Int.reduceEq, Int.reduceLT, Int.reduceLE, Int.reduceAdd, Int.reduceSub, Int.reduceMul, Int.reduceNeg, hl.lv])]
        simp (maxDischargeDepth := 8) only [go_sem, reduceIte, reduceCtorEq, Nat.reduceEqDiff, Nat.reduceAdd, Nat.reduceMul, Nat.reduceSub, Nat.reduceLeDiff, Nat.reduceLT, Nat.reduceBEq, Int.reduceToNat, Int.reduceEq, Int.reduceLT, Int.reduceLE, Int.reduceAdd, Int.reduceSub, Int.reduceMul, Int.reduceNeg]
        exact ih (i + 1, a, b, n, dirR cx cy a b 8) ⟨by dsimp only; omega, by dsimp only; omega, hI⟩ (by dsimp only; omega)
  · obtain rfl : i = l.length := by omega
    rw [List.drop_length] at hI
    simp (maxDischargeDepth := 8) only [go_sem, reduceIte, reduceCtorEq, Nat.reduceEqDiff, Nat.reduceAdd, Nat.reduceMul, Nat.reduceSub, Nat.reduceLeDiff, Nat.reduceLT, Nat.reduceBEq, Int.reduceToNat, Int.reduceEq, Int.reduceLT, Int.reduceLE, Int.reduceAdd, Int.reduceSub, Int.reduceMul, Int.reduceNeg, show decide ((l.length : Int) < (l.length : Int)) = false from decide_eq_false (by omega), hw, hI]
    rfl
theorem r_ref11_Turns {m : Mem} {v : SV} {l : List (Int × Int)} (hl : LiesD cellF m v l) (hb : l.length ≤ two48) {X : Mem} (hX : HpSub m X) (hw : X.Wf) (x y : Int) : RF tb f_ref11_Turns [cellV x y, v] X = some (.int .i64 (trnGo x y 0 (-1) l), X) := by
  rw [RF_go t_ref11_Turns _ _ rfl]
  simp (maxDischargeDepth := 8) only [go_sem, reduceIte, reduceCtorEq, Nat.reduceEqDiff, Nat.reduceAdd, Nat.reduceMul, Nat.reduceSub, Nat.reduceLeDiff, Nat.reduceLT, Nat.reduceBEq, Int.reduceToNat, Int.reduceEq, Int.reduceLT, Int.reduceLE, Int.reduceAdd, Int.reduceSub, Int.reduceMul, Int.reduceNeg, s_ref11_Turns, cellV, hw, hX, hl.len, hl.lv]
  rw [KL_keep _ _ _ (by simp (maxDischargeDepth := 8) only [go_sem, reduceIte, reduceCtorEq, Nat.reduceEqDiff, Nat.reduceAdd, Nat.reduceMul, Nat.reduceSub, Nat.reduceLeDiff, Nat.reduceLT, Nat.reduceBEq, Int.reduceToNat, Int.reduceEq, Int.reduceLT, Int.reduceLE, Int.reduceAdd, Int.reduceSub, Int.reduceMul, Int.reduceNeg, hl.lv])]
  simp (maxDischargeDepth := 8) only [go_sem, reduceIte, reduceCtorEq, Nat.reduceEqDiff, Nat.reduceAdd, Nat.reduceMul, Nat.reduceSub, Nat.reduceLeDiff, Nat.reduceLT, Nat.reduceBEq, Int.reduceToNat, Int.reduceEq, Int.reduceLT, Int.reduceLE, Int.reduceAdd, Int.reduceSub, Int.reduceMul, Int.reduceNeg]
  refine KL_indE (α := Nat × Int × Int × Int × Int) (fun a => l.length - a.1) (fun a => [(1, v), (2, .ptr (.st X.dep 0) 0), (5, .int .i64 a.2.2.2.1), (6, .int .i64 a.2.2.2.2), (7, .int .i64 (a.1 : Int))]) (fun a => X.fr [.cells true [.int .i64 a.2.1, .int .i64 a.2.2.1]] none)
    (fun a => a.1 ≤ l.length ∧ (0 ≤ a.2.2.2.1 ∧ a.2.2.2.1 ≤ a.1) ∧ trnGo x y 0 (-1) l = trnGo a.2.1 a.2.2.1 a.2.2.2.1 a.2.2.2.2 (l.drop a.1)) ?_ (0, x, y, 0, -1) ⟨Nat.zero_le _, by simp, rfl⟩
  rintro ⟨i, cx, cy, n, last⟩ ⟨hi, hn, hI⟩ ih
  dsimp only at hi hn hI ⊢
  simp only [two48] at hb
  simp (maxDischargeDepth := 8) only [go_sem, reduceIte, reduceCtorEq, Nat.reduceEqDiff, Nat.reduceAdd, Nat.reduceMul, Nat.reduceSub, Nat.reduceLeDiff, Nat.reduceLT, Nat.reduceBEq, Int.reduceToNat, Int.reduceEq, Int.reduceLT, Int.reduceLE, Int.reduceAdd, Int.reduceSub, Int.reduceMul, Int.reduceNeg, hw, hl.lv, hl.len]
  by_cases hlt : i < l.length
  · have hel : l[i]? = some l[i] := List.getElem?_eq_getElem hlt
    have hdr : l.drop i = l[i] :: l.drop (i + 1) := List.drop_eq_getElem_cons hlt
    generalize l[i] = c at hel hdr
    obtain ⟨a, b⟩ := c
    rw [hdr] at hI
    simp (maxDischargeDepth := 8) only [go_sem, reduceIte, reduceCtorEq, Nat.reduceEqDiff, Nat.reduceAdd, Nat.reduceMul, Nat.reduceSub, Nat.reduceLeDiff, Nat.reduceLT, Nat.reduceBEq, Int.reduceToNat, Int.reduceEq, Int.reduceLT, Int.reduceLE, Int.reduceAdd, Int.reduceSub, Int.reduceMul, Int.reduceNeg, show decide ((i : Int) < (l.length : Int)) = true from decide_eq_true (by omega), hw, hX, hl.iaddrC hlt, hl.loadC hel, hl.lv, r_ref03_Dir]
    simp only [trnGo] at hI
    by_cases h0 : dirR cx cy a b 8 < 0
    · rw [if_pos h0] at hI
      simp (maxDischargeDepth := 8) only [go_sem, reduceIte, reduceCtorEq, Nat.reduceEqDiff, Nat.reduceAdd, Nat.reduceMul, Nat.reduceSub, Nat.reduceLeDiff, Nat.reduceLT, Nat.reduceBEq, Int.reduceToNat, Int.reduceEq, Int.reduceLT, Int.reduceLE, Int.reduceAdd, Int.reduceSub, Int.reduceMul, Int.reduceNeg, show decide (dirR cx cy a b 8 < 0) = true from decide_eq_true h0, hw, hI]
    · rw [if_neg h0] at hI
      simp (maxDischargeDepth := 8) only [go_sem, reduceIte, reduceCtorEq, Nat.reduceEqDiff, Nat.reduceAdd, Nat.reduceMul, Nat.reduceSub, Nat.reduceLeDiff, Nat.reduceLT, Nat.reduceBEq, Int.reduceToNat, Int.reduceEq, Int.reduceLT, Int.reduceLE, Int.reduceAdd, Int.reduceSub, Int.reduceMul, Int.reduceNeg, show decide (dirR cx cy a b 8 < 0) = false from decide_eq_false h0, hw]
      by_cases h1 : 0 ≤ last
      · simp (maxDischargeDepth := 8) only [go_sem, reduceIte, reduceCtorEq, Nat.reduceEqDiff, Nat.reduceAdd, Nat.reduceMul, Nat.reduceSub, Nat.reduceLeDiff, Nat.reduceLT, Nat.reduceBEq, Int.reduceToNat, Int.reduceEq, Int.reduceLT, Int.reduceLE, Int.reduceAdd, Int.reduceSub, Int.reduceMul, Int.reduceNeg, show decide (last ≥ 0) = true from decide_eq_true h1, hw]
        by_cases h2 : dirR cx cy a b 8 = last
        · rw [if_neg (fun h => h.2 h2)] at hI
          simp (maxDischargeDepth := 8) only [go_sem, reduceIte, reduceCtorEq, Nat.reduceEqDiff, Nat.reduceAdd, Nat.reduceMul, Nat.reduceSub, Nat.reduceLeDiff, Nat.reduceLT, Nat.reduceBEq, Int.reduceToNat, Int.reduceEq, Int.reduceLT, Int.reduceLE, Int.reduceAdd, Int.reduceSub, Int.reduceMul, Int.reduceNeg, show (dirR cx cy a b 8 != last) = false from by simp [h2], hw, hX, hl.iaddrC hlt, hl.loadC hel, hl.lv, wrap_succ (show i ≤ 4611686018427387903 by omega)]
          rw [KL_keep _ _ _ (by simp (maxDischargeDepth := 8) only [go_sem, reduceIte, reduceCtorEq, Nat.reduceEqDiff, Nat.reduceAdd, Nat.reduceMul, Nat.reduceSub, Nat.reduceLeDiff, Nat.reduceLT, Nat.reduceBEq, Int.reduceToNat, Int.reduceEq, Int.reduceLT, Int.reduceLE, Int.reduceAdd, Int.reduceSub, Int.reduceMul, Int.reduceNeg, hl.lv])]
          simp (maxDischargeDepth := 8) only [go_sem, reduceIte, reduceCtorEq, Nat.reduceEqDiff, Nat.reduceAdd, Nat.reduceMul, Nat.reduceSub, Nat.reduceLeDiff, Nat.reduceLT, Nat.reduceBEq, Int.reduceToNat, Int.reduceEq, Int.reduceLT, Int.reduceLE, Int.reduceAdd, Int.reduceSub, Int.reduceMul, Int.reduceNeg]
          exact ih (i + 1, a, b, n, dirR cx cy a b 8) ⟨by dsimp only; omega, by dsimp only; omega, hI⟩ (by dsimp only; omega)
        · rw [if_pos ⟨h1, h2⟩] at hI
          simp (maxDischargeDepth := 8) only [go_sem, reduceIte, reduceCtorEq, Nat.reduceEqDiff, Nat.reduceAdd, Nat.reduceMul, Nat.reduceSub, Nat.reduceLeDiff, Nat.reduceLT, Nat.reduceBEq, Int.reduceToNat, Int.reduceEq, Int.reduceLT, Int.reduceLE, Int.reduceAdd, Int.reduceSub, Int.reduceMul, Int.reduceNeg, show (dirR cx cy a b 8 != last) = true from by simpa using h2, hw, hX, hl.iaddrC hlt, hl.loadC hel, hl.lv, wrap_succ (show i ≤ 4611686018427387903 by omega), wrap_small (x := n + 1) (by omega) (by omega)]
          rw [KL_keep _ _ _ (by simp (maxDischargeDepth := 8) only [go_sem, reduceIte, reduceCtorEq, Nat.reduceEqDiff, Nat.reduceAdd, Nat.reduceMul, Nat.reduceSub, Nat.reduceLeDiff, Nat.reduceLT, Nat.reduceBEq, Int.reduceToNat, Int.reduceEq, Int.reduceLT, Int.reduceLE, Int.reduceAdd, Int.reduceSub, Int.reduceMul, Int.reduceNeg, hl.lv])]
          simp (maxDischargeDepth := 8) only [go_sem, reduceIte, reduceCtorEq, Nat.reduceEqDiff, Nat.reduceAdd, Nat.reduceMul, Nat.reduceSub, Nat.reduceLeDiff, Nat.reduceLT, Nat.reduceBEq, Int.reduceToNat, Int.reduceEq, Int.reduceLT, Int.reduceLE, Int.reduceAdd, Int.reduceSub, Int.reduceMul, Int.reduceNeg]
          exact ih (i + 1, a, b, n + 1, dirR cx cy a b 8) ⟨by dsimp only; omega, by dsimp only; omega, hI⟩ (by dsimp only; omega)
      · rw [if_neg (fun h => h1 h.1)] at hI
        simp (maxDischargeDepth := 8) only [go_sem, reduceIte, reduceCtorEq, Nat.reduceEqDiff, Nat.reduceAdd, Nat.reduceMul, Nat.reduceSub, Nat.reduceLeDiff, Nat.reduceLT, Nat.reduceBEq, Int.reduceToNat, Int.reduceEq, Int.reduceLT, Int.reduceLE, Int.reduceAdd, Int.reduceSub, Int.reduceMul, Int.reduceNeg, show decide (last ≥ 0) = false from decide_eq_false h1, hw, hX, hl.iaddrC hlt, hl.loadC hel, hl.lv, wrap_succ (show i ≤ 4611686018427387903 by omega)]
        rw [KL_keep _ _ _ (by simp (maxDischargeDepth := 8) only [go_sem, reduceIte, reduceCtorEq, Nat.reduceEqDiff, Nat.reduceAdd, Nat.reduceMul, Nat.reduceSub, Nat.reduceLeDiff, Nat.reduceLT, Nat.reduceBEq, Int.reduceToNat, Int.reduceEq, Int.reduceLT, Int.reduceLE, Int.reduceAdd, Int.reduceSub, Int.reduceMul, Int.reduceNeg, hl.lv])]
        simp (maxDischargeDepth := 8) only [go_sem, reduceIte, reduceCtorEq, Nat.reduceEqDiff, Nat.reduceAdd, Nat.reduceMul, Nat.reduceSub, Nat.reduceLeDiff, Nat.reduceLT, Nat.reduceBEq, Int.reduceToNat, Int.reduceEq, Int.reduceLT, Int.reduceLE, Int.reduceAdd, Int.reduceSub, Int.reduceMul, Int.reduceNeg]
        exact ih (i + 1, a, b, n, dirR cx cy a b 8) ⟨by dsimp only; omega, by dsimp only; omega, hI⟩ (by dsimp only; omega)
  · obtain rfl : i = l.length := by omega
    rw [List.drop_length] at hI
    simp (maxDischargeDepth := 8) only [go_sem, reduceIte, reduceCtorEq, Nat.reduceEqDiff, Nat.reduceAdd, Nat.reduceMul, Nat.reduceSub, Nat.reduceLeDiff, Nat.reduceLT, Nat.reduceBEq, Int.reduceToNat, Int.reduceEq, Int.reduceLT, Int.reduceLE, Int.reduceAdd, Int.reduceSub, Int.reduceMul, Int.reduceNeg, show decide ((l.length : Int) < (l.length : Int)) = false from decide_eq_false (by omega), hw, hI]
    rfl
theorem dirR_goes (x y a b : Int) : ∀ n, dirR x y a b n < 0 ∨ goes x y a b (dirR x y a b n) = true
  | 0 => .inl (show (-1 : Int) < 0 by decide)
  | n + 1 => by
    simp only [dirR]
    split
    · exact .inr ‹_›
    · exact dirR_goes x y a b n
theorem step_adj {W : Wd} {cl sz x y a b : Int} (h : W.steps cl sz x y (dirR x y a b 8) = true) :
    0 ≤ dirR x y a b 8 ∧ stepOk x y (dirR x y a b 8) = true ∧ x + turnX (dirR x y a b 8) = a ∧ y + turnY (dirR x y a b 8) = b ∧ W.stands cl sz x y = true ∧ W.stands cl sz a b = true := by
  rcases dirR_goes x y a b 8 with h1 | h1
  · rw [steps_neg W cl sz x y h1] at h; cases h
  · generalize dirR x y a b 8 = d at h h1
    simp only [goes, Bool.and_eq_true, decide_eq_true_eq] at h1
    obtain ⟨h2, rfl, rfl⟩ := h1
    have h3 := isDir_in (step_in h2).1
    simp only [Wd.steps, Bool.and_eq_true] at h
    exact ⟨h3.1, h2, rfl, rfl, h.1.1.2, h.1.2⟩
theorem stands_near {W : Wd} (w1 : 1 ≤ W.w ∧ W.w ≤ 128) (w2 : 1 ≤ W.h ∧ W.h ≤ 128) {cl sz x y : Int} (h : W.stands cl sz x y = true) : nearC x y = true := by
  have := has_in (stands_has h)
  simp only [nearC, nearP, Bool.and_eq_true, decide_eq_true_eq]
  omega
/-- The first so many steps. -/
theorem legal_at {W : Wd} {cl sz : Int} : ∀ (l : List (Int × Int)) (k : Nat) (x y a b : Int), W.legal cl sz x y l = true → l[k]? = some (a, b) → W.legal cl sz a b (l.drop (k + 1)) = true ∧ W.legal cl sz x y (l.take (k + 1)) = true
  | [], k, x, y, a, b, _, h2 => by simp at h2
  | c :: l, 0, x, y, a, b, h1, h2 => by
    simp only [List.getElem?_cons_zero, Option.some.injEq] at h2
    subst h2
    simp only [Wd.legal, Wd.legalGo, Bool.and_eq_true, List.drop_succ_cons, List.drop_zero, Nat.zero_add, List.take_succ_cons, List.take_zero] at h1 ⊢
    have := step_adj h1.2.1
    exact ⟨⟨this.2.2.2.2.2, h1.2.2⟩, ⟨h1.1, h1.2.1, trivial⟩⟩
  | c :: l, k + 1, x, y, a, b, h1, h2 => by
    simp only [List.getElem?_cons_succ] at h2
    simp only [Wd.legal, Wd.legalGo, Bool.and_eq_true] at h1
    have h3 := step_adj h1.2.1
    have h4 := legal_at l k c.1 c.2 a b (by simp only [Wd.legal, Bool.and_eq_true]; exact ⟨h3.2.2.2.2.2, h1.2.2⟩) h2
    simp only [Wd.legal, Wd.legalGo, Bool.and_eq_true, List.drop_succ_cons, List.take_succ_cons] at h4 ⊢
    exact ⟨h4.1, h1.1, h1.2.1, h4.2.2⟩
def endL (x y : Int) : List (Int × Int) → Int × Int
  | [] => (x, y)
  | c :: l => endL c.1 c.2 l
theorem end_app : ∀ (l k : List (Int × Int)) (x y : Int), endL x y (l ++ k) = endL (endL x y l).1 (endL x y l).2 k
  | [], k, x, y => rfl
  | c :: l, k, x, y => end_app l k c.1 c.2
/-- Distance and cost along a legal way. -/
theorem apt_step {x y d a b : Int} : apt x y a b ≤ 1 + apt (x + turnX d) (y + turnY d) a b := by
  have h := turn_lo d
  have h1 := absJ_in (x - a)
  have h2 := absJ_in (y - b)
  have h3 := absJ_in (x + turnX d - a)
  have h4 := absJ_in (y + turnY d - b)
  have h5 := mxI_eq (absJ (x - a)) (absJ (y - b))
  have h6 := mxI_eq (absJ (x + turnX d - a)) (absJ (y + turnY d - b))
  unfold apt
  omega
theorem oct_step {x y d a b : Int} (hd : isDir d = true) : octD (absJ (x - a)) (absJ (y - b)) ≤ costP d + octD (absJ (x + turnX d - a)) (absJ (y + turnY d - b)) := by
  have h1 := absJ_in (x - a)
  have h2 := absJ_in (y - b)
  have h3 := absJ_in (x + turnX d - a)
  have h4 := absJ_in (y + turnY d - b)
  have h5 := mxI_eq (absJ (x - a)) (absJ (y - b))
  have h6 := mxI_eq (absJ (x + turnX d - a)) (absJ (y + turnY d - b))
  have h7 := mnI_eq (absJ (x - a)) (absJ (y - b))
  have h8 := mnI_eq (absJ (x + turnX d - a)) (absJ (y + turnY d - b))
  have hs : (turnX d = 0 ∨ turnY d = 0) ∧ (-1 ≤ turnX d ∧ turnX d ≤ 1 ∧ -1 ≤ turnY d ∧ turnY d ≤ 1) ∧ costP d = 10 ∨ (-1 ≤ turnX d ∧ turnX d ≤ 1 ∧ -1 ≤ turnY d ∧ turnY d ≤ 1) ∧ costP d = 14 := by
    rcases dir8 hd with rfl | rfl | rfl | rfl | rfl | rfl | rfl | rfl <;> decide
  unfold octD
  omega
theorem legal_far {W : Wd} {cl sz : Int} : ∀ (l : List (Int × Int)) (x y : Int), W.legal cl sz x y l = true → apt x y (endL x y l).1 (endL x y l).2 ≤ l.length ∧ W.stands cl sz (endL x y l).1 (endL x y l).2 = true ∧
    ∀ n, n + octD (absJ (x - (endL x y l).1)) (absJ (y - (endL x y l).2)) ≤ costGo x y n l ∧ n ≤ costGo x y n l
  | [], x, y, h => by
    simp only [Wd.legal, Bool.and_eq_true] at h
    refine ⟨by simp [endL, apt_self], h.1, fun n => ?_⟩
    simp [endL, costGo, octD, absJ, mxI, mnI]
  | c :: l, x, y, h => by
    simp only [Wd.legal, Wd.legalGo, Bool.and_eq_true] at h
    have h3 := step_adj h.2.1
    obtain ⟨i1, i2, i3⟩ := legal_far l c.1 c.2 (by simp only [Wd.legal, Bool.and_eq_true]; exact ⟨h3.2.2.2.2.2, h.2.2⟩)
    have h4 := @apt_step x y (dirR x y c.1 c.2 8) (endL c.1 c.2 l).1 (endL c.1 c.2 l).2
    have h5 := @oct_step x y (dirR x y c.1 c.2 8) (endL c.1 c.2 l).1 (endL c.1 c.2 l).2 (step_in h3.2.1).1
    rw [h3.2.2.1, h3.2.2.2.1] at h4 h5
    simp only [endL, List.length_cons, Int.natCast_succ]
    refine ⟨by omega, i2, fun n => ?_⟩
    simp only [costGo]
    rw [if_neg (by omega)]
    have := i3 (n + costP (dirR x y c.1 c.2 8))
    have := cost_in (dirR x y c.1 c.2 8)
    omega
/-- The line's step. -/
theorem line_dir {x y a b : Int} (h : ¬ (x = a ∧ y = b)) : ∃ d, isDir d = true ∧ turnX d = sgJ x a ∧ turnY d = sgJ y b ∧ costP d + octD (absJ (toJ x a - a)) (absJ (toJ y b - b)) = octD (absJ (x - a)) (absJ (y - b)) := by
  have key : ∀ p q : Int, 0 ≤ p → 0 ≤ q → (¬ p = 0 → ¬ q = 0 → 14 + octD (p - 1) (q - 1) = octD p q) ∧ (¬ p = 0 → 10 + octD (p - 1) 0 = octD p 0) ∧ (¬ q = 0 → 10 + octD 0 (q - 1) = octD 0 q) := by
    intro p q hp hq
    have h5 := mxI_eq p q
    have h6 := mnI_eq p q
    have h7 := mxI_eq (p - 1) (q - 1)
    have h8 := mnI_eq (p - 1) (q - 1)
    have a1 := mxI_eq p 0
    have a2 := mnI_eq p 0
    have a3 := mxI_eq (p - 1) 0
    have a4 := mnI_eq (p - 1) 0
    have b1 := mxI_eq 0 q
    have b2 := mnI_eq 0 q
    have b3 := mxI_eq 0 (q - 1)
    have b4 := mnI_eq 0 (q - 1)
    unfold octD
    refine ⟨?_, ?_, ?_⟩ <;> omega
  have h1 := absJ_in (x - a)
  have h2 := absJ_in (y - b)
  obtain ⟨k1, k2, k3⟩ := key _ _ h1.1 h2.1
  have z : ∀ n : Int, absJ (n - n) = 0 := fun n => by simp [absJ]
  rw [abs_to, abs_to]
  rcases Int.lt_trichotomy x a with p1 | rfl | p1 <;> rcases Int.lt_trichotomy y b with p2 | rfl | p2
  · refine ⟨4, rfl, by simp [sgJ, p1, turnX], by simp [sgJ, p2, turnY], ?_⟩
    rw [if_neg (by omega), if_neg (by omega)]; exact k1 (by omega) (by omega)
  · refine ⟨0, rfl, by simp [sgJ, p1, turnX], by simp [sgJ, turnY], ?_⟩
    rw [if_neg (by omega), if_pos rfl, z]; exact k2 (by omega)
  · refine ⟨7, rfl, by simp [sgJ, p1, turnX], by simp [sgJ, p2, turnY]; omega, ?_⟩
    rw [if_neg (by omega), if_neg (by omega)]; exact k1 (by omega) (by omega)
  · refine ⟨1, rfl, by simp [sgJ, turnX], by simp [sgJ, p2, turnY], ?_⟩
    rw [if_neg (show ¬ y = b by omega), if_pos rfl, z]; exact k3 (by omega)
  · exact absurd ⟨rfl, rfl⟩ h
  · refine ⟨3, rfl, by simp [sgJ, turnX], by simp [sgJ, p2, turnY]; omega, ?_⟩
    rw [if_neg (show ¬ y = b by omega), if_pos rfl, z]; exact k3 (by omega)
  · refine ⟨5, rfl, by simp [sgJ, p1, turnX]; omega, by simp [sgJ, p2, turnY], ?_⟩
    rw [if_neg (by omega), if_neg (by omega)]; exact k1 (by omega) (by omega)
  · refine ⟨2, rfl, by simp [sgJ, p1, turnX]; omega, by simp [sgJ, turnY], ?_⟩
    rw [if_neg (by omega), if_pos rfl, z]; exact k2 (by omega)
  · refine ⟨6, rfl, by simp [sgJ, p1, turnX]; omega, by simp [sgJ, p2, turnY]; omega, ?_⟩
    rw [if_neg (by omega), if_neg (by omega)]; exact k1 (by omega) (by omega)
theorem line_cost : ∀ (n : Nat) (x y a b c : Int), nearC x y = true → nearC a b = true → (apt x y a b).toNat = n → endL x y (lineL n x y a b) = (a, b) ∧ costGo x y c (lineL n x y a b) = c + octD (absJ (x - a)) (absJ (y - b))
  | 0, x, y, a, b, c, h1, h2, hn => by
    have h3 := apt_in x y a b
    obtain ⟨rfl, rfl⟩ := apt_zero (show apt x y a b = 0 by omega)
    exact ⟨rfl, by simp [lineL, costGo, octD, absJ, mxI, mnI]⟩
  | n + 1, x, y, a, b, c, h1, h2, hn => by
    have he : ¬ (x = a ∧ y = b) := by
      rintro ⟨rfl, rfl⟩
      rw [apt_self] at hn
      cases hn
    obtain ⟨d, hd, d1, d2, d3⟩ := line_dir he
    have n1 := nearC_in h1
    have n2 := nearC_in h2
    have h1' : nearC (toJ x a) (toJ y b) = true := by
      have e1 := near_to n1.1 n2.1
      have e2 := near_to n1.2 n2.2
      simp only [nearC, nearP, Bool.and_eq_true, decide_eq_true_eq]
      exact ⟨e1, e2⟩
    have hs : stepOk x y d = true := by
      simp only [stepOk, hd, h1, Bool.true_and, d1, d2]
      exact h1'
    have hdir := dirR_step hs
    rw [d1, d2] at hdir
    change dirR x y (toJ x a) (toJ y b) 8 = d at hdir
    have h0 := isDir_in hd
    obtain ⟨i1, i2⟩ := line_cost n (toJ x a) (toJ y b) a b (c + costP d) h1' h2 (by rw [apt_to he]; omega)
    simp only [lineL, endL, costGo]
    refine ⟨i1, ?_⟩
    rw [hdir, if_neg (by omega), i2]
    omega
theorem lineP_law {x y a b : Int} (h : lineOk x y a b = true) : (lineP x y a b).length = (apt x y a b).toNat ∧ endL x y (lineP x y a b) = (a, b) ∧ ∀ c, costGo x y c (lineP x y a b) = c + octD (absJ (x - a)) (absJ (y - b)) := by
  have h' := h
  simp only [lineOk, Bool.and_eq_true, decide_eq_true_eq] at h'
  rw [lineP, h]
  exact ⟨lineL_len _ _ _ _ _, (line_cost _ x y a b 0 h'.1.1 h'.1.2 rfl).1, fun c => (line_cost _ x y a b c h'.1.1 h'.1.2 rfl).2⟩
/-- The farthest cell that a line leads to. -/
def Wd.best (W : Wd) (cl sz x y : Int) (l : List (Int × Int)) : Nat → Nat
  | 0 => 0
  | n + 1 => match l[n]? with
    | some c => if W.legal cl sz x y (lineP x y c.1 c.2) then n + 1 else W.best cl sz x y l n
    | none => W.best cl sz x y l n
def Wd.smGo (W : Wd) (cl sz : Int) : Nat → Int → Int → List (Int × Int) → List (Int × Int)
  | 0, _, _, _ => []
  | f + 1, x, y, l => match W.best cl sz x y l (min 32 l.length) with
    | 0 => []
    | k + 1 => match l[k]? with
      | some c => lineP x y c.1 c.2 ++ W.smGo cl sz f c.1 c.2 (l.drop (k + 1))
      | none => []
theorem smGo_nil (W : Wd) (cl sz : Int) (f : Nat) (x y : Int) : W.smGo cl sz f x y [] = [] := by
  cases f <;> rfl
theorem smGo_fuel (W : Wd) (cl sz : Int) : ∀ (f f' : Nat) (x y : Int) (l : List (Int × Int)), l.length ≤ f → l.length ≤ f' → W.smGo cl sz f x y l = W.smGo cl sz f' x y l
  | 0, f', x, y, l, h, _ => by
    have : l = [] := List.eq_nil_of_length_eq_zero (by omega)
    subst this
    rw [smGo_nil, smGo_nil]
  | f + 1, 0, x, y, l, _, h => by
    have : l = [] := List.eq_nil_of_length_eq_zero (by omega)
    subst this
    rw [smGo_nil, smGo_nil]
  | f + 1, f' + 1, x, y, l, h, h' => by
    simp only [Wd.smGo]
    cases W.best cl sz x y l (min 32 l.length) with
    | zero => rfl
    | succ k =>
      dsimp only
      cases hk : l[k]? with
      | none => rfl
      | some c =>
        dsimp only
        rw [smGo_fuel W cl sz f f' c.1 c.2 (l.drop (k + 1)) (by rw [List.length_drop]; omega) (by rw [List.length_drop]; omega)]
theorem best_in {W : Wd} {cl sz x y : Int} {l : List (Int × Int)} (hl : W.legal cl sz x y l = true) (w1 : 1 ≤ W.w ∧ W.w ≤ 128) (w2 : 1 ≤ W.h ∧ W.h ≤ 128) : ∀ n, 0 < n → n ≤ l.length → ∃ k c, W.best cl sz x y l n = k + 1 ∧ k < n ∧ l[k]? = some c ∧ W.legal cl sz x y (lineP x y c.1 c.2) = true
  | 0, h, _ => absurd h (Nat.lt_irrefl 0)
  | n + 1, _, hn => by
    simp only [Wd.best]
    have hel : l[n]? = some l[n] := List.getElem?_eq_getElem (by omega)
    generalize l[n] = c at hel
    rw [hel]
    dsimp only
    cases hc : W.legal cl sz x y (lineP x y c.1 c.2) with
    | true => exact ⟨n, c, by simp, by omega, hel, hc⟩
    | false =>
      simp only [Bool.false_eq_true, if_false]
      by_cases h0 : n = 0
      · subst h0
        exfalso
        cases l with
        | nil => simp at hel
        | cons c' l =>
          simp only [List.getElem?_cons_zero, Option.some.injEq] at hel
          subst hel
          simp only [Wd.legal, Wd.legalGo, Bool.and_eq_true] at hl
          have h3 := step_adj hl.2.1
          have e1 := h3.2.2.1
          have e2 := h3.2.2.2.1
          have hlt := turn_lo (dirR x y c'.1 c'.2 8)
          have hz : ¬ (turnX (dirR x y c'.1 c'.2 8) = 0 ∧ turnY (dirR x y c'.1 c'.2 8) = 0) := fun hz => by
            have := (isDir_turn (dirR x y c'.1 c'.2 8)).2 hz
            rw [(step_in h3.2.1).1] at this
            cases this
          have p1 : toJ x c'.1 = c'.1 := by unfold toJ sgJ; split <;> (try split) <;> omega
          have p2 : toJ y c'.2 = c'.2 := by unfold toJ sgJ; split <;> (try split) <;> omega
          have he : ¬ (x = c'.1 ∧ y = c'.2) := by rintro ⟨q1, q2⟩; exact hz ⟨by omega, by omega⟩
          have ha : apt x y c'.1 c'.2 = 1 := by
            have := apt_to he
            rw [p1, p2, apt_self] at this
            omega
          have hok : lineOk x y c'.1 c'.2 = true := by
            simp only [lineOk, stands_near w1 w2 h3.2.2.2.2.1, stands_near w1 w2 h3.2.2.2.2.2, ha]
            rfl
          have : lineP x y c'.1 c'.2 = [(c'.1, c'.2)] := by
            rw [lineP, hok, ha]
            show lineL 1 x y c'.1 c'.2 = _
            simp only [lineL, p1, p2]
          rw [this] at hc
          simp only [Wd.legal, Wd.legalGo, hl.1, hl.2.1] at hc
          cases hc
      · obtain ⟨k, c', i1, i2, i3⟩ := best_in hl w1 w2 n (by omega) (by omega)
        exact ⟨k, c', i1, by omega, i3⟩
theorem smGo_len {W : Wd} (w1 : 1 ≤ W.w ∧ W.w ≤ 128) (w2 : 1 ≤ W.h ∧ W.h ≤ 128) {cl sz x y a b : Int} {l : List (Int × Int)} {k : Nat} (hl : W.legal cl sz x y l = true) (hk : l[k]? = some (a, b)) : lineOk x y a b = true ∨ 16384 < l.length := by
  rcases Nat.lt_or_ge 16384 l.length with h | hlen
  · exact .inr h
  refine .inl ?_
  have h1 := legal_at l k x y a b hl hk
  have h2 := legal_far _ _ _ h1.2
  have h3 : endL x y (l.take (k + 1)) = (a, b) := by
    rw [List.take_add_one, hk, end_app]
    rfl
  rw [h3] at h2
  simp only [Wd.legal, Bool.and_eq_true] at hl
  simp only [lineOk, stands_near w1 w2 hl.1, stands_near w1 w2 h2.2.1, Bool.true_and, decide_eq_true_eq]
  have h4 := h2.1
  dsimp only at h4
  rw [List.length_take] at h4
  omega
theorem line_le {W : Wd} (w1 : 1 ≤ W.w ∧ W.w ≤ 128) (w2 : 1 ≤ W.h ∧ W.h ≤ 128) {cl sz x y a b : Int} {l : List (Int × Int)} {k : Nat} (hl : W.legal cl sz x y l = true) (hlen : l.length ≤ 16384) (hk : l[k]? = some (a, b)) : (lineP x y a b).length ≤ k + 1 := by
  have hok : lineOk x y a b = true := by
    rcases smGo_len w1 w2 hl hk with h | h
    · exact h
    · omega
  rw [(lineP_law hok).1]
  have h1 := legal_at l k x y a b hl hk
  have h2 := legal_far _ _ _ h1.2
  have h3 : endL x y (l.take (k + 1)) = (a, b) := by
    rw [List.take_add_one, hk, end_app]
    rfl
  rw [h3] at h2
  have h4 := h2.1
  dsimp only at h4
  rw [List.length_take] at h4
  omega
def Wd.smOk (W : Wd) (cl sz x y : Int) (l : List (Int × Int)) : Bool := decide (l.length ≤ 16384) && W.legal cl sz x y l
theorem best_cut (W : Wd) (cl sz x y : Int) (l : List (Int × Int)) (n : Nat) : W.best cl sz x y l (n + 1) = match l[n]? with
    | some c => if W.legal cl sz x y (lineP x y c.1 c.2) then n + 1 else W.best cl sz x y l n
    | none => W.best cl sz x y l n := rfl
theorem smGo_cons {W : Wd} {cl sz x y : Int} {l : List (Int × Int)} {k : Nat} {c : Int × Int} (hk : W.best cl sz x y l (min 32 l.length) = k + 1) (hc : l[k]? = some c) : W.smGo cl sz l.length x y l = lineP x y c.1 c.2 ++ W.smGo cl sz (l.drop (k + 1)).length c.1 c.2 (l.drop (k + 1)) := by
  have hlt : k < l.length := by
    rcases Nat.lt_or_ge k l.length with h | h
    · exact h
    · rw [List.getElem?_eq_none h] at hc; cases hc
  obtain ⟨f, hf⟩ : ∃ f, l.length = f + 1 := ⟨l.length - 1, by omega⟩
  rw [smGo_fuel W cl sz l.length (f + 1) x y l (Nat.le_refl _) (by omega)]
  simp only [Wd.smGo, hk, hc]
  rw [smGo_fuel W cl sz f (l.drop (k + 1)).length c.1 c.2 _ (by rw [List.length_drop]; omega) (Nat.le_refl _)]
theorem r_smooth_Smooth_no {X : Mem} {p : WP} {W : Wd} (hO : WorldAt (Hm X.heap) p W) (hg : W.Good) {v : SV} {l : List (Int × Int)} (hl : LiesD cellF (Hm X.heap) v l) (hw : X.Wf) (cl sz x y : Int) (hn : W.smOk cl sz x y l = false) : ∃ H', RF tb f_smooth_Smooth [.ptr (.hp p.k 0) 0, .agg [.int .i64 cl, .int .i64 sz], cellV x y, v] X = some (.tup [.nils, .int .i64 1], X.hp H') ∧ Keep [] X.heap H' := by
  rw [RF_go t_smooth_Smooth _ _ rfl, push_hp]
  generalize hH : X.heap = H at *
  simp (maxDischargeDepth := 8) only [go_sem, reduceIte, reduceCtorEq, Nat.reduceEqDiff, Nat.reduceAdd, Nat.reduceMul, Nat.reduceSub, Nat.reduceLeDiff, Nat.reduceLT, Nat.reduceBEq, Int.reduceToNat, Int.reduceEq, Int.reduceLT, Int.reduceLE, Int.reduceAdd, Int.reduceSub, Int.reduceMul, Int.reduceNeg, s_smooth_Smooth, cellV, hw, hH, hl.len, hl.lv]
  by_cases h1 : (l.length : Int) > 16384
  · simp (maxDischargeDepth := 8) only [go_sem, reduceIte, reduceCtorEq, Nat.reduceEqDiff, Nat.reduceAdd, Nat.reduceMul, Nat.reduceSub, Nat.reduceLeDiff, Nat.reduceLT, Nat.reduceBEq, Int.reduceToNat, Int.reduceEq, Int.reduceLT, Int.reduceLE, Int.reduceAdd, Int.reduceSub, Int.reduceMul, Int.reduceNeg, show decide ((l.length : Int) > 16384) = true from decide_eq_true h1, hw, hl.lv]
    rw [take_hl hH]
    exact ⟨H, rfl, Keep.refl _ _⟩
  · have h2 : W.legal cl sz x y l = false := by
      simp only [Wd.smOk, show decide (l.length ≤ 16384) = true from decide_eq_true (by omega), Bool.true_and] at hn
      exact hn
    simp (maxDischargeDepth := 8) only [go_sem, reduceIte, reduceCtorEq, Nat.reduceEqDiff, Nat.reduceAdd, Nat.reduceMul, Nat.reduceSub, Nat.reduceLeDiff, Nat.reduceLT, Nat.reduceBEq, Int.reduceToNat, Int.reduceEq, Int.reduceLT, Int.reduceLE, Int.reduceAdd, Int.reduceSub, Int.reduceMul, Int.reduceNeg, show decide ((l.length : Int) > 16384) = false from decide_eq_false h1, hw, hl.lv, r_class_Legal hO hg hl (by simp only [two48]; omega), h2]
    rw [take_hl hH]
    exact ⟨H, rfl, Keep.refl _ _⟩
theorem line_of {X : Mem} {x y a b : Int} {z : Option (SV × Mem)} (hz : RF tb f_smooth_Line [cellV x y, cellV a b] X = z) (hw : X.Wf) (hhb : X.hb ≤ X.hl) : ∃ v' H', z = some (v', X.hp H') ∧ Own cellF H' v' (lineP x y a b) ∧ (∀ i ∈ slFp v', X.heap.length ≤ i) ∧ Keep [] X.heap H' := by
  rw [← hz]
  exact r_smooth_Line hw hhb x y a b
theorem r_smooth_Smooth {X : Mem} {p : WP} {W : Wd} (hO : WorldOwn X.heap p W) (hg : W.Good) {v : SV} {l : List (Int × Int)} (hl : LiesD cellF (Hm X.heap) v l) (hw : X.Wf) (hhb : X.hb ≤ X.hl) (cl sz x y : Int) (hn : W.smOk cl sz x y l = true) :
    ∃ v' H', RF tb f_smooth_Smooth [.ptr (.hp p.k 0) 0, .agg [.int .i64 cl, .int .i64 sz], cellV x y, v] X = some (.tup [v', .int .i64 0], X.hp H') ∧ Own cellF H' v' (W.smGo cl sz l.length x y l) ∧ (∀ i ∈ slFp v', X.heap.length ≤ i) ∧ Keep [] X.heap H' := by
  rw [RF_go t_smooth_Smooth _ _ rfl, push_hp]
  generalize hH : X.heap = H at *
  have hHl : X.hl = H.length := by rw [← hH]; rfl
  have w1 := hO.at_.w1
  have w2 := hO.at_.h1
  simp only [Wd.smOk, Bool.and_eq_true, decide_eq_true_eq] at hn
  simp (maxDischargeDepth := 8) only [go_sem, reduceIte, reduceCtorEq, Nat.reduceEqDiff, Nat.reduceAdd, Nat.reduceMul, Nat.reduceSub, Nat.reduceLeDiff, Nat.reduceLT, Nat.reduceBEq, Int.reduceToNat, Int.reduceEq, Int.reduceLT, Int.reduceLE, Int.reduceAdd, Int.reduceSub, Int.reduceMul, Int.reduceNeg, s_smooth_Smooth, cellV, hw, hH, hl.len, hl.lv, show decide ((l.length : Int) > 16384) = false from decide_eq_false (by omega), r_class_Legal hO.at_ hg hl (by simp only [two48]; omega), hn.2]
  rw [KL_keep _ _ _ (by simp (maxDischargeDepth := 8) only [go_sem, reduceIte, reduceCtorEq, Nat.reduceEqDiff, Nat.reduceAdd, Nat.reduceMul, Nat.reduceSub, Nat.reduceLeDiff, Nat.reduceLT, Nat.reduceBEq, Int.reduceToNat, Int.reduceEq, Int.reduceLT, Int.reduceLE, Int.reduceAdd, Int.reduceSub, Int.reduceMul, Int.reduceNeg, hl.lv])]
  simp (maxDischargeDepth := 8) only [go_sem, reduceIte, reduceCtorEq, Nat.reduceEqDiff, Nat.reduceAdd, Nat.reduceMul, Nat.reduceSub, Nat.reduceLeDiff, Nat.reduceLT, Nat.reduceBEq, Int.reduceToNat, Int.reduceEq, Int.reduceLT, Int.reduceLE, Int.reduceAdd, Int.reduceSub, Int.reduceMul, Int.reduceNeg]
  refine KL_ind (R := fun z => ∃ v' H', fin [.t 8, .t 9] X z = some (.tup [v', .int .i64 0], X.hp H') ∧ Own cellF H' v' (W.smGo cl sz l.length x y l) ∧ (∀ i ∈ slFp v', H.length ≤ i) ∧ Keep [] H H') (α := Int × Int × SV × List (Int × Int) × SV × List (Int × Int) × Hp) (fun q => q.2.2.2.1.length)
    (fun q => [(0, .ptr (.hp p.k 0) 0), (3, q.2.2.1), (5, .ptr (.st X.dep 0) 0), (6, .ptr (.st X.dep 1) 0), (10, q.2.2.2.2.1)])
    (fun q => (X.hp q.2.2.2.2.2.2).fr [.cells true [.int .i64 cl, .int .i64 sz], .cells true [.int .i64 q.1, .int .i64 q.2.1]] none)
    (fun q => W.legal cl sz q.1 q.2.1 q.2.2.2.1 = true ∧ q.2.2.2.2.2.1.length + q.2.2.2.1.length ≤ 16384 ∧ LiesD cellF (Hm H) q.2.2.1 q.2.2.2.1 ∧ W.smGo cl sz l.length x y l = q.2.2.2.2.2.1 ++ W.smGo cl sz q.2.2.2.1.length q.1 q.2.1 q.2.2.2.1 ∧ Own cellF q.2.2.2.2.2.2 q.2.2.2.2.1 q.2.2.2.2.2.1 ∧ (∀ i ∈ slFp q.2.2.2.2.1, H.length ≤ i) ∧ Keep [] H q.2.2.2.2.2.2) ?_ (x, y, v, l, .nils, [], H) ⟨hn.2, by simp; exact hn.1, hl, rfl, Own.nil _, by simp [slFp], Keep.refl _ _⟩
  rintro ⟨cx, cy, pv, l1, ov, o, Hk⟩ ⟨g1, g2, g3, g4, ow, fp, kk⟩ ih
  dsimp only at g1 g2 g3 g4 ow fp kk ⊢
  have s1 := ow.isSl cellF_even
  simp (maxDischargeDepth := 8) only [go_sem, reduceIte, reduceCtorEq, Nat.reduceEqDiff, Nat.reduceAdd, Nat.reduceMul, Nat.reduceSub, Nat.reduceLeDiff, Nat.reduceLT, Nat.reduceBEq, Int.reduceToNat, Int.reduceEq, Int.reduceLT, Int.reduceLE, Int.reduceAdd, Int.reduceSub, Int.reduceMul, Int.reduceNeg, hw, s1.l, g3.lv, g3.len]
  by_cases hpos : 0 < l1.length
  · simp (maxDischargeDepth := 8) only [go_sem, reduceIte, reduceCtorEq, Nat.reduceEqDiff, Nat.reduceAdd, Nat.reduceMul, Nat.reduceSub, Nat.reduceLeDiff, Nat.reduceLT, Nat.reduceBEq, Int.reduceToNat, Int.reduceEq, Int.reduceLT, Int.reduceLE, Int.reduceAdd, Int.reduceSub, Int.reduceMul, Int.reduceNeg, show decide ((l1.length : Int) > 0) = true from decide_eq_true (by omega), hw, s1.l, g3.lv, g3.len]
    have hmn : mnI 32 (l1.length : Int) = ((min 32 l1.length : Nat) : Int) := by unfold mnI; split <;> omega
    rw [hmn]
    obtain ⟨k, c, hk, b2, b3, b4⟩ := best_in g1 w1 w2 (min 32 l1.length) (by omega) (by omega)
    obtain ⟨c1, c2⟩ := c
    have hgo := smGo_cons hk b3
    have hle := line_le w1 w2 g1 (by omega) b3
    dsimp only at hgo hle b4
    rw [KL_keep _ _ _ (by simp (maxDischargeDepth := 8) only [go_sem, reduceIte, reduceCtorEq, Nat.reduceEqDiff, Nat.reduceAdd, Nat.reduceMul, Nat.reduceSub, Nat.reduceLeDiff, Nat.reduceLT, Nat.reduceBEq, Int.reduceToNat, Int.reduceEq, Int.reduceLT, Int.reduceLE, Int.reduceAdd, Int.reduceSub, Int.reduceMul, Int.reduceNeg, s1.l, g3.lv])]
    simp (maxDischargeDepth := 8) only [go_sem, reduceIte, reduceCtorEq, Nat.reduceEqDiff, Nat.reduceAdd, Nat.reduceMul, Nat.reduceSub, Nat.reduceLeDiff, Nat.reduceLT, Nat.reduceBEq, Int.reduceToNat, Int.reduceEq, Int.reduceLT, Int.reduceLE, Int.reduceAdd, Int.reduceSub, Int.reduceMul, Int.reduceNeg]
    refine KL_ind (R := fun z => ∃ v' H', fin [.t 8, .t 9] X z = some (.tup [v', .int .i64 0], X.hp H') ∧ Own cellF H' v' (W.smGo cl sz l.length x y l) ∧ (∀ i ∈ slFp v', H.length ≤ i) ∧ Keep [] H H') (α := Nat × Hp) (fun q => q.1)
      (fun q => [(0, .ptr (.hp p.k 0) 0), (3, pv), (5, .ptr (.st X.dep 0) 0), (6, .ptr (.st X.dep 1) 0), (10, ov), (11, .int .i64 (q.1 : Int))])
      (fun q => (X.hp q.2).fr [.cells true [.int .i64 cl, .int .i64 sz], .cells true [.int .i64 cx, .int .i64 cy]] none)
      (fun q => q.1 ≤ l1.length ∧ W.best cl sz cx cy l1 q.1 = k + 1 ∧ Own cellF q.2 ov o ∧ Keep [] H q.2) ?_ (min 32 l1.length, Hk) ⟨by dsimp only; omega, hk, ow, kk⟩
    clear ow kk
    rintro ⟨j, Hk⟩ ⟨hj, hbj, ow, kk⟩ ih'
    dsimp only at hj hbj ow kk ⊢
    have hj0 : 0 < j := by
      rcases Nat.eq_zero_or_pos j with rfl | h
      · cases hbj
      · exact h
    obtain ⟨j, rfl⟩ : ∃ i, j = i + 1 := ⟨j - 1, by omega⟩
    have hel : l1[j]? = some l1[j] := List.getElem?_eq_getElem (by omega)
    generalize l1[j] = e at hel
    obtain ⟨a, b⟩ := e
    have hj1 : IntKind.wrap .i64 (((j + 1 : Nat) : Int) - 1) = (j : Int) := by rw [wrap_small (by omega) (by omega)]; omega
    have g3' := g3.keep kk (by simp)
    simp (maxDischargeDepth := 8) only [go_sem, reduceIte, reduceCtorEq, Nat.reduceEqDiff, Nat.reduceAdd, Nat.reduceMul, Nat.reduceSub, Nat.reduceLeDiff, Nat.reduceLT, Nat.reduceBEq, Int.reduceToNat, Int.reduceEq, Int.reduceLT, Int.reduceLE, Int.reduceAdd, Int.reduceSub, Int.reduceMul, Int.reduceNeg, hw, s1.l, g3.lv, g3.len, show decide (((j + 1 : Nat) : Int) > 0) = true from decide_eq_true (by omega), hj1, g3'.iaddrC (show j < l1.length by omega), g3'.loadC hel]
    generalize hz : RF tb f_smooth_Line _ _ = z
    obtain ⟨lv, H2, rfl, lo, lf, lk⟩ := line_of hz (by simp (maxDischargeDepth := 8) only [go_sem, reduceIte, reduceCtorEq, Nat.reduceEqDiff, Nat.reduceAdd, Nat.reduceMul, Nat.reduceSub, Nat.reduceLeDiff, Nat.reduceLT, Nat.reduceBEq, Int.reduceToNat, Int.reduceEq, Int.reduceLT, Int.reduceLE, Int.reduceAdd, Int.reduceSub, Int.reduceMul, Int.reduceNeg, hw]) (by show X.hb ≤ Hk.length; have := kk.1; omega)
    have kH2 : Keep [] H H2 := kk.trans lk
    have s2 := lo.isSl cellF_even
    have hlen : (lineP cx cy a b).length ≤ two48 := by
      have := line_le w1 w2 g1 (by omega) hel
      simp only [two48]
      omega
    rw [best_cut, hel] at hbj
    dsimp only at hbj
    simp (maxDischargeDepth := 8) only [go_sem, reduceIte, reduceCtorEq, Nat.reduceEqDiff, Nat.reduceAdd, Nat.reduceMul, Nat.reduceSub, Nat.reduceLeDiff, Nat.reduceLT, Nat.reduceBEq, Int.reduceToNat, Int.reduceEq, Int.reduceLT, Int.reduceLE, Int.reduceAdd, Int.reduceSub, Int.reduceMul, Int.reduceNeg, hw, s1.l, s2.l, g3.lv, r_class_Legal (hO.keep kH2 (by simp)).at_ hg (lo.lies cellF_even) hlen]
    cases hlg : W.legal cl sz cx cy (lineP cx cy a b) with
    | false =>
      rw [hlg] at hbj
      simp (maxDischargeDepth := 8) only [go_sem, reduceIte, reduceCtorEq, Nat.reduceEqDiff, Nat.reduceAdd, Nat.reduceMul, Nat.reduceSub, Nat.reduceLeDiff, Nat.reduceLT, Nat.reduceBEq, Int.reduceToNat, Int.reduceEq, Int.reduceLT, Int.reduceLE, Int.reduceAdd, Int.reduceSub, Int.reduceMul, Int.reduceNeg, hw, s1.l, s2.l, g3.lv, hj1]
      rw [KL_keep _ _ _ (by simp (maxDischargeDepth := 8) only [go_sem, reduceIte, reduceCtorEq, Nat.reduceEqDiff, Nat.reduceAdd, Nat.reduceMul, Nat.reduceSub, Nat.reduceLeDiff, Nat.reduceLT, Nat.reduceBEq, Int.reduceToNat, Int.reduceEq, Int.reduceLT, Int.reduceLE, Int.reduceAdd, Int.reduceSub, Int.reduceMul, Int.reduceNeg, s1.l, g3.lv])]
      simp (maxDischargeDepth := 8) only [go_sem, reduceIte, reduceCtorEq, Nat.reduceEqDiff, Nat.reduceAdd, Nat.reduceMul, Nat.reduceSub, Nat.reduceLeDiff, Nat.reduceLT, Nat.reduceBEq, Int.reduceToNat, Int.reduceEq, Int.reduceLT, Int.reduceLE, Int.reduceAdd, Int.reduceSub, Int.reduceMul, Int.reduceNeg]
      exact ih' (j, H2) ⟨by dsimp only; omega, hbj, ow.keep lk (by simp), kH2⟩ (by dsimp only; omega)
    | true =>
      rw [hlg, if_pos rfl] at hbj
      obtain rfl : j = k := by omega
      rw [b3] at hel
      cases hel
      obtain ⟨v', H3, ha, o1, k3, f3, s3⟩ := appL (ow.keep lk (by simp)) fp kH2 (lo.lies cellF_even) (by omega) X (by omega)
      have g5 := g3.keep k3 (by simp)
      have hds : sliceV 2 pv (some ((j + 1 : Nat) : Int)) none none = some (dropV 2 (j + 1) pv) := Lies.dropS g3 (by omega)
      simp (maxDischargeDepth := 8) only [go_sem, reduceIte, reduceCtorEq, Nat.reduceEqDiff, Nat.reduceAdd, Nat.reduceMul, Nat.reduceSub, Nat.reduceLeDiff, Nat.reduceLT, Nat.reduceBEq, Int.reduceToNat, Int.reduceEq, Int.reduceLT, Int.reduceLE, Int.reduceAdd, Int.reduceSub, Int.reduceMul, Int.reduceNeg, hw, s1.l, s2.l, g3.lv, hj1, ha, s3.l, g5.iaddrC (show j < l1.length by omega), g5.loadC b3, hds]
      have g6 : LiesD cellF (Hm H) (dropV 2 (j + 1) pv) (l1.drop (j + 1)) := LiesD.drop cellF_even g3 (by omega)
      rw [KL_keep _ _ _ (by simp (maxDischargeDepth := 8) only [go_sem, reduceIte, reduceCtorEq, Nat.reduceEqDiff, Nat.reduceAdd, Nat.reduceMul, Nat.reduceSub, Nat.reduceLeDiff, Nat.reduceLT, Nat.reduceBEq, Int.reduceToNat, Int.reduceEq, Int.reduceLT, Int.reduceLE, Int.reduceAdd, Int.reduceSub, Int.reduceMul, Int.reduceNeg, s3.l, g6.lv])]
      simp (maxDischargeDepth := 8) only [go_sem, reduceIte, reduceCtorEq, Nat.reduceEqDiff, Nat.reduceAdd, Nat.reduceMul, Nat.reduceSub, Nat.reduceLeDiff, Nat.reduceLT, Nat.reduceBEq, Int.reduceToNat, Int.reduceEq, Int.reduceLT, Int.reduceLE, Int.reduceAdd, Int.reduceSub, Int.reduceMul, Int.reduceNeg]
      rw [hgo, ← List.append_assoc] at g4
      refine ih (c1, c2, dropV 2 (j + 1) pv, l1.drop (j + 1), v', o ++ lineP cx cy c1 c2, H3) ⟨(legal_at l1 j cx cy c1 c2 g1 b3).1, ?_, g6, g4, o1, f3, k3⟩ ?_
      · dsimp only
        rw [List.length_append, List.length_drop]
        omega
      · dsimp only
        rw [List.length_drop]
        omega
  · have hnil : l1 = [] := List.eq_nil_of_length_eq_zero (by omega)
    subst hnil
    simp (maxDischargeDepth := 8) only [go_sem, reduceIte, reduceCtorEq, Nat.reduceEqDiff, Nat.reduceAdd, Nat.reduceMul, Nat.reduceSub, Nat.reduceLeDiff, Nat.reduceLT, Nat.reduceBEq, Int.reduceToNat, Int.reduceEq, Int.reduceLT, Int.reduceLE, Int.reduceAdd, Int.reduceSub, Int.reduceMul, Int.reduceNeg, hw, s1.l, g3.lv, g3.len, show decide ((0 : Int) > 0) = false from rfl]
    have g4 : W.smGo cl sz l.length x y l = o := by rw [g4]; exact List.append_nil _
    rw [g4]
    refine ⟨ov, _, rfl, ow.congr fun i hi => fin_keep1 (.inr ?_), fp, ?_⟩
    · have := fp i hi
      rw [hx_fp hi]
      omega
    · rw [← hH] at kk ⊢
      exact kk.back1
theorem smooth_of {X : Mem} {p : WP} {W : Wd} {v : SV} {l : List (Int × Int)} {cl sz x y : Int} {z : Option (SV × Mem)} (hz : RF tb f_smooth_Smooth [.ptr (.hp p.k 0) 0, .agg [.int .i64 cl, .int .i64 sz], cellV x y, v] X = z) (hO : WorldOwn X.heap p W) (hg : W.Good) (hl : LiesD cellF (Hm X.heap) v l) (hw : X.Wf) (hhb : X.hb ≤ X.hl) :
    ∃ v' H' e, z = some (.tup [v', .int .i64 e], X.hp H') ∧ e = (if W.smOk cl sz x y l then 0 else 1) ∧ Own cellF H' v' (if W.smOk cl sz x y l then W.smGo cl sz l.length x y l else []) ∧ (∀ i ∈ slFp v', X.heap.length ≤ i) ∧ Keep [] X.heap H' := by
  rw [← hz]
  cases hn : W.smOk cl sz x y l with
  | false =>
    obtain ⟨H', h1, h2⟩ := r_smooth_Smooth_no hO.at_ hg hl hw cl sz x y hn
    exact ⟨.nils, H', 1, h1, rfl, Own.nil _, by simp [slFp], h2⟩
  | true =>
    obtain ⟨v', H', h1, h2, h3, h4⟩ := r_smooth_Smooth hO hg hl hw hhb cl sz x y hn
    exact ⟨v', H', 0, h1, rfl, h2, h3, h4⟩
theorem q33a : (Wd.plain 3 3).smOk 0 1 0 0 [(1, 0), (1, 1)] = true := by decide +kernel
theorem q33b : (Wd.plain 3 3).smGo 0 1 2 0 0 [(1, 0), (1, 1)] = [(1, 1)] := by decide +kernel
theorem q33c : lineP 0 0 2 0 = [(1, 0), (2, 0)] := by decide +kernel
theorem r_law15_awake (X : Mem) (hw : X.Wf) (hhb : X.hb ≤ X.hl) : ∃ H' u, RF tb f_law15_awake [] X = some (.bool true, (X.hp H').es (escMin X.esc u)) ∧ Keep [] X.heap H' := by
  rw [RF_go t_law15_awake _ _ rfl, push_hp]
  generalize hH : X.heap = H
  have hHl : X.hl = H.length := by rw [← hH]; rfl
  obtain ⟨H1, hH1⟩ : ∃ H1, H ++ [(0, SBk.cells true (List.replicate 9 [SV.int IntKind.u8 0]).flatten)] = H1 := ⟨_, rfl⟩
  have own : Own byteF H1 (.sl (.hp H.length 0) 0 9 (some 9) 1) (List.replicate 9 0) := by rw [← hH1]; exact mkslV_own byteF_even H 0 9
  have k1 : Keep [] H H1 := by rw [← hH1]; exact Keep.app _ _ _
  have hn := r_grid_New (X := (X.hp H1).fr [] none) (bl := []) (own.lies byteF_even) (LiesD.nil bldF _) (by decide) (fr_wf (hp_wf hw) _ _) (by show X.hb ≤ H1.length; have := k1.1; omega) 3 3
  rw [plain33] at hn
  obtain ⟨H2, u, p, h1, hO, k2, hF⟩ := hn
  change Keep [] H1 H2 at k2
  have hg := plain_good 3 3
  obtain ⟨H3, hH3⟩ : ∃ H3, H2 ++ [(0, SBk.cells true [.int .i64 1, .int .i64 0, .int .i64 1, .int .i64 1])] = H3 := ⟨_, rfl⟩
  have k3 : Keep [] H2 H3 := by rw [← hH3]; exact Keep.app _ _ _
  have hl3 : LiesD cellF (Hm H3) (.sl (.hp H2.length 0) 0 2 (some 2) 2) [(1, 0), (1, 1)] := by rw [← hH3]; exact (own_new cellF_even H2 [(1, 0), (1, 1)] (some 2)).lies cellF_even
  simp (maxDischargeDepth := 8) only [go_sem, reduceIte, reduceCtorEq, Nat.reduceEqDiff, Nat.reduceAdd, Nat.reduceMul, Nat.reduceSub, Nat.reduceLeDiff, Nat.reduceLT, Nat.reduceBEq, Int.reduceToNat, Int.reduceEq, Int.reduceLT, Int.reduceLE, Int.reduceAdd, Int.reduceSub, Int.reduceMul, Int.reduceNeg, s_law15_awake, hw, hH, show (9 : Int) ≤ (two48 : Int) from by decide, hH1, h1, hH3]
  generalize hz : RF tb f_smooth_Smooth _ _ = z
  obtain ⟨v', H4, e, rfl, he, o4, f4, k4⟩ := smooth_of hz (hO.keep k3 (by simp)) hg hl3 (by simp (maxDischargeDepth := 8) only [go_sem, reduceIte, reduceCtorEq, Nat.reduceEqDiff, Nat.reduceAdd, Nat.reduceMul, Nat.reduceSub, Nat.reduceLeDiff, Nat.reduceLT, Nat.reduceBEq, Int.reduceToNat, Int.reduceEq, Int.reduceLT, Int.reduceLE, Int.reduceAdd, Int.reduceSub, Int.reduceMul, Int.reduceNeg, hw]) (by show X.hb ≤ H3.length; have := k1.1; have := k2.1; have := k3.1; omega)
  change Keep [] H3 H4 at k4
  rw [q33a, if_pos rfl] at he o4
  rw [show ([((1 : Int), (0 : Int)), (1, 1)]).length = 2 from rfl, q33b] at o4
  subst he
  have s4 := o4.isSl cellF_even
  have l4 := o4.lies cellF_even
  simp (maxDischargeDepth := 8) only [go_sem, reduceIte, reduceCtorEq, Nat.reduceEqDiff, Nat.reduceAdd, Nat.reduceMul, Nat.reduceSub, Nat.reduceLeDiff, Nat.reduceLT, Nat.reduceBEq, Int.reduceToNat, Int.reduceEq, Int.reduceLT, Int.reduceLE, Int.reduceAdd, Int.reduceSub, Int.reduceMul, Int.reduceNeg, hw, s4.l, l4.len]
  generalize hz : RF tb f_smooth_Line _ _ = z
  obtain ⟨v5, H5, rfl, o5, f5, k5⟩ := line_of hz (by simp (maxDischargeDepth := 8) only [go_sem, reduceIte, reduceCtorEq, Nat.reduceEqDiff, Nat.reduceAdd, Nat.reduceMul, Nat.reduceSub, Nat.reduceLeDiff, Nat.reduceLT, Nat.reduceBEq, Int.reduceToNat, Int.reduceEq, Int.reduceLT, Int.reduceLE, Int.reduceAdd, Int.reduceSub, Int.reduceMul, Int.reduceNeg, hw]) (by show X.hb ≤ H4.length; have := k1.1; have := k2.1; have := k3.1; have := k4.1; omega)
  change Keep [] H4 H5 at k5
  rw [q33c] at o5
  have l5 := o5.lies cellF_even
  simp (maxDischargeDepth := 8) only [go_sem, reduceIte, reduceCtorEq, Nat.reduceEqDiff, Nat.reduceAdd, Nat.reduceMul, Nat.reduceSub, Nat.reduceLeDiff, Nat.reduceLT, Nat.reduceBEq, Int.reduceToNat, Int.reduceEq, Int.reduceLT, Int.reduceLE, Int.reduceAdd, Int.reduceSub, Int.reduceMul, Int.reduceNeg, hw, l5.len]
  exact ⟨_, _, rfl, by rw [← hH] at k1 ⊢; exact (k1.trans (k2.trans (k3.trans (k4.trans k5)))).back0⟩
theorem aw15 {X : Mem} {z : Option (SV × Mem)} (hz : RF tb f_law15_awake [] X = z) (hw : X.Wf) (hhb : X.hb ≤ X.hl) : ∃ H' u, z = some (.bool true, (X.hp H').es (escMin X.esc u)) ∧ Keep [] X.heap H' := by
  rw [← hz]
  exact r_law15_awake X hw hhb
theorem r_law15_SmoothTurns {X : Mem} {v : SV} {l : List (Int × Int)} (hl : LiesD cellF (Hm X.heap) v l) (hlb : 2 * l.length * 16 ≤ two48) (hw : X.Wf) (hhb : X.hb ≤ X.hl) (x y : Int) : ∃ m', RF tb f_law15_SmoothTurns [cellV x y, v] X = some (.bool true, m') := by
  rw [RF_go t_law15_SmoothTurns _ _ rfl, push_hp]
  generalize hH : X.heap = H at *
  have hHl : X.hl = H.length := by rw [← hH]; rfl
  simp (maxDischargeDepth := 8) only [go_sem, reduceIte, reduceCtorEq, Nat.reduceEqDiff, Nat.reduceAdd, Nat.reduceMul, Nat.reduceSub, Nat.reduceLeDiff, Nat.reduceLT, Nat.reduceBEq, Int.reduceToNat, Int.reduceEq, Int.reduceLT, Int.reduceLE, Int.reduceAdd, Int.reduceSub, Int.reduceMul, Int.reduceNeg, s_law15_SmoothTurns, cellV, hw, hH, hl.cell]
  obtain ⟨v', H2, ha, o1, k2, o3, s1⟩ := copyC hl hlb X (by omega) (fun b => decide ¬Bk.st X.dep 0 = b) (by simp)
  simp (maxDischargeDepth := 8) only [go_sem, reduceIte, reduceCtorEq, Nat.reduceEqDiff, Nat.reduceAdd, Nat.reduceMul, Nat.reduceSub, Nat.reduceLeDiff, Nat.reduceLT, Nat.reduceBEq, Int.reduceToNat, Int.reduceEq, Int.reduceLT, Int.reduceLE, Int.reduceAdd, Int.reduceSub, Int.reduceMul, Int.reduceNeg, hw, ha, r_smooth_Turns (o1.lies cellF_even) (show l.length ≤ two48 by simp only [two48] at *; omega), r_ref11_Turns (hl.keep k2 (by simp)) (show l.length ≤ two48 by simp only [two48] at *; omega)]
  generalize hz : RF tb f_law15_awake _ _ = z
  obtain ⟨H', u, rfl, -⟩ := aw15 hz (by simp (maxDischargeDepth := 8) only [go_sem, reduceIte, reduceCtorEq, Nat.reduceEqDiff, Nat.reduceAdd, Nat.reduceMul, Nat.reduceSub, Nat.reduceLeDiff, Nat.reduceLT, Nat.reduceBEq, Int.reduceToNat, Int.reduceEq, Int.reduceLT, Int.reduceLE, Int.reduceAdd, Int.reduceSub, Int.reduceMul, Int.reduceNeg, hw]) (by show X.hb ≤ H2.length; have := k2.1; omega)
  simp (maxDischargeDepth := 8) only [go_sem, reduceIte, reduceCtorEq, Nat.reduceEqDiff, Nat.reduceAdd, Nat.reduceMul, Nat.reduceSub, Nat.reduceLeDiff, Nat.reduceLT, Nat.reduceBEq, Int.reduceToNat, Int.reduceEq, Int.reduceLT, Int.reduceLE, Int.reduceAdd, Int.reduceSub, Int.reduceMul, Int.reduceNeg, hw]
  exact ⟨_, rfl⟩
theorem law15_SmoothTurns {P : Program} {e : TypeId} {okC : Int × Int → Prop} (c : Int × Int) (s : Sl (Int × Int)) (hok : slOk P e okC s) (h16 : P.bytesOf e = 16) {n0 n1 : In} (e1 : n1.map (·.2) = slB cellF s) : ∃ m', RF tb f_law15_SmoothTurns [.agg [.int .i64 c.1, .int .i64 c.2], slV cellF s ([] ++ n0).length] (In.mem ([] ++ n0 ++ n1)) = some (.bool true, m') := by
  have hl := sl_inG cellF_even hok (pre := [] ++ n0) (post := []) (A := []) (B := []) (by simpa using e1)
  rw [List.append_nil] at hl
  exact r_law15_SmoothTurns (X := In.mem ([] ++ n0 ++ n1)) hl (sl_bd hok h16) (In.wf _) (Nat.zero_le _) _ _
end Go.Sh.T
