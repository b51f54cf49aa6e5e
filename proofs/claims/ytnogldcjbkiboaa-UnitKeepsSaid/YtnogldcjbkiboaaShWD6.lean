import Derived.Test.YtnogldcjbkiboaaShWD5
set_option linter.all false
set_option linter.unusedVariables false
set_option linter.unusedSimpArgs false
set_option autoImplicit false
namespace Go.Sh.T
open Go.Sh
set_option maxHeartbeats 8000000
set_option maxRecDepth 20000
theorem cells_clone (h : Nat) (v : SV) (n z : Nat) : SV.cells (cloneV h v n z) = [cloneV h v n z] := by
  cases v <;> first | rfl | (simp only [cloneV]; split <;> rfl)
theorem cell_clone (d i h : Nat) (v : SV) (n z : Nat) : SV.cell d i (cloneV h v n z) = true := by
  cases v <;> first | rfl | (simp only [cloneV]; split <;> rfl)
theorem lv_clone (d i h : Nat) (v : SV) (n z : Nat) : SV.lv d i (cloneV h v n z) = true := by
  cases v <;> first | rfl | (simp only [cloneV]; split <;> rfl)
theorem clone_back (X : Mem) (v : SV) (n z : Nat) (cs : List SV) : (if (cloneV X.hl v n z).hx ≤ X.hl then X else X.hap (cloneL v n cs)) = X.hap (cloneL v n cs) := by
  have key : ∀ u, (u = .nils ∧ cloneV X.hl v n z = u ∧ cloneL v n cs = []) ∨ (¬ (cloneV X.hl v n z).hx ≤ X.hl) → (if (cloneV X.hl v n z).hx ≤ X.hl then X else X.hap (cloneL v n cs)) = X.hap (cloneL v n cs) := by
    intro u hu
    rcases hu with ⟨rfl, h1, h2⟩ | h
    · rw [h2, hap_nil]; split <;> rfl
    · rw [if_neg h]
  have no : ∀ w : SV, (w = (if n = 0 then SV.sl (.hp X.hl 0) 0 0 (some 0) z else .sl (.hp (X.hl + 1) 0) 0 n none z)) → ¬ w.hx ≤ X.hl := by
    intro w hw
    subst hw
    split <;> simp only [SV.hx, hx_hp] <;> omega
  cases v <;> first | exact key .nils (.inl ⟨rfl, rfl, rfl⟩) | exact key .nils (.inr (no _ rfl))
abbrev zeroU : SV := unitV 0 0 0 0 0 0 0 0 0 .nils 0
def giveB (id pl cl sz ax ay ph gx gy wt : Int) (l k : List (Int × Int)) : Bool := decide (ph = 2) && mayU id pl cl sz ax ay ph gx gy wt l && mayU id pl cl sz ax ay 1 gx gy wt k
theorem errI_eq (b : Bool) : (errI b != 0) = !b := by cases b <;> rfl
theorem errI_eq' (b : Bool) : (errI b == 0) = b := by cases b <;> rfl
theorem r_unit_Give {m : Mem} {p v : SV} {l k : List (Int × Int)} (hp : LiesD cellF m p l) (hb : 2 * l.length * 16 ≤ two48) (hv : LiesD cellF m v k) (hb' : 2 * k.length * 16 ≤ two48) {X : Mem} (hX : HpSub m X) (hw : X.Wf) (id pl cl sz ax ay ph gx gy wt : Int) :
    RF tb f_unit_Give [unitV id pl cl sz ax ay ph gx gy p wt, v] X = if giveB id pl cl sz ax ay ph gx gy wt l k then some (.tup [unitV id pl cl sz ax ay 1 gx gy (cloneV X.hl v k.length 2) wt, .int .i64 0], X.hap (cloneL v k.length (k.flatMap cellF.enc))) else some (.tup [zeroU, .int .i64 1], X) := by
  rw [RF_go t_unit_Give _ _ rfl]
  simp (maxDischargeDepth := 8) only [go_sem, reduceIte, reduceCtorEq, Nat.reduceEqDiff, Nat.reduceAdd, Nat.reduceMul, Nat.reduceSub, Nat.reduceLeDiff, Nat.reduceLT, Nat.reduceBEq, Int.reduceToNat, Int.reduceEq, Int.reduceLT, Int.reduceLE, Int.reduceAdd, Int.reduceSub, Int.reduceMul, Int.reduceNeg, s_unit_Give, hw, unitV, hp.cell, r_unit_Check hp hb, hX, errI_eq]
  cases h1 : mayU id pl cl sz ax ay ph gx gy wt l with
  | false =>
    rw [if_neg (by simp [giveB, h1])]
    simp (maxDischargeDepth := 8) only [go_sem, reduceIte, reduceCtorEq, Nat.reduceEqDiff, Nat.reduceAdd, Nat.reduceMul, Nat.reduceSub, Nat.reduceLeDiff, Nat.reduceLT, Nat.reduceBEq, Int.reduceToNat, Int.reduceEq, Int.reduceLT, Int.reduceLE, Int.reduceAdd, Int.reduceSub, Int.reduceMul, Int.reduceNeg, hw]
  | true =>
    simp (maxDischargeDepth := 8) only [go_sem, reduceIte, reduceCtorEq, Nat.reduceEqDiff, Nat.reduceAdd, Nat.reduceMul, Nat.reduceSub, Nat.reduceLeDiff, Nat.reduceLT, Nat.reduceBEq, Int.reduceToNat, Int.reduceEq, Int.reduceLT, Int.reduceLE, Int.reduceAdd, Int.reduceSub, Int.reduceMul, Int.reduceNeg, hw, hp.cell]
    cases h2 : decide (ph = 2) with
    | false =>
      rw [if_neg (by simp [giveB, h2])]
      simp (maxDischargeDepth := 8) only [go_sem, reduceIte, reduceCtorEq, Nat.reduceEqDiff, Nat.reduceAdd, Nat.reduceMul, Nat.reduceSub, Nat.reduceLeDiff, Nat.reduceLT, Nat.reduceBEq, Int.reduceToNat, Int.reduceEq, Int.reduceLT, Int.reduceLE, Int.reduceAdd, Int.reduceSub, Int.reduceMul, Int.reduceNeg, show (ph != 2) = true by simpa using h2, hw]
    | true =>
      have hq := cloneL_lies (hv.sub hX)
      simp (maxDischargeDepth := 8) only [go_sem, reduceIte, reduceCtorEq, Nat.reduceEqDiff, Nat.reduceAdd, Nat.reduceMul, Nat.reduceSub, Nat.reduceLeDiff, Nat.reduceLT, Nat.reduceBEq, Int.reduceToNat, Int.reduceEq, Int.reduceLT, Int.reduceLE, Int.reduceAdd, Int.reduceSub, Int.reduceMul, Int.reduceNeg, show (ph != 2) = false by simpa using h2, hw, hp.cell, r_slices_Clone_api_Cell_api_Cell hv hb', hX, cells_clone, cell_clone, lv_clone]
      have hsub : HpSub (X.hap (cloneL v k.length (k.flatMap cellF.enc))) (X.hap (cloneL v k.length (k.flatMap cellF.enc))) := hpsub_refl _
      simp (maxDischargeDepth := 8) only [go_sem, reduceIte, reduceCtorEq, Nat.reduceEqDiff, Nat.reduceAdd, Nat.reduceMul, Nat.reduceSub, Nat.reduceLeDiff, Nat.reduceLT, Nat.reduceBEq, Int.reduceToNat, Int.reduceEq, Int.reduceLT, Int.reduceLE, Int.reduceAdd, Int.reduceSub, Int.reduceMul, Int.reduceNeg, hw, r_unit_Check hq hb', errI_eq]
      cases h3 : mayU id pl cl sz ax ay 1 gx gy wt k with
      | false =>
        rw [if_neg (by simp [giveB, h3])]
        simp (maxDischargeDepth := 8) only [go_sem, reduceIte, reduceCtorEq, Nat.reduceEqDiff, Nat.reduceAdd, Nat.reduceMul, Nat.reduceSub, Nat.reduceLeDiff, Nat.reduceLT, Nat.reduceBEq, Int.reduceToNat, Int.reduceEq, Int.reduceLT, Int.reduceLE, Int.reduceAdd, Int.reduceSub, Int.reduceMul, Int.reduceNeg, hw]
      | true =>
        rw [if_pos (by simp [giveB, h1, h2, h3])]
        simp (maxDischargeDepth := 8) only [go_sem, reduceIte, reduceCtorEq, Nat.reduceEqDiff, Nat.reduceAdd, Nat.reduceMul, Nat.reduceSub, Nat.reduceLeDiff, Nat.reduceLT, Nat.reduceBEq, Int.reduceToNat, Int.reduceEq, Int.reduceLT, Int.reduceLE, Int.reduceAdd, Int.reduceSub, Int.reduceMul, Int.reduceNeg, hw, cells_clone, cell_clone, lv_clone, clone_back]
theorem r_ref21_Give {m : Mem} {p v : SV} {l k : List (Int × Int)} (hp : LiesD cellF m p l) (hb : 2 * l.length * 16 ≤ two48) (hv : LiesD cellF m v k) (hb' : 2 * k.length * 16 ≤ two48) {X : Mem} (hX : HpSub m X) (hw : X.Wf) (id pl cl sz ax ay ph gx gy wt : Int) :
    RF tb f_ref21_Give [unitV id pl cl sz ax ay ph gx gy p wt, v] X = if giveB id pl cl sz ax ay ph gx gy wt l k then some (.tup [unitV id pl cl sz ax ay 1 gx gy (copyV X.hl k.length 2) wt, .int .i64 0], X.hap (copyL k.length (k.flatMap cellF.enc))) else some (.tup [zeroU, .int .i64 1], X) := by
  rw [RF_go t_ref21_Give _ _ rfl]
  simp (maxDischargeDepth := 8) only [go_sem, reduceIte, reduceCtorEq, Nat.reduceEqDiff, Nat.reduceAdd, Nat.reduceMul, Nat.reduceSub, Nat.reduceLeDiff, Nat.reduceLT, Nat.reduceBEq, Int.reduceToNat, Int.reduceEq, Int.reduceLT, Int.reduceLE, Int.reduceAdd, Int.reduceSub, Int.reduceMul, Int.reduceNeg, s_ref21_Give, hw, unitV, hp.cell, r_ref21_May hp hb, hX]
  cases h1 : mayU id pl cl sz ax ay ph gx gy wt l with
  | false =>
    rw [if_neg (by simp [giveB, h1])]
    simp (maxDischargeDepth := 8) only [go_sem, reduceIte, reduceCtorEq, Nat.reduceEqDiff, Nat.reduceAdd, Nat.reduceMul, Nat.reduceSub, Nat.reduceLeDiff, Nat.reduceLT, Nat.reduceBEq, Int.reduceToNat, Int.reduceEq, Int.reduceLT, Int.reduceLE, Int.reduceAdd, Int.reduceSub, Int.reduceMul, Int.reduceNeg, hw]
  | true =>
    simp (maxDischargeDepth := 8) only [go_sem, reduceIte, reduceCtorEq, Nat.reduceEqDiff, Nat.reduceAdd, Nat.reduceMul, Nat.reduceSub, Nat.reduceLeDiff, Nat.reduceLT, Nat.reduceBEq, Int.reduceToNat, Int.reduceEq, Int.reduceLT, Int.reduceLE, Int.reduceAdd, Int.reduceSub, Int.reduceMul, Int.reduceNeg, hw, hp.cell]
    cases h2 : decide (ph = 2) with
    | false =>
      rw [if_neg (by simp [giveB, h2])]
      simp (maxDischargeDepth := 8) only [go_sem, reduceIte, reduceCtorEq, Nat.reduceEqDiff, Nat.reduceAdd, Nat.reduceMul, Nat.reduceSub, Nat.reduceLeDiff, Nat.reduceLT, Nat.reduceBEq, Int.reduceToNat, Int.reduceEq, Int.reduceLT, Int.reduceLE, Int.reduceAdd, Int.reduceSub, Int.reduceMul, Int.reduceNeg, show (ph != 2) = true by simpa using h2, hw]
    | true =>
      have hq := copy_liesC k X
      simp (maxDischargeDepth := 8) only [go_sem, reduceIte, reduceCtorEq, Nat.reduceEqDiff, Nat.reduceAdd, Nat.reduceMul, Nat.reduceSub, Nat.reduceLeDiff, Nat.reduceLT, Nat.reduceBEq, Int.reduceToNat, Int.reduceEq, Int.reduceLT, Int.reduceLE, Int.reduceAdd, Int.reduceSub, Int.reduceMul, Int.reduceNeg, show (ph != 2) = false by simpa using h2, hw, hp.cell, List.replicate, List.flatten_nil, app_copyC hv hb', hX]
      simp (maxDischargeDepth := 8) only [go_sem, reduceIte, reduceCtorEq, Nat.reduceEqDiff, Nat.reduceAdd, Nat.reduceMul, Nat.reduceSub, Nat.reduceLeDiff, Nat.reduceLT, Nat.reduceBEq, Int.reduceToNat, Int.reduceEq, Int.reduceLT, Int.reduceLE, Int.reduceAdd, Int.reduceSub, Int.reduceMul, Int.reduceNeg, hw, r_ref21_May hq hb']
      cases h3 : mayU id pl cl sz ax ay 1 gx gy wt k with
      | false =>
        rw [if_neg (by simp [giveB, h3])]
        simp (maxDischargeDepth := 8) only [go_sem, reduceIte, reduceCtorEq, Nat.reduceEqDiff, Nat.reduceAdd, Nat.reduceMul, Nat.reduceSub, Nat.reduceLeDiff, Nat.reduceLT, Nat.reduceBEq, Int.reduceToNat, Int.reduceEq, Int.reduceLT, Int.reduceLE, Int.reduceAdd, Int.reduceSub, Int.reduceMul, Int.reduceNeg, hw]
      | true =>
        rw [if_pos (by simp [giveB, h1, h2, h3])]
        simp (maxDischargeDepth := 8) only [go_sem, reduceIte, reduceCtorEq, Nat.reduceEqDiff, Nat.reduceAdd, Nat.reduceMul, Nat.reduceSub, Nat.reduceLeDiff, Nat.reduceLT, Nat.reduceBEq, Int.reduceToNat, Int.reduceEq, Int.reduceLT, Int.reduceLE, Int.reduceAdd, Int.reduceSub, Int.reduceMul, Int.reduceNeg, hw]
end Go.Sh.T
