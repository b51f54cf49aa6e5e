import Derived.Test.YtkfgphiegkdohaaShWClassStandsa
import Derived.Test.YtkfgphiegkdohaaShArg
set_option linter.all false
set_option linter.unusedVariables false
set_option linter.unusedSimpArgs false
set_option autoImplicit false
namespace Go.Sh.T
open Go.Sh
set_option maxHeartbeats 8000000
set_option maxRecDepth 20000
theorem r_ref06_Stands {m : Mem} {p : QP} {W : Wd} {bl : List Bld} (hV : RefAt m p W bl) (ho : ∀ a b, (atL bl a b).isSome = (atL W.bl a b).isSome) (hg : W.Good) {X : Mem} (hX : HpSub m X) (hw : X.Wf) (cl sz x y : Int) : RF tb f_ref06_Stands [.ptr (.hp p.k 0) 0, .agg [.int .i64 cl, .int .i64 sz], .agg [.int .i64 x, .int .i64 y]] X = some (.bool (W.stands cl sz x y), X) := by
  rw [RF_go t_ref06_Stands _ _ rfl]
  simp (maxDischargeDepth := 8) only [go_sem, reduceIte, reduceCtorEq, Nat.reduceEqDiff, Nat.reduceAdd, Nat.reduceMul, Nat.reduceSub, Nat.reduceLeDiff, Nat.reduceLT, Nat.reduceBEq, Int.reduceToNat, Int.reduceEq, Int.reduceLT, Int.reduceLE, Int.reduceAdd, Int.reduceSub, Int.reduceMul, Int.reduceNeg, s_ref06_Stands, hw, hX, r_ref06_Foot]
  unfold Wd.stands
  generalize footR cl sz x y = r
  obtain ⟨rx, ry, rw', rh⟩ := r
  simp (maxDischargeDepth := 8) only [go_sem, reduceIte, reduceCtorEq, Nat.reduceEqDiff, Nat.reduceAdd, Nat.reduceMul, Nat.reduceSub, Nat.reduceLeDiff, Nat.reduceLT, Nat.reduceBEq, Int.reduceToNat, Int.reduceEq, Int.reduceLT, Int.reduceLE, Int.reduceAdd, Int.reduceSub, Int.reduceMul, Int.reduceNeg, hw, hX, r_ref04_All hV, r_ref03_Within]
  cases h1 : withinB rx ry rw' rh 0 0 W.w W.h with
  | false => simp (maxDischargeDepth := 8) only [go_sem, reduceIte, reduceCtorEq, Nat.reduceEqDiff, Nat.reduceAdd, Nat.reduceMul, Nat.reduceSub, Nat.reduceLeDiff, Nat.reduceLT, Nat.reduceBEq, Int.reduceToNat, Int.reduceEq, Int.reduceLT, Int.reduceLE, Int.reduceAdd, Int.reduceSub, Int.reduceMul, Int.reduceNeg, hw]
  | true =>
    have hmay : mayB rx ry rw' rh = true := by simp only [withinB, Bool.and_eq_true] at h1; exact h1.1.1
    have hmi := may_in hmay
    have hms := may_sides hmay
    have hbad : ∀ a b, hasB rx ry rw' rh a b = true → W.free cl a b = false → (!(cellsP rx ry rw' rh).any fun c => !W.free cl c.1 c.2) = false := by
      intro a b hh hf
      have : (cellsP rx ry rw' rh).any (fun c => !W.free cl c.1 c.2) = true := List.any_eq_true.2 ⟨(a, b), cellsP_mem.2 hh, by simp [hf]⟩
      rw [this]; rfl
    have hall : (∀ a b, hasB rx ry rw' rh a b = true → W.free cl a b = true) → (!(cellsP rx ry rw' rh).any fun c => !W.free cl c.1 c.2) = true := by
      intro h
      have : (cellsP rx ry rw' rh).any (fun c => !W.free cl c.1 c.2) = false := by
        rw [List.any_eq_false]
        rintro ⟨a, b⟩ hc
        simp [h a b (cellsP_mem.1 hc)]
      rw [this]; rfl
    have hwy : IntKind.wrap .i64 (ry + rh) = ry + rh := wrap_small (by omega) (by omega)
    have hwx : IntKind.wrap .i64 (rx + rw') = rx + rw' := wrap_small (by omega) (by omega)
    simp (maxDischargeDepth := 8) only [go_sem, reduceIte, reduceCtorEq, Nat.reduceEqDiff, Nat.reduceAdd, Nat.reduceMul, Nat.reduceSub, Nat.reduceLeDiff, Nat.reduceLT, Nat.reduceBEq, Int.reduceToNat, Int.reduceEq, Int.reduceLT, Int.reduceLE, Int.reduceAdd, Int.reduceSub, Int.reduceMul, Int.reduceNeg, hw]
    rw [KL_keep _ _ _ (by simp (maxDischargeDepth := 8) only [go_sem, reduceIte, reduceCtorEq, Nat.reduceEqDiff, Nat.reduceAdd, Nat.reduceMul, Nat.reduceSub, Nat.reduceLeDiff, Nat.reduceLT, Nat.reduceBEq, Int.reduceToNat, Int.reduceEq, Int.reduceLT, Int.reduceLE, Int.reduceAdd, Int.reduceSub, Int.reduceMul, Int.reduceNeg])]
    simp (maxDischargeDepth := 8) only [go_sem, reduceIte, reduceCtorEq, Nat.reduceEqDiff, Nat.reduceAdd, Nat.reduceMul, Nat.reduceSub, Nat.reduceLeDiff, Nat.reduceLT, Nat.reduceBEq, Int.reduceToNat, Int.reduceEq, Int.reduceLT, Int.reduceLE, Int.reduceAdd, Int.reduceSub, Int.reduceMul, Int.reduceNeg]
    refine KL_indE (α := Int) (fun b => (ry + rh - b).toNat) (fun b => [(0, .ptr (.hp p.k 0) 0), (4, .ptr (.st X.dep 0) 0), (7, .ptr (.st X.dep 2) 0), (8, .int .i64 b)]) (fun _ => X.fr [.cells true [.int .i64 cl, .int .i64 sz], .cells true [.int .i64 x, .int .i64 y], .cells true [.int .i64 rx, .int .i64 ry, .int .i64 rw', .int .i64 rh]] none)
      (fun b => ry ≤ b ∧ b ≤ ry + rh ∧ ∀ a c, hasB rx ry rw' rh a c = true → c < b → W.free cl a c = true) ?_ ry ⟨Int.le_refl _, by omega, fun a c h h' => by have := has_iff.1 h; omega⟩
    rintro b ⟨hb1, hb2, hbI⟩ ih
    simp (maxDischargeDepth := 8) only [go_sem, reduceIte, reduceCtorEq, Nat.reduceEqDiff, Nat.reduceAdd, Nat.reduceMul, Nat.reduceSub, Nat.reduceLeDiff, Nat.reduceLT, Nat.reduceBEq, Int.reduceToNat, Int.reduceEq, Int.reduceLT, Int.reduceLE, Int.reduceAdd, Int.reduceSub, Int.reduceMul, Int.reduceNeg, hw, hwy]
    by_cases hlt : b < ry + rh
    · simp (maxDischargeDepth := 8) only [go_sem, reduceIte, reduceCtorEq, Nat.reduceEqDiff, Nat.reduceAdd, Nat.reduceMul, Nat.reduceSub, Nat.reduceLeDiff, Nat.reduceLT, Nat.reduceBEq, Int.reduceToNat, Int.reduceEq, Int.reduceLT, Int.reduceLE, Int.reduceAdd, Int.reduceSub, Int.reduceMul, Int.reduceNeg, show decide (b < ry + rh) = true from decide_eq_true hlt, hw]
      rw [KL_keep _ _ _ (by simp (maxDischargeDepth := 8) only [go_sem, reduceIte, reduceCtorEq, Nat.reduceEqDiff, Nat.reduceAdd, Nat.reduceMul, Nat.reduceSub, Nat.reduceLeDiff, Nat.reduceLT, Nat.reduceBEq, Int.reduceToNat, Int.reduceEq, Int.reduceLT, Int.reduceLE, Int.reduceAdd, Int.reduceSub, Int.reduceMul, Int.reduceNeg])]
      simp (maxDischargeDepth := 8) only [go_sem, reduceIte, reduceCtorEq, Nat.reduceEqDiff, Nat.reduceAdd, Nat.reduceMul, Nat.reduceSub, Nat.reduceLeDiff, Nat.reduceLT, Nat.reduceBEq, Int.reduceToNat, Int.reduceEq, Int.reduceLT, Int.reduceLE, Int.reduceAdd, Int.reduceSub, Int.reduceMul, Int.reduceNeg]
      refine KL_indE (α := Int) (fun a => (rx + rw' - a).toNat) (fun a => [(0, .ptr (.hp p.k 0) 0), (4, .ptr (.st X.dep 0) 0), (7, .ptr (.st X.dep 2) 0), (8, .int .i64 b), (9, .int .i64 a)]) (fun _ => X.fr [.cells true [.int .i64 cl, .int .i64 sz], .cells true [.int .i64 x, .int .i64 y], .cells true [.int .i64 rx, .int .i64 ry, .int .i64 rw', .int .i64 rh]] none)
        (fun a => rx ≤ a ∧ a ≤ rx + rw' ∧ ∀ d, hasB rx ry rw' rh d b = true → d < a → W.free cl d b = true) ?_ rx ⟨Int.le_refl _, by omega, fun d h h' => by have := has_iff.1 h; omega⟩
      rintro a ⟨ha1, ha2, haI⟩ ih'
      simp (maxDischargeDepth := 8) only [go_sem, reduceIte, reduceCtorEq, Nat.reduceEqDiff, Nat.reduceAdd, Nat.reduceMul, Nat.reduceSub, Nat.reduceLeDiff, Nat.reduceLT, Nat.reduceBEq, Int.reduceToNat, Int.reduceEq, Int.reduceLT, Int.reduceLE, Int.reduceAdd, Int.reduceSub, Int.reduceMul, Int.reduceNeg, hw, hwx]
      by_cases hlt' : a < rx + rw'
      · have hab : hasB rx ry rw' rh a b = true := has_iff.2 ⟨hmay, by omega⟩
        simp (maxDischargeDepth := 8) only [go_sem, reduceIte, reduceCtorEq, Nat.reduceEqDiff, Nat.reduceAdd, Nat.reduceMul, Nat.reduceSub, Nat.reduceLeDiff, Nat.reduceLT, Nat.reduceBEq, Int.reduceToNat, Int.reduceEq, Int.reduceLT, Int.reduceLE, Int.reduceAdd, Int.reduceSub, Int.reduceMul, Int.reduceNeg, show decide (a < rx + rw') = true from decide_eq_true hlt', hw, hX, r_ref04_Terrain hV hg, r_ref04_At hV]
        have hwb : IntKind.wrap .i64 (a + 1) = a + 1 := wrap_small (by omega) (by omega)
        have hnext : W.free cl a b = true → ∀ d, hasB rx ry rw' rh d b = true → d < a + 1 → W.free cl d b = true := by
          intro hf d hd hlt
          by_cases e : d = a
          · subst e; exact hf
          · exact haI d hd (by omega)
        have h2' := ho a b
        cases h2 : (atL bl a b).isSome with
        | true =>
          rw [h2] at h2'
          have h3 : W.free cl a b = false := by unfold Wd.free; rw [← h2']; rfl
          simp (maxDischargeDepth := 8) only [go_sem, reduceIte, reduceCtorEq, Nat.reduceEqDiff, Nat.reduceAdd, Nat.reduceMul, Nat.reduceSub, Nat.reduceLeDiff, Nat.reduceLT, Nat.reduceBEq, Int.reduceToNat, Int.reduceEq, Int.reduceLT, Int.reduceLE, Int.reduceAdd, Int.reduceSub, Int.reduceMul, Int.reduceNeg, hw, hbad a b hab h3]
        | false =>
          rw [h2] at h2'
          simp (maxDischargeDepth := 8) only [go_sem, reduceIte, reduceCtorEq, Nat.reduceEqDiff, Nat.reduceAdd, Nat.reduceMul, Nat.reduceSub, Nat.reduceLeDiff, Nat.reduceLT, Nat.reduceBEq, Int.reduceToNat, Int.reduceEq, Int.reduceLT, Int.reduceLE, Int.reduceAdd, Int.reduceSub, Int.reduceMul, Int.reduceNeg, hw, hX, r_ref06_On]
          cases h4 : onB cl (if W.has a b then W.tile a b else 0) with
          | true =>
            have h3 : W.free cl a b = true := by unfold Wd.free; rw [← h2', h4]; rfl
            simp (maxDischargeDepth := 8) only [go_sem, reduceIte, reduceCtorEq, Nat.reduceEqDiff, Nat.reduceAdd, Nat.reduceMul, Nat.reduceSub, Nat.reduceLeDiff, Nat.reduceLT, Nat.reduceBEq, Int.reduceToNat, Int.reduceEq, Int.reduceLT, Int.reduceLE, Int.reduceAdd, Int.reduceSub, Int.reduceMul, Int.reduceNeg, hw, hwb]
            rw [KL_keep _ _ _ (by simp (maxDischargeDepth := 8) only [go_sem, reduceIte, reduceCtorEq, Nat.reduceEqDiff, Nat.reduceAdd, Nat.reduceMul, Nat.reduceSub, Nat.reduceLeDiff, Nat.reduceLT, Nat.reduceBEq, Int.reduceToNat, Int.reduceEq, Int.reduceLT, Int.reduceLE, Int.reduceAdd, Int.reduceSub, Int.reduceMul, Int.reduceNeg])]
            simp (maxDischargeDepth := 8) only [go_sem, reduceIte, reduceCtorEq, Nat.reduceEqDiff, Nat.reduceAdd, Nat.reduceMul, Nat.reduceSub, Nat.reduceLeDiff, Nat.reduceLT, Nat.reduceBEq, Int.reduceToNat, Int.reduceEq, Int.reduceLT, Int.reduceLE, Int.reduceAdd, Int.reduceSub, Int.reduceMul, Int.reduceNeg]
            exact ih' (a + 1) ⟨by omega, by omega, hnext h3⟩ (by omega)
          | false =>
            have h3 : W.free cl a b = false := by unfold Wd.free; rw [← h2', h4]; rfl
            simp (maxDischargeDepth := 8) only [go_sem, reduceIte, reduceCtorEq, Nat.reduceEqDiff, Nat.reduceAdd, Nat.reduceMul, Nat.reduceSub, Nat.reduceLeDiff, Nat.reduceLT, Nat.reduceBEq, Int.reduceToNat, Int.reduceEq, Int.reduceLT, Int.reduceLE, Int.reduceAdd, Int.reduceSub, Int.reduceMul, Int.reduceNeg, hw, hbad a b hab h3]
      · have hwb : IntKind.wrap .i64 (b + 1) = b + 1 := wrap_small (by omega) (by omega)
        simp (maxDischargeDepth := 8) only [go_sem, reduceIte, reduceCtorEq, Nat.reduceEqDiff, Nat.reduceAdd, Nat.reduceMul, Nat.reduceSub, Nat.reduceLeDiff, Nat.reduceLT, Nat.reduceBEq, Int.reduceToNat, Int.reduceEq, Int.reduceLT, Int.reduceLE, Int.reduceAdd, Int.reduceSub, Int.reduceMul, Int.reduceNeg, show decide (a < rx + rw') = false from decide_eq_false hlt', hw, hwb]
        rw [KL_keep _ _ _ (by simp (maxDischargeDepth := 8) only [go_sem, reduceIte, reduceCtorEq, Nat.reduceEqDiff, Nat.reduceAdd, Nat.reduceMul, Nat.reduceSub, Nat.reduceLeDiff, Nat.reduceLT, Nat.reduceBEq, Int.reduceToNat, Int.reduceEq, Int.reduceLT, Int.reduceLE, Int.reduceAdd, Int.reduceSub, Int.reduceMul, Int.reduceNeg])]
        simp (maxDischargeDepth := 8) only [go_sem, reduceIte, reduceCtorEq, Nat.reduceEqDiff, Nat.reduceAdd, Nat.reduceMul, Nat.reduceSub, Nat.reduceLeDiff, Nat.reduceLT, Nat.reduceBEq, Int.reduceToNat, Int.reduceEq, Int.reduceLT, Int.reduceLE, Int.reduceAdd, Int.reduceSub, Int.reduceMul, Int.reduceNeg]
        refine ih (b + 1) ⟨by omega, by omega, fun d c hd hlt => ?_⟩ (by omega)
        by_cases e : c = b
        · subst e; have := has_iff.1 hd; exact haI d hd (by omega)
        · exact hbI d c hd (by omega)
    · simp (maxDischargeDepth := 8) only [go_sem, reduceIte, reduceCtorEq, Nat.reduceEqDiff, Nat.reduceAdd, Nat.reduceMul, Nat.reduceSub, Nat.reduceLeDiff, Nat.reduceLT, Nat.reduceBEq, Int.reduceToNat, Int.reduceEq, Int.reduceLT, Int.reduceLE, Int.reduceAdd, Int.reduceSub, Int.reduceMul, Int.reduceNeg, show decide (b < ry + rh) = false from decide_eq_false hlt, hw, hall (fun a c h => hbI a c h (by have := has_iff.1 h; omega))]
def Wd.steps (W : Wd) (cl sz x y d : Int) : Bool := stepOk x y d && W.stands cl sz x y && W.stands cl sz (x + turnX d) (y + turnY d) && (!sideOk x y d || (W.stands cl sz (x + turnX d) y && W.stands cl sz x (y + turnY d)))
theorem r_class_Steps {m : Mem} {p : WP} {W : Wd} (hW : WorldAt m p W) (hg : W.Good) {X : Mem} (hX : HpSub m X) (hw : X.Wf) (cl sz x y d : Int) : RF tb f_class_Steps [.ptr (.hp p.k 0) 0, .agg [.int .i64 cl, .int .i64 sz], .agg [.int .i64 x, .int .i64 y], .int .i64 d] X = some (.bool (W.steps cl sz x y d), X) := by
  rw [RF_go t_class_Steps _ _ rfl]
  simp (maxDischargeDepth := 8) only [go_sem, reduceIte, reduceCtorEq, Nat.reduceEqDiff, Nat.reduceAdd, Nat.reduceMul, Nat.reduceSub, Nat.reduceLeDiff, Nat.reduceLT, Nat.reduceBEq, Int.reduceToNat, Int.reduceEq, Int.reduceLT, Int.reduceLE, Int.reduceAdd, Int.reduceSub, Int.reduceMul, Int.reduceNeg, s_class_Steps, hw, hX, r_cell_Step, r_class_Stands hW hg]
  unfold Wd.steps
  cases h1 : stepOk x y d with
  | false => simp (maxDischargeDepth := 8) only [go_sem, reduceIte, reduceCtorEq, Nat.reduceEqDiff, Nat.reduceAdd, Nat.reduceMul, Nat.reduceSub, Nat.reduceLeDiff, Nat.reduceLT, Nat.reduceBEq, Int.reduceToNat, Int.reduceEq, Int.reduceLT, Int.reduceLE, Int.reduceAdd, Int.reduceSub, Int.reduceMul, Int.reduceNeg, hw]
  | true =>
    have ex : stepX x y d = x + turnX d := by simp [stepX, h1]
    have ey : stepY x y d = y + turnY d := by simp [stepY, h1]
    simp (maxDischargeDepth := 8) only [go_sem, reduceIte, reduceCtorEq, Nat.reduceEqDiff, Nat.reduceAdd, Nat.reduceMul, Nat.reduceSub, Nat.reduceLeDiff, Nat.reduceLT, Nat.reduceBEq, Int.reduceToNat, Int.reduceEq, Int.reduceLT, Int.reduceLE, Int.reduceAdd, Int.reduceSub, Int.reduceMul, Int.reduceNeg, hw, hX, ex, ey, r_class_Stands hW hg]
    cases h2 : W.stands cl sz x y with
    | false => simp (maxDischargeDepth := 8) only [go_sem, reduceIte, reduceCtorEq, Nat.reduceEqDiff, Nat.reduceAdd, Nat.reduceMul, Nat.reduceSub, Nat.reduceLeDiff, Nat.reduceLT, Nat.reduceBEq, Int.reduceToNat, Int.reduceEq, Int.reduceLT, Int.reduceLE, Int.reduceAdd, Int.reduceSub, Int.reduceMul, Int.reduceNeg, hw]
    | true =>
      simp (maxDischargeDepth := 8) only [go_sem, reduceIte, reduceCtorEq, Nat.reduceEqDiff, Nat.reduceAdd, Nat.reduceMul, Nat.reduceSub, Nat.reduceLeDiff, Nat.reduceLT, Nat.reduceBEq, Int.reduceToNat, Int.reduceEq, Int.reduceLT, Int.reduceLE, Int.reduceAdd, Int.reduceSub, Int.reduceMul, Int.reduceNeg, hw, hX, ex, ey, r_class_Stands hW hg]
      cases h3 : W.stands cl sz (x + turnX d) (y + turnY d) with
      | false => simp (maxDischargeDepth := 8) only [go_sem, reduceIte, reduceCtorEq, Nat.reduceEqDiff, Nat.reduceAdd, Nat.reduceMul, Nat.reduceSub, Nat.reduceLeDiff, Nat.reduceLT, Nat.reduceBEq, Int.reduceToNat, Int.reduceEq, Int.reduceLT, Int.reduceLE, Int.reduceAdd, Int.reduceSub, Int.reduceMul, Int.reduceNeg, hw]
      | true =>
        simp (maxDischargeDepth := 8) only [go_sem, reduceIte, reduceCtorEq, Nat.reduceEqDiff, Nat.reduceAdd, Nat.reduceMul, Nat.reduceSub, Nat.reduceLeDiff, Nat.reduceLT, Nat.reduceBEq, Int.reduceToNat, Int.reduceEq, Int.reduceLT, Int.reduceLE, Int.reduceAdd, Int.reduceSub, Int.reduceMul, Int.reduceNeg, hw, hX, r_cell_Sides, sideV]
        cases h4 : sideOk x y d with
        | false => simp (maxDischargeDepth := 8) only [go_sem, reduceIte, reduceCtorEq, Nat.reduceEqDiff, Nat.reduceAdd, Nat.reduceMul, Nat.reduceSub, Nat.reduceLeDiff, Nat.reduceLT, Nat.reduceBEq, Int.reduceToNat, Int.reduceEq, Int.reduceLT, Int.reduceLE, Int.reduceAdd, Int.reduceSub, Int.reduceMul, Int.reduceNeg, hw]; rfl
        | true =>
          simp (maxDischargeDepth := 8) only [go_sem, reduceIte, reduceCtorEq, Nat.reduceEqDiff, Nat.reduceAdd, Nat.reduceMul, Nat.reduceSub, Nat.reduceLeDiff, Nat.reduceLT, Nat.reduceBEq, Int.reduceToNat, Int.reduceEq, Int.reduceLT, Int.reduceLE, Int.reduceAdd, Int.reduceSub, Int.reduceMul, Int.reduceNeg, hw, hX, r_class_Stands hW hg]
          cases h5 : W.stands cl sz (x + turnX d) y with
          | false => simp (maxDischargeDepth := 8) only [go_sem, reduceIte, reduceCtorEq, Nat.reduceEqDiff, Nat.reduceAdd, Nat.reduceMul, Nat.reduceSub, Nat.reduceLeDiff, Nat.reduceLT, Nat.reduceBEq, Int.reduceToNat, Int.reduceEq, Int.reduceLT, Int.reduceLE, Int.reduceAdd, Int.reduceSub, Int.reduceMul, Int.reduceNeg, hw]; rfl
          | true => simp (maxDischargeDepth := 8) only [go_sem, reduceIte, reduceCtorEq, Nat.reduceEqDiff, Nat.reduceAdd, Nat.reduceMul, Nat.reduceSub, Nat.reduceLeDiff, Nat.reduceLT, Nat.reduceBEq, Int.reduceToNat, Int.reduceEq, Int.reduceLT, Int.reduceLE, Int.reduceAdd, Int.reduceSub, Int.reduceMul, Int.reduceNeg, hw, hX, r_class_Stands hW hg]; rfl
def Wd.plain (w h : Int) : Wd := ⟨w, h, List.replicate (w * h).toNat 0, [], []⟩
theorem plain_good (w h : Int) : (Wd.plain w h).Good := fun x hx => by
  have := List.eq_of_mem_replicate hx
  omega
theorem plain33 : newW 3 3 (List.replicate 9 0) [] = some (Wd.plain 3 3) := by rfl
theorem p33a : (Wd.plain 3 3).steps 0 2 0 0 4 = true := by decide +kernel
theorem p33b : (Wd.plain 3 3).stands 0 2 2 0 = false := by decide +kernel
theorem r_law06_awake (X : Mem) (hw : X.Wf) (hhb : X.hb ≤ X.hl) : ∃ H' u, RF tb f_law06_awake [] X = some (.bool true, (X.hp H').es (escMin X.esc u)) ∧ Keep [] X.heap H' := by
  rw [RF_go t_law06_awake _ _ rfl, push_hp]
  generalize hH : X.heap = H
  have hHl : X.hl = H.length := by rw [← hH]; rfl
  obtain ⟨H1, hH1⟩ : ∃ H1, H ++ [(0, SBk.cells true (List.replicate 9 [SV.int IntKind.u8 0]).flatten)] = H1 := ⟨_, rfl⟩
  have own : Own byteF H1 (.sl (.hp H.length 0) 0 9 (some 9) 1) (List.replicate 9 0) := by rw [← hH1]; exact mkslV_own byteF_even H 0 9
  have k1 : Keep [] H H1 := by rw [← hH1]; exact Keep.app _ _ _
  have hn := r_grid_New (X := (X.hp H1).fr [] none) (bl := []) (own.lies byteF_even) (LiesD.nil bldF _) (by decide) (fr_wf (hp_wf hw) _ _) (by show X.hb ≤ H1.length; have := k1.1; omega) 3 3
  rw [plain33] at hn
  obtain ⟨H2, u, p, h1, hO, k2, hF⟩ := hn
  change Keep [] H1 H2 at k2
  have hg := plain_good 3 3
  simp (maxDischargeDepth := 8) only [go_sem, reduceIte, reduceCtorEq, Nat.reduceEqDiff, Nat.reduceAdd, Nat.reduceMul, Nat.reduceSub, Nat.reduceLeDiff, Nat.reduceLT, Nat.reduceBEq, Int.reduceToNat, Int.reduceEq, Int.reduceLT, Int.reduceLE, Int.reduceAdd, Int.reduceSub, Int.reduceMul, Int.reduceNeg, s_law06_awake, hw, hH, show (9 : Int) ≤ (two48 : Int) from by decide, hH1, h1, show ((0 : Int) == 0) = true from rfl, r_class_Steps hO.at_ hg, r_class_Stands hO.at_ hg, r_class_On, p33a, p33b, show onB 2 0 = false from rfl]
  exact ⟨_, _, rfl, by rw [← hH] at k1 ⊢; exact (k1.trans k2).back0⟩
theorem aw06 {X : Mem} {z : Option (SV × Mem)} (hz : RF tb f_law06_awake [] X = z) (hw : X.Wf) (hhb : X.hb ≤ X.hl) : ∃ H' u, z = some (.bool true, (X.hp H').es (escMin X.esc u)) ∧ Keep [] X.heap H' := by
  rw [← hz]
  exact r_law06_awake X hw hhb
structure MapIn (X : Mem) (tv bv : SV) (tiles : List Int) (bl : List Bld) : Prop where
  t : LiesD byteF (Hm X.heap) tv tiles
  g : ∀ t ∈ tiles, 0 ≤ t ∧ t ≤ 255
  b : LiesD bldF (Hm X.heap) bv bl
  n : bl.length ≤ two48
theorem both_of {X : Mem} {tv bv : SV} {tiles : List Int} {bl : List Bld} {w hh : Int} {z : Option (SV × Mem)} (hz : RF tb f_law06_Both [.agg [.int .i64 w, .int .i64 hh, tv, bv]] X = z) (hm : MapIn X tv bv tiles bl) (hw : X.Wf) (hhb : X.hb ≤ X.hl) :
    (∃ H' u, z = some (.tup [.nilp, .nilp, .bool false], (X.hp H').es (escMin X.esc u)) ∧ Keep [] X.heap H') ∨
    (∃ H' u p q, z = some (.tup [.ptr (.hp p.k 0) 0, .ptr (.hp q.k 0) 0, .bool true], (X.hp H').es (escMin X.esc u)) ∧
    WorldOwn H' p ⟨w, hh, tiles, bl, []⟩ ∧ RefOwn H' q ⟨w, hh, tiles, bl, []⟩ bl ∧ Wd.Good ⟨w, hh, tiles, bl, []⟩ ∧ Keep [] X.heap H' ∧ (∀ i ∈ p.fp, X.heap.length ≤ i ∧ i ∉ q.fp) ∧ (∀ i ∈ q.fp, X.heap.length ≤ i)) := by
  rw [← hz]
  cases hc : chkB w hh tiles bl with
  | false => exact .inl (r_law06_Both_no hm.t hm.g hm.b hm.n hw hhb w hh hc)
  | true =>
    right
    obtain ⟨H', u, p, q, h1, h2, h3, h4, h5, h6⟩ := r_law06_Both hm.t hm.g hm.b hm.n hw hhb w hh hc
    exact ⟨H', u, p, q, h1, h2, h3, fun x hx => ⟨(hm.g x hx).1, (chk_in hc).2.2.2.2.1 x hx⟩, h4, h5, h6⟩
theorem r_law06_ClassStands {X : Mem} {tv bv : SV} {tiles : List Int} {bl : List Bld} (hm : MapIn X tv bv tiles bl) (hw : X.Wf) (hhb : X.hb ≤ X.hl) (w hh cl sz x y : Int) : ∃ m', RF tb f_law06_ClassStands [.agg [.int .i64 w, .int .i64 hh, tv, bv], .agg [.int .i64 cl, .int .i64 sz], .agg [.int .i64 x, .int .i64 y]] X = some (.bool true, m') := by
  rw [RF_go t_law06_ClassStands _ _ rfl, push_hp]
  simp (maxDischargeDepth := 8) only [go_sem, reduceIte, reduceCtorEq, Nat.reduceEqDiff, Nat.reduceAdd, Nat.reduceMul, Nat.reduceSub, Nat.reduceLeDiff, Nat.reduceLT, Nat.reduceBEq, Int.reduceToNat, Int.reduceEq, Int.reduceLT, Int.reduceLE, Int.reduceAdd, Int.reduceSub, Int.reduceMul, Int.reduceNeg, s_law06_ClassStands, hw, hm.t.cell, hm.b.cell]
  generalize hz : RF tb f_law06_Both _ _ = z
  rcases both_of hz ⟨hm.t, hm.g, hm.b, hm.n⟩ (by simp (maxDischargeDepth := 8) only [go_sem, reduceIte, reduceCtorEq, Nat.reduceEqDiff, Nat.reduceAdd, Nat.reduceMul, Nat.reduceSub, Nat.reduceLeDiff, Nat.reduceLT, Nat.reduceBEq, Int.reduceToNat, Int.reduceEq, Int.reduceLT, Int.reduceLE, Int.reduceAdd, Int.reduceSub, Int.reduceMul, Int.reduceNeg, hw]) hhb with ⟨H', u, rfl, k⟩ | ⟨H', u, p, q, rfl, hO, hR, hg, k, -, -⟩
  · have hl : X.hb ≤ H'.length := by have := k.1; exact Nat.le_trans hhb this
    simp (maxDischargeDepth := 8) only [go_sem, reduceIte, reduceCtorEq, Nat.reduceEqDiff, Nat.reduceAdd, Nat.reduceMul, Nat.reduceSub, Nat.reduceLeDiff, Nat.reduceLT, Nat.reduceBEq, Int.reduceToNat, Int.reduceEq, Int.reduceLT, Int.reduceLE, Int.reduceAdd, Int.reduceSub, Int.reduceMul, Int.reduceNeg, hw, r_class_Stands0]
    generalize hz : RF tb f_law06_awake _ _ = z
    obtain ⟨H', u, rfl, -⟩ := aw06 hz (by simp (maxDischargeDepth := 8) only [go_sem, reduceIte, reduceCtorEq, Nat.reduceEqDiff, Nat.reduceAdd, Nat.reduceMul, Nat.reduceSub, Nat.reduceLeDiff, Nat.reduceLT, Nat.reduceBEq, Int.reduceToNat, Int.reduceEq, Int.reduceLT, Int.reduceLE, Int.reduceAdd, Int.reduceSub, Int.reduceMul, Int.reduceNeg, hw]) hl
    simp (maxDischargeDepth := 8) only [go_sem, reduceIte, reduceCtorEq, Nat.reduceEqDiff, Nat.reduceAdd, Nat.reduceMul, Nat.reduceSub, Nat.reduceLeDiff, Nat.reduceLT, Nat.reduceBEq, Int.reduceToNat, Int.reduceEq, Int.reduceLT, Int.reduceLE, Int.reduceAdd, Int.reduceSub, Int.reduceMul, Int.reduceNeg, hw]
    exact ⟨_, rfl⟩
  · have hl : X.hb ≤ H'.length := by have := k.1; exact Nat.le_trans hhb this
    simp (maxDischargeDepth := 8) only [go_sem, reduceIte, reduceCtorEq, Nat.reduceEqDiff, Nat.reduceAdd, Nat.reduceMul, Nat.reduceSub, Nat.reduceLeDiff, Nat.reduceLT, Nat.reduceBEq, Int.reduceToNat, Int.reduceEq, Int.reduceLT, Int.reduceLE, Int.reduceAdd, Int.reduceSub, Int.reduceMul, Int.reduceNeg, hw, r_class_Stands hO.at_ hg, r_ref06_Stands hR.at_ (fun _ _ => rfl) hg]
    generalize hz : RF tb f_law06_awake _ _ = z
    obtain ⟨H', u, rfl, -⟩ := aw06 hz (by simp (maxDischargeDepth := 8) only [go_sem, reduceIte, reduceCtorEq, Nat.reduceEqDiff, Nat.reduceAdd, Nat.reduceMul, Nat.reduceSub, Nat.reduceLeDiff, Nat.reduceLT, Nat.reduceBEq, Int.reduceToNat, Int.reduceEq, Int.reduceLT, Int.reduceLE, Int.reduceAdd, Int.reduceSub, Int.reduceMul, Int.reduceNeg, hw]) hl
    simp (maxDischargeDepth := 8) only [go_sem, reduceIte, reduceCtorEq, Nat.reduceEqDiff, Nat.reduceAdd, Nat.reduceMul, Nat.reduceSub, Nat.reduceLeDiff, Nat.reduceLT, Nat.reduceBEq, Int.reduceToNat, Int.reduceEq, Int.reduceLT, Int.reduceLE, Int.reduceAdd, Int.reduceSub, Int.reduceMul, Int.reduceNeg, hw]
    exact ⟨_, rfl⟩
/-- Rounds, each of which keeps what lies behind, or notes it. -/
inductive RoundsN (F : Tbl) (b : Bk) (P : Mem → Prop) (H : Nat) : List (List SV) → Mem → Option Nat → Mem → Option Nat → Bool → Prop
  | nil (m : Mem) (u : Option Nat) : RoundsN F b P H [] m u m u true
  | stop {x : List SV} {L : List (List SV)} {m m' : Mem} {u d : Option Nat} (h : Yields F b x m m' d false) (hp : P m') (hk : m'.hl = m.hl ∨ ∃ k, d = some k ∧ k < H) : RoundsN F b P H (x :: L) m u m' (escMin u d) false
  | next {x : List SV} {L : List (List SV)} {m m' m'' : Mem} {u d u' : Option Nat} {go : Bool} (h : Yields F b x m m' d true) (hp : P m') (hk : m'.hl = m.hl ∨ ∃ k, d = some k ∧ k < H) (t : RoundsN F b P H L m' (escMin u d) m'' u' go) : RoundsN F b P H (x :: L) m u m'' u' go
theorem noted_next {H : Nat} {m m' : Mem} {u d : Option Nat} (h : Noted H m u) (hk : m'.hl = m.hl ∨ ∃ k, d = some k ∧ k < H) : Noted H m' (escMin u d) := by
  rcases hk with hk | ⟨k, rfl, hk⟩
  · rcases h with h | ⟨j, rfl, hj⟩
    · exact .inl (hk.trans h)
    · cases d with
      | none => exact .inr ⟨j, rfl, hj⟩
      | some d => exact .inr ⟨min j d, rfl, by omega⟩
  · cases u with
    | none => exact .inr ⟨k, rfl, hk⟩
    | some j => exact .inr ⟨min j k, rfl, by omega⟩
theorem RoundsN.noted {F : Tbl} {b : Bk} {P : Mem → Prop} {H : Nat} {L : List (List SV)} {m m' : Mem} {u u' : Option Nat} {go : Bool} (h : RoundsN F b P H L m u m' u' go) (h0 : Noted H m u) : Noted H m' u' := by
  induction h with
  | nil => exact h0
  | stop _ _ hk => exact noted_next h0 hk
  | next _ _ hk _ ih => exact ih (noted_next h0 hk)
theorem RoundsN.weak {F : Tbl} {b : Bk} {P : Mem → Prop} {H H' : Nat} {L : List (List SV)} {m m' : Mem} {u u' : Option Nat} {go : Bool} (h : RoundsN F b P H L m u m' u' go) (hh : H ≤ H') : RoundsN F b P H' L m u m' u' go := by
  induction h with
  | nil => exact .nil _ _
  | stop h hp hk => exact .stop h hp (hk.imp_right fun ⟨k, h1, h2⟩ => ⟨k, h1, by omega⟩)
  | next h hp hk _ ih => exact .next h hp (hk.imp_right fun ⟨k, h1, h2⟩ => ⟨k, h1, by omega⟩) ih
theorem RoundsN.last {F : Tbl} {b : Bk} {P : Mem → Prop} {H : Nat} {L : List (List SV)} {m m' : Mem} {u u' : Option Nat} {go : Bool} (h : RoundsN F b P H L m u m' u' go) (h0 : P m) : P m' := by
  induction h with
  | nil => exact h0
  | stop _ hp => exact hp
  | next _ hp _ _ ih => exact ih hp
section
open Go.RowKit Go.WideShapes
theorem slB_cases {α : Type} (d : Fl α) (s : Sl α) : slB d s = [] ∨ slB d s = [s.l.flatMap d.enc] := by
  unfold slB; split <;> simp
theorem blk_at {n0 : In} {L : List (List SV)} (h : n0.map (·.2) = L) {j : Nat} {c : List SV} (hj : L[j]? = some c) (pre post : In) : ∃ t, (pre ++ n0 ++ post)[pre.length + j]? = some (t, c) := by
  rw [← h, List.getElem?_map] at hj
  cases hx : n0[j]? with
  | none => rw [hx] at hj; cases hj
  | some x =>
    rw [hx] at hj
    simp only [Option.map_some, Option.some.injEq] at hj
    have hlt := (List.getElem?_eq_some_iff.1 hx).1
    refine ⟨x.1, ?_⟩
    rw [List.append_assoc, List.getElem?_append_right (Nat.le_add_right _ _), Nat.add_sub_cancel_left, List.getElem?_append_left hlt, hx, ← hj]
/-- A slice that came in. -/
theorem sl_inG {α : Type} {d : Fl α} (hd : d.Even) {P : Program} {e : TypeId} {ok : α → Prop} {s : Sl α} (hok : slOk P e ok s) {pre n0 post : In} {A B : List (List SV)} (e0 : n0.map (·.2) = A ++ slB d s ++ B) : LiesD d (In.mem (pre ++ n0 ++ post)) (slV d s (pre.length + A.length)) s.l := by
  refine lies_in hd hok.2.2.2.1 hok.2.2.2.2 ?_
  rcases slB_cases d s with h | h
  · exact .inl h
  · refine .inr ⟨_, h, ?_⟩
    rw [h] at e0
    obtain ⟨t, ht⟩ := blk_at e0 (j := A.length) (c := s.l.flatMap d.enc) (by simp) pre post
    exact In.get (x := (t, _)) ht
theorem sl_bd {α : Type} {P : Program} {e : TypeId} {ok : α → Prop} {s : Sl α} (hok : slOk P e ok s) {b : Nat} (hb : P.bytesOf e = b) : 2 * s.l.length * b ≤ two48 := by
  have := hok.2.1
  rw [hb] at this
  have h2 : 2 * s.l.length * b = 2 * (s.l.length * b) := Nat.mul_assoc _ _ _
  simp only [two48, reachBytes, maxLen] at *
  omega
abbrev Bl' := Int × ((Int × Int) × (Int × Int))
abbrev bldF' : Fl Bl' := Fl.pair (Fl.int .i64) (Fl.pair (Fl.pair (Fl.int .i64) (Fl.int .i64)) (Fl.pair (Fl.int .i64) (Fl.int .i64)))
theorem bldF'_even : bldF'.Even := ⟨fun _ => rfl⟩
def bl5 (b : Bl') : Bld := (b.1, b.2.1.1, b.2.1.2, b.2.2.1, b.2.2.2)
theorem bl5_lies {m : Mem} {v : SV} {l : List Bl'} (h : LiesD bldF' m v l) : LiesD bldF m v (l.map bl5) := by
  unfold LiesD at *
  rw [List.length_map, show (l.map bl5).flatMap bldF.enc = l.flatMap bldF'.enc by rw [List.flatMap_map]; rfl]
  exact h
abbrev MT := Int × Int × Sl Int × Sl Bl'
abbrev rdM : Rd MT := Rd.pair (Rd.flat (Fl.int .i64)) (Rd.pair (Rd.flat (Fl.int .i64)) (Rd.pair (Rd.slice byteF) (Rd.slice bldF')))
theorem rdM_blks (a : MT) (n : Nat) : rdM.blks a n = slB byteF a.2.2.1 ++ slB bldF' a.2.2.2 := by simp [rdM, Rd.pair, Rd.flat, Rd.slice]
theorem rdM_cells (a : MT) (n : Nat) : rdM.cells a n = [.int .i64 a.1, .int .i64 a.2.1, slV byteF a.2.2.1 n, slV bldF' a.2.2.2 (n + (slB byteF a.2.2.1).length)] := rfl
theorem mapIn_of {P : Program} {e e' : TypeId} {okB : Bl' → Prop} {t : Sl Int} {b : Sl Bl'} (h1 : slOk P e (inR .u8) t) (h2 : slOk P e' okB b) (hB : P.bytesOf e' = 40) {pre n0 post : In} (e0 : n0.map (·.2) = slB byteF t ++ slB bldF' b) :
    MapIn (In.mem (pre ++ n0 ++ post)) (slV byteF t pre.length) (slV bldF' b (pre.length + (slB byteF t).length)) t.l (b.l.map bl5) := by
  refine ⟨?_, fun x hx => inR_u8 (h1.2.2.1 x hx), ?_, ?_⟩
  · have := sl_inG byteF_even h1 (pre := pre) (post := post) (A := []) (B := slB bldF' b) e0
    exact this
  · have := sl_inG bldF'_even h2 (pre := pre) (post := post) (A := slB byteF t) (B := []) (by rw [List.append_nil]; exact e0)
    exact bl5_lies this
  · have := sl_bd h2 hB
    rw [List.length_map]
    omega
theorem law06_ClassStands {P : Program} {e e' : TypeId} {okB : Bl' → Prop} (a : MT) (s c : Int × Int) (h1 : slOk P e (inR .u8) a.2.2.1) (h2 : slOk P e' okB a.2.2.2) (hB : P.bytesOf e' = 40) {n0 n1 n2 : In} (e0 : n0.map (·.2) = rdM.blks a 0) : ∃ m', RF tb f_law06_ClassStands [.agg (rdM.cells a 0), .agg [.int .i64 s.1, .int .i64 s.2], .agg [.int .i64 c.1, .int .i64 c.2]] (In.mem ([] ++ n0 ++ n1 ++ n2)) = some (.bool true, m') := by
  rw [rdM_blks] at e0
  rw [rdM_cells, List.append_assoc ([] ++ n0)]
  exact r_law06_ClassStands (mapIn_of (pre := []) h1 h2 hB e0) (In.wf _) (Nat.zero_le _) _ _ _ _ _ _
end
end Go.Sh.T
