import Derived.Test.YtnogldcjbkiboaaShWDf
set_option linter.all false
set_option linter.unusedVariables false
set_option linter.unusedSimpArgs false
set_option autoImplicit false
namespace Go.Sh.T
open Go.Sh
set_option maxHeartbeats 8000000
set_option maxRecDepth 20000
theorem r_law21_UnitKeeps {m : Mem} {p q : SV} {l k : List (Int × Int)} (hp : LiesD cellF m p l) (hb : 2 * l.length * 16 ≤ two48) (hq : LiesD cellF m q k) (hb' : 2 * k.length * 16 ≤ two48) (hm : m.Wf) (hhb : m.hb ≤ m.hl) (id pl cl sz ax ay ph gx gy wt tx ty : Int) :
    (RF tb f_law21_UnitKeeps [unitV id pl cl sz ax ay ph gx gy p wt, .agg [.int .i64 tx, .int .i64 ty], q] m).map Prod.fst = some (.bool true) := by
  rw [RF_go t_law21_UnitKeeps _ _ rfl]
  simp (maxDischargeDepth := 8) only [go_sem, reduceIte, reduceCtorEq, Nat.reduceEqDiff, Nat.reduceAdd, Nat.reduceMul, Nat.reduceSub, Nat.reduceLeDiff, Nat.reduceLT, Nat.reduceBEq, Int.reduceToNat, Int.reduceEq, Int.reduceLT, Int.reduceLE, Int.reduceAdd, Int.reduceSub, Int.reduceMul, Int.reduceNeg, s_law21_UnitKeeps, hm, unitV, hp.cell, r_ref21_May hp hb]
  cases h1 : mayU id pl cl sz ax ay ph gx gy wt l with
  | false => simp (maxDischargeDepth := 8) only [go_sem, reduceIte, reduceCtorEq, Nat.reduceEqDiff, Nat.reduceAdd, Nat.reduceMul, Nat.reduceSub, Nat.reduceLeDiff, Nat.reduceLT, Nat.reduceBEq, Int.reduceToNat, Int.reduceEq, Int.reduceLT, Int.reduceLE, Int.reduceAdd, Int.reduceSub, Int.reduceMul, Int.reduceNeg, hm, hp.cell, r_unit_Check hp hb, h1, errI_eq, r_law21_awake]
  | true =>
  simp (maxDischargeDepth := 8) only [go_sem, reduceIte, reduceCtorEq, Nat.reduceEqDiff, Nat.reduceAdd, Nat.reduceMul, Nat.reduceSub, Nat.reduceLeDiff, Nat.reduceLT, Nat.reduceBEq, Int.reduceToNat, Int.reduceEq, Int.reduceLT, Int.reduceLE, Int.reduceAdd, Int.reduceSub, Int.reduceMul, Int.reduceNeg, hm, hp.cell, fun {X : Mem} (hw : X.Wf) => r_unit_Stop hp hw]
  have hH : headB id pl cl sz ax ay gx gy wt = true := by simp only [mayU, Bool.and_eq_true] at h1; exact h1.1
  have hA : cellB ax ay = true := by simp only [headB, Bool.and_eq_true] at hH; simp_all
  cases hG : cellB tx ty with
  | true =>
    have hG2 := hG
    simp only [cellB, Bool.and_eq_true, decide_eq_true_eq] at hG2
    simp (maxDischargeDepth := 8) only [go_sem, reduceIte, reduceCtorEq, Nat.reduceEqDiff, Nat.reduceAdd, Nat.reduceMul, Nat.reduceSub, Nat.reduceLeDiff, Nat.reduceLT, Nat.reduceBEq, Int.reduceToNat, Int.reduceEq, Int.reduceLT, Int.reduceLE, Int.reduceAdd, Int.reduceSub, Int.reduceMul, Int.reduceNeg, hm, show decide (tx ≥ 0) = true from decide_eq_true (by omega), show decide (tx < 128) = true from decide_eq_true (by omega), show decide (ty ≥ 0) = true from decide_eq_true (by omega), show decide (ty < 128) = true from decide_eq_true (by omega), hp.cell, fun {X : Mem} (hw : X.Wf) => r_unit_Aim hp hw]
    have hst : UR.Ok id pl cl sz m 0 [(0, .cells true (UR.cells id pl cl sz ⟨ax, ay, 0, 0, 0, .nils, 0, []⟩))] ⟨ax, ay, 0, 0, 0, .nils, 0, []⟩ := ⟨fun y => LiesD.nil _ _, (show 2 * 0 * 16 ≤ two48 by decide), may_stop hH hA⟩
    have hu : UGood id pl cl sz m 0 0 [(0, .cells true (UR.cells id pl cl sz ⟨ax, ay, 0, 0, 0, .nils, 0, []⟩))] [⟨ax, ay, 0, 0, 0, .nils, 0, []⟩] := ⟨by simp, by intro u hu; rw [List.mem_singleton.1 hu]; exact hst⟩
    obtain ⟨j', w', L', ef, ha, hg'⟩ := appU hhb hu (by simp) (by simp) (some 1) (u := ⟨ax, ay, iB (aimB ax ay tx ty) 2, iB (aimB ax ay tx ty) tx, iB (aimB ax ay tx ty) ty, .nils, 0, []⟩) ⟨fun y => LiesD.nil _ _, (show 2 * 0 * 16 ≤ two48 by decide), may_aim hH hA hG⟩
    have hg'' := hg'
    simp (maxDischargeDepth := 8) only [go_sem, reduceIte, reduceCtorEq, Nat.reduceEqDiff, Nat.reduceAdd, Nat.reduceMul, Nat.reduceSub, Nat.reduceLeDiff, Nat.reduceLT, Nat.reduceBEq, Int.reduceToNat, Int.reduceEq, Int.reduceLT, Int.reduceLE, Int.reduceAdd, Int.reduceSub, Int.reduceMul, Int.reduceNeg, UR.cells] at ha
    simp (maxDischargeDepth := 8) only [go_sem, reduceIte, reduceCtorEq, Nat.reduceEqDiff, Nat.reduceAdd, Nat.reduceMul, Nat.reduceSub, Nat.reduceLeDiff, Nat.reduceLT, Nat.reduceBEq, Int.reduceToNat, Int.reduceEq, Int.reduceLT, Int.reduceLE, Int.reduceAdd, Int.reduceSub, Int.reduceMul, Int.reduceNeg, ha]
    rw [KL_keep _ _ _ (by simp (maxDischargeDepth := 8) only [go_sem, reduceIte, reduceCtorEq, Nat.reduceEqDiff, Nat.reduceAdd, Nat.reduceMul, Nat.reduceSub, Nat.reduceLeDiff, Nat.reduceLT, Nat.reduceBEq, Int.reduceToNat, Int.reduceEq, Int.reduceLT, Int.reduceLE, Int.reduceAdd, Int.reduceSub, Int.reduceMul, Int.reduceNeg, hq.lv])]
    simp (maxDischargeDepth := 8) only [go_sem, reduceIte, reduceCtorEq, Nat.reduceEqDiff, Nat.reduceAdd, Nat.reduceMul, Nat.reduceSub, Nat.reduceLeDiff, Nat.reduceLT, Nat.reduceBEq, Int.reduceToNat, Int.reduceEq, Int.reduceLT, Int.reduceLE, Int.reduceAdd, Int.reduceSub, Int.reduceMul, Int.reduceNeg]
    exact keeps_loop hp hb hq hb' hm hhb id pl cl sz ax ay ph gx gy wt tx ty h1 ⟨0, j', w', none, L', _, ef none⟩ ⟨Nat.zero_le _, hg'', by simp, by simp⟩
  | false =>
    have hG2 : ¬ ((0 ≤ tx ∧ tx < 128) ∧ (0 ≤ ty ∧ ty < 128)) := by
      intro h
      rw [cellB, decide_eq_true h.1.1, decide_eq_true h.1.2, decide_eq_true h.2.1, decide_eq_true h.2.2] at hG
      cases hG
    clear hG
    repeat' ((first | rw [KG_bool] | rw [KC_bool]); split <;> rename_i h <;> (try simp only [Bool.not_eq_true, Bool.not_not, Bool.not_eq_eq_eq_not, Bool.not_true, Bool.not_false] at h) <;> simp (maxDischargeDepth := 8) only [go_sem, reduceIte, reduceCtorEq, Nat.reduceEqDiff, Nat.reduceAdd, Nat.reduceMul, Nat.reduceSub, Nat.reduceLeDiff, Nat.reduceLT, Nat.reduceBEq, Int.reduceToNat, Int.reduceEq, Int.reduceLT, Int.reduceLE, Int.reduceAdd, Int.reduceSub, Int.reduceMul, Int.reduceNeg, h, hm])
    all_goals first | (exfalso; simp only [decide_eq_true_eq] at *; omega) | skip
    all_goals (rw [KL_keep _ _ _ (by simp (maxDischargeDepth := 8) only [go_sem, reduceIte, reduceCtorEq, Nat.reduceEqDiff, Nat.reduceAdd, Nat.reduceMul, Nat.reduceSub, Nat.reduceLeDiff, Nat.reduceLT, Nat.reduceBEq, Int.reduceToNat, Int.reduceEq, Int.reduceLT, Int.reduceLE, Int.reduceAdd, Int.reduceSub, Int.reduceMul, Int.reduceNeg, hq.lv])])
    all_goals simp (maxDischargeDepth := 8) only [go_sem, reduceIte, reduceCtorEq, Nat.reduceEqDiff, Nat.reduceAdd, Nat.reduceMul, Nat.reduceSub, Nat.reduceLeDiff, Nat.reduceLT, Nat.reduceBEq, Int.reduceToNat, Int.reduceEq, Int.reduceLT, Int.reduceLE, Int.reduceAdd, Int.reduceSub, Int.reduceMul, Int.reduceNeg]
    all_goals exact keeps_loop hp hb hq hb' hm hhb id pl cl sz ax ay ph gx gy wt tx ty h1 ⟨0, 0, 0, some 1, _, [⟨ax, ay, 0, 0, 0, .nils, 0, []⟩], none⟩ ⟨Nat.zero_le _, ⟨rfl, by intro u hu; rw [List.mem_singleton.1 hu]; exact ⟨fun y => LiesD.nil _ _, (show 2 * 0 * 16 ≤ two48 by decide), may_stop hH hA⟩⟩, Nat.succ_pos _, by simp⟩
theorem ex_fst {x : Option (SV × Mem)} {v : SV} (h : x.map Prod.fst = some v) : ∃ m', x = some (v, m') := by
  cases x with
  | none => simp at h
  | some y => simp at h; exact ⟨y.2, by rw [← h]⟩
theorem law21_UnitKeeps {P : Program} {e e' : TypeId} {ok ok' : Int × Int → Prop} (u : UT) (t : Int × Int) (g : Sl (Int × Int)) (hok : slOk P e ok u.path) (h16 : P.bytesOf e = 16) (hok' : slOk P e' ok' g) (h16' : P.bytesOf e' = 16) {n0 n1 n2 : In} (e0 : n0.map (·.2) = rdU.blks u 0) (e2 : n2.map (·.2) = slB cellF g) : ∃ m', RF tb f_law21_UnitKeeps [.agg (rdU.cells u 0), .agg [.int .i64 t.1, .int .i64 t.2], slV cellF g ([] ++ n0 ++ n1).length] (In.mem ([] ++ n0 ++ n1 ++ n2)) = some (.bool true, m') := by
  rw [rdU_blks] at e0
  have hp := sl_in hok (pre := []) (post := n1 ++ n2) e0
  have hq := sl_in hok' (pre := [] ++ n0 ++ n1) (post := []) e2
  rw [List.append_nil] at hq
  rw [← List.append_assoc] at hp
  exact ex_fst (r_law21_UnitKeeps hp (sl_bound hok h16) hq (sl_bound hok' h16') (In.wf _) (Nat.zero_le _) _ _ _ _ _ _ _ _ _ _ _ _)
end Go.Sh.T
