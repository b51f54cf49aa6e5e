import Derived.Test.YtnogldcjbkiboaaShWDa
set_option linter.all false
set_option linter.unusedVariables false
set_option linter.unusedSimpArgs false
set_option autoImplicit false
namespace Go.Sh.T
open Go.Sh
set_option maxHeartbeats 8000000
set_option maxRecDepth 20000
theorem _root_.Go.Sh.LiesD.happ {α : Type} {d : Fl α} {m : Mem} {A : List (Nat × SBk)} {v : SV} {l : List α} (h : LiesD d (m.hap A) v l) (B : List (Nat × SBk)) : LiesD d (m.hap (A ++ B)) v l := by
  rw [← hap_hap]; exact Lies.hap h B
theorem r_law21_UnitTurns {m : Mem} {p : SV} {l : List (Int × Int)} (hp : LiesD cellF m p l) (hb : 2 * l.length * 16 ≤ two48) (hm : m.Wf) (id pl cl sz ax ay ph gx gy wt a b : Int) :
    RF tb f_law21_UnitTurns [unitV id pl cl sz ax ay ph gx gy p wt, .agg [.int .i64 a, .int .i64 b]] m = some (.bool true, m) := by
  rw [RF_go t_law21_UnitTurns _ _ rfl]
  have h0 : LiesD cellF m .nils [] := LiesD.nil _ _
  have hsame := fun {X : Mem} (hX : HpSub m X) (hw : X.Wf) => r_law21_same h0 h0 (by decide) hX hw rfl
  cases hg : goB id pl cl sz ax ay ph gx gy wt l with
  | false =>
    simp (maxDischargeDepth := 8) only [go_sem, reduceIte, reduceCtorEq, Nat.reduceEqDiff, Nat.reduceAdd, Nat.reduceMul, Nat.reduceSub, Nat.reduceLeDiff, Nat.reduceLT, Nat.reduceBEq, Int.reduceToNat, Int.reduceEq, Int.reduceLT, Int.reduceLE, Int.reduceAdd, Int.reduceSub, Int.reduceMul, Int.reduceNeg, s_law21_UnitTurns, hm, unitV, hp.cell, r_unit_Step hp hb, r_ref21_Step hp hb, r_unit_Hold hp hb, r_ref21_Hold hp hb, r_unit_Lose hp hb, r_ref21_Lose hp hb, r_unit_Aside hp hb, r_ref21_Aside hp hb, asideB, hg, hsame, r_law21_awake]
  | true =>
    obtain ⟨rfl, hmv, hpos, hwt, _⟩ := goB_pos hg
    have e3 := fun {X : Mem} (hX : HpSub m X) (hw : X.Wf) => (r_unit_Hold hp hb hX hw id pl cl sz ax ay 1 gx gy wt).trans (if_pos hg)
    have e4 := fun {X : Mem} (hX : HpSub m X) (hw : X.Wf) => (r_ref21_Hold hp hb hX hw id pl cl sz ax ay 1 gx gy wt).trans (if_pos hg)
    have e5 := fun {X : Mem} (hX : HpSub m X) (hw : X.Wf) => (r_unit_Lose hp hb hX hw id pl cl sz ax ay 1 gx gy wt).trans (if_pos hg)
    have e6 := fun {X : Mem} (hX : HpSub m X) (hw : X.Wf) => (r_ref21_Lose hp hb hX hw id pl cl sz ax ay 1 gx gy wt).trans (if_pos hg)
    by_cases hn : l.length = 1
    · have hq3 := cloneL_lies hp
      have hq4 := copy_liesC l (m.hap (cloneL p l.length (l.flatMap cellF.enc)))
      simp (maxDischargeDepth := 8) only [go_sem, reduceIte, reduceCtorEq, Nat.reduceEqDiff, Nat.reduceAdd, Nat.reduceMul, Nat.reduceSub, Nat.reduceLeDiff, Nat.reduceLT, Nat.reduceBEq, Int.reduceToNat, Int.reduceEq, Int.reduceLT, Int.reduceLE, Int.reduceAdd, Int.reduceSub, Int.reduceMul, Int.reduceNeg] at hq4
      have hs3 := fun {X : Mem} (hX : HpSub (m.hap (cloneL p l.length (l.flatMap cellF.enc) ++ copyL l.length (l.flatMap cellF.enc))) X) (hw : X.Wf) => r_law21_same (LiesD.happ hq3 _) hq4 (by simp only [two48] at *; omega) hX hw rfl
      have e1 := fun {X : Mem} (hX : HpSub m X) (hw : X.Wf) => (r_unit_Step hp hb hX hw id pl cl sz ax ay 1 gx gy wt).trans ((if_pos hg).trans (if_pos hn))
      have e2 := fun {X : Mem} (hX : HpSub m X) (hw : X.Wf) => (r_ref21_Step hp hb hX hw id pl cl sz ax ay 1 gx gy wt).trans ((if_pos hg).trans (if_pos hn))
      simp (maxDischargeDepth := 8) only [go_sem, reduceIte, reduceCtorEq, Nat.reduceEqDiff, Nat.reduceAdd, Nat.reduceMul, Nat.reduceSub, Nat.reduceLeDiff, Nat.reduceLT, Nat.reduceBEq, Int.reduceToNat, Int.reduceEq, Int.reduceLT, Int.reduceLE, Int.reduceAdd, Int.reduceSub, Int.reduceMul, Int.reduceNeg, s_law21_UnitTurns, hm, unitV, hp.cell, e1, e2, e3, e4, hsame, cells_clone, cell_clone, lv_clone, hs3]
      cases hA : asideB id pl cl sz ax ay 1 gx gy wt a b l with
      | false => simp (maxDischargeDepth := 8) only [go_sem, reduceIte, reduceCtorEq, Nat.reduceEqDiff, Nat.reduceAdd, Nat.reduceMul, Nat.reduceSub, Nat.reduceLeDiff, Nat.reduceLT, Nat.reduceBEq, Int.reduceToNat, Int.reduceEq, Int.reduceLT, Int.reduceLE, Int.reduceAdd, Int.reduceSub, Int.reduceMul, Int.reduceNeg, hm, hp.cell, r_unit_Aside hp hb, r_ref21_Aside hp hb, hA, hsame, cells_clone, cell_clone, lv_clone, e5, e6, r_law21_awake]
      | true => simp (maxDischargeDepth := 8) only [go_sem, reduceIte, reduceCtorEq, Nat.reduceEqDiff, Nat.reduceAdd, Nat.reduceMul, Nat.reduceSub, Nat.reduceLeDiff, Nat.reduceLT, Nat.reduceBEq, Int.reduceToNat, Int.reduceEq, Int.reduceLT, Int.reduceLE, Int.reduceAdd, Int.reduceSub, Int.reduceMul, Int.reduceNeg, hm, hp.cell, r_unit_Aside hp hb, r_ref21_Aside hp hb, hA, hsame, cells_clone, cell_clone, lv_clone, e5, e6, r_law21_awake]
    · have hd : LiesD cellF m (dropV 2 1 p) (l.drop 1) := LiesD.drop cellF_even hp hpos
      have hq1 := cloneL_lies hd
      generalize hL1 : cloneL (dropV 2 1 p) (l.drop 1).length ((l.drop 1).flatMap cellF.enc) = L1 at hq1
      have hq2 := copy_liesC (l.drop 1) (m.hap L1)
      simp (maxDischargeDepth := 8) only [go_sem, reduceIte, reduceCtorEq, Nat.reduceEqDiff, Nat.reduceAdd, Nat.reduceMul, Nat.reduceSub, Nat.reduceLeDiff, Nat.reduceLT, Nat.reduceBEq, Int.reduceToNat, Int.reduceEq, Int.reduceLT, Int.reduceLE, Int.reduceAdd, Int.reduceSub, Int.reduceMul, Int.reduceNeg] at hq2
      generalize hL2 : copyL (l.drop 1).length ((l.drop 1).flatMap cellF.enc) = L2 at hq2
      have hq3 := cloneL_lies (LiesD.sub hp (hpsub_hap (hpsub_refl m) (L1 ++ L2)))
      simp (maxDischargeDepth := 8) only [go_sem, reduceIte, reduceCtorEq, Nat.reduceEqDiff, Nat.reduceAdd, Nat.reduceMul, Nat.reduceSub, Nat.reduceLeDiff, Nat.reduceLT, Nat.reduceBEq, Int.reduceToNat, Int.reduceEq, Int.reduceLT, Int.reduceLE, Int.reduceAdd, Int.reduceSub, Int.reduceMul, Int.reduceNeg] at hq3
      generalize hL3 : cloneL p l.length (l.flatMap cellF.enc) = L3 at hq3
      have hq4 := copy_liesC l (m.hap (L1 ++ L2 ++ L3))
      simp (maxDischargeDepth := 8) only [go_sem, reduceIte, reduceCtorEq, Nat.reduceEqDiff, Nat.reduceAdd, Nat.reduceMul, Nat.reduceSub, Nat.reduceLeDiff, Nat.reduceLT, Nat.reduceBEq, Int.reduceToNat, Int.reduceEq, Int.reduceLT, Int.reduceLE, Int.reduceAdd, Int.reduceSub, Int.reduceMul, Int.reduceNeg] at hq4
      generalize hL4 : copyL l.length (l.flatMap cellF.enc) = L4 at hq4
      have e1 := fun {X : Mem} (hX : HpSub m X) (hw : X.Wf) => (r_unit_Step hp hb hX hw id pl cl sz ax ay 1 gx gy wt).trans ((if_pos hg).trans (if_neg hn))
      have e2 := fun {X : Mem} (hX : HpSub m X) (hw : X.Wf) => (r_ref21_Step hp hb hX hw id pl cl sz ax ay 1 gx gy wt).trans ((if_pos hg).trans (if_neg hn))
      rw [hL1] at e1
      rw [hL2] at e2
      rw [hL3] at e3
      rw [hL4] at e4
      have hld : (l.drop 1).length ≤ l.length := by rw [List.length_drop]; omega
      have s12 := fun {X : Mem} (hX : HpSub (m.hap (L1 ++ L2 ++ L3 ++ L4)) X) (hw : X.Wf) => r_law21_same (((hq1.happ L2).happ L3).happ L4) ((hq2.happ L3).happ L4) (by simp only [two48] at *; omega) hX hw rfl
      have s34 := fun {X : Mem} (hX : HpSub (m.hap (L1 ++ L2 ++ L3 ++ L4)) X) (hw : X.Wf) => r_law21_same (hq3.happ L4) hq4 (by simp only [two48] at *; omega) hX hw rfl
      simp (maxDischargeDepth := 8) only [go_sem, reduceIte, reduceCtorEq, Nat.reduceEqDiff, Nat.reduceAdd, Nat.reduceMul, Nat.reduceSub, Nat.reduceLeDiff, Nat.reduceLT, Nat.reduceBEq, Int.reduceToNat, Int.reduceEq, Int.reduceLT, Int.reduceLE, Int.reduceAdd, Int.reduceSub, Int.reduceMul, Int.reduceNeg, s_law21_UnitTurns, hm, unitV, hp.cell, e1, e2, e3, e4, hsame, cells_clone, cell_clone, lv_clone, s12, s34]
      cases hA : asideB id pl cl sz ax ay 1 gx gy wt a b l with
      | false => simp (maxDischargeDepth := 8) only [go_sem, reduceIte, reduceCtorEq, Nat.reduceEqDiff, Nat.reduceAdd, Nat.reduceMul, Nat.reduceSub, Nat.reduceLeDiff, Nat.reduceLT, Nat.reduceBEq, Int.reduceToNat, Int.reduceEq, Int.reduceLT, Int.reduceLE, Int.reduceAdd, Int.reduceSub, Int.reduceMul, Int.reduceNeg, hm, hp.cell, r_unit_Aside hp hb, r_ref21_Aside hp hb, hA, hsame, cells_clone, cell_clone, lv_clone, e5, e6, r_law21_awake]
      | true => simp (maxDischargeDepth := 8) only [go_sem, reduceIte, reduceCtorEq, Nat.reduceEqDiff, Nat.reduceAdd, Nat.reduceMul, Nat.reduceSub, Nat.reduceLeDiff, Nat.reduceLT, Nat.reduceBEq, Int.reduceToNat, Int.reduceEq, Int.reduceLT, Int.reduceLE, Int.reduceAdd, Int.reduceSub, Int.reduceMul, Int.reduceNeg, hm, hp.cell, r_unit_Aside hp hb, r_ref21_Aside hp hb, hA, hsame, cells_clone, cell_clone, lv_clone, e5, e6, r_law21_awake]
theorem law21_UnitTurns {P : Program} {e : TypeId} {ok : Int × Int → Prop} (u : UT) (g : Int × Int) (hok : slOk P e ok u.path) (h16 : P.bytesOf e = 16) {n0 n1 : In} (e0 : n0.map (·.2) = rdU.blks u 0) : ∃ m', RF tb f_law21_UnitTurns [.agg (rdU.cells u 0), .agg [.int .i64 g.1, .int .i64 g.2]] (In.mem ([] ++ n0 ++ n1)) = some (.bool true, m') := by
  rw [rdU_blks] at e0
  have hp := sl_in hok (pre := []) (post := n1) e0
  exact ex_of (r_law21_UnitTurns hp (sl_bound hok h16) (In.wf _) _ _ _ _ _ _ _ _ _ _ _ _)
end Go.Sh.T
