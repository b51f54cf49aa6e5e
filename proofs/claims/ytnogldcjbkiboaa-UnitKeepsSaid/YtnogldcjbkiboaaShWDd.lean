import Derived.Test.YtnogldcjbkiboaaShWDc
set_option linter.all false
set_option linter.unusedVariables false
set_option linter.unusedSimpArgs false
set_option autoImplicit false
namespace Go.Sh.T
open Go.Sh
set_option maxHeartbeats 8000000
set_option maxRecDepth 20000
theorem goB_next {id pl cl sz ax ay gx gy wt : Int} {c : Int × Int} {r : List (Int × Int)} (h : goB id pl cl sz ax ay 1 gx gy wt (c :: r) = true) :
    (r = [] → c = (gx, gy)) ∧ (r ≠ [] → goB id pl cl sz c.1 c.2 1 gx gy 0 r = true) := by
  have h2 := h
  simp only [goB, mayU, Bool.and_eq_true, decide_eq_true_eq] at h
  obtain ⟨_, hh, hm⟩ := h
  have hm : movingB ax ay gx gy (c :: r) = true := hm
  simp only [headB, movingB, wayB, endC, Bool.and_eq_true, decide_eq_true_eq, List.length_cons] at hh hm
  refine ⟨fun e => ?_, fun e => ?_⟩
  · subst e; exact of_decide_eq_true hm.1.2
  · have hr : 0 < r.length := List.length_pos_iff.2 e
    simp only [goB, mayU, Bool.and_eq_true, decide_eq_true_eq]
    refine ⟨trivial, ?_, ?_⟩
    · simp only [headB, Bool.and_eq_true, decide_eq_true_eq]
      simp_all
    · show movingB c.1 c.2 gx gy r = true
      simp only [movingB, Bool.and_eq_true, decide_eq_true_eq]
      exact ⟨⟨⟨hr, by omega⟩, of_decide_eq_true hm.1.2⟩, hm.2.2⟩
theorem r_law21_UnitWalks {m : Mem} {p : SV} {l : List (Int × Int)} (hp : LiesD cellF m p l) (hb : 2 * l.length * 16 ≤ two48) (hm : m.Wf) (id pl cl sz ax ay ph gx gy wt : Int) :
    RF tb f_law21_UnitWalks [unitV id pl cl sz ax ay ph gx gy p wt] m = some (.bool true, m) := by
  rw [RF_go t_law21_UnitWalks _ _ rfl]
  simp (maxDischargeDepth := 8) only [go_sem, reduceIte, reduceCtorEq, Nat.reduceEqDiff, Nat.reduceAdd, Nat.reduceMul, Nat.reduceSub, Nat.reduceLeDiff, Nat.reduceLT, Nat.reduceBEq, Int.reduceToNat, Int.reduceEq, Int.reduceLT, Int.reduceLE, Int.reduceAdd, Int.reduceSub, Int.reduceMul, Int.reduceNeg, s_law21_UnitWalks, hm, unitV, hp.cell, r_ref21_May hp hb]
  cases h1 : mayU id pl cl sz ax ay ph gx gy wt l with
  | false => simp (maxDischargeDepth := 8) only [go_sem, reduceIte, reduceCtorEq, Nat.reduceEqDiff, Nat.reduceAdd, Nat.reduceMul, Nat.reduceSub, Nat.reduceLeDiff, Nat.reduceLT, Nat.reduceBEq, Int.reduceToNat, Int.reduceEq, Int.reduceLT, Int.reduceLE, Int.reduceAdd, Int.reduceSub, Int.reduceMul, Int.reduceNeg, hm, r_law21_awake]
  | true =>
  by_cases h2 : ¬ ph = 1
  · simp (maxDischargeDepth := 8) only [go_sem, reduceIte, reduceCtorEq, Nat.reduceEqDiff, Nat.reduceAdd, Nat.reduceMul, Nat.reduceSub, Nat.reduceLeDiff, Nat.reduceLT, Nat.reduceBEq, Int.reduceToNat, Int.reduceEq, Int.reduceLT, Int.reduceLE, Int.reduceAdd, Int.reduceSub, Int.reduceMul, Int.reduceNeg, hm, show (ph != 1) = true by simpa using h2, r_law21_awake]
  obtain rfl : ph = 1 := Decidable.not_not.1 h2
  have hg : goB id pl cl sz ax ay 1 gx gy wt l = true := by simp [goB, h1]
  obtain ⟨_, _, hpos, _, _⟩ := goB_pos hg
  simp (maxDischargeDepth := 8) only [go_sem, reduceIte, reduceCtorEq, Nat.reduceEqDiff, Nat.reduceAdd, Nat.reduceMul, Nat.reduceSub, Nat.reduceLeDiff, Nat.reduceLT, Nat.reduceBEq, Int.reduceToNat, Int.reduceEq, Int.reduceLT, Int.reduceLE, Int.reduceAdd, Int.reduceSub, Int.reduceMul, Int.reduceNeg, hm, show ((1 : Int) != 1) = false from rfl, hp.cell]
  rw [KL_keep _ _ _ (by simp (maxDischargeDepth := 8) only [go_sem, reduceIte, reduceCtorEq, Nat.reduceEqDiff, Nat.reduceAdd, Nat.reduceMul, Nat.reduceSub, Nat.reduceLeDiff, Nat.reduceLT, Nat.reduceBEq, Int.reduceToNat, Int.reduceEq, Int.reduceLT, Int.reduceLE, Int.reduceAdd, Int.reduceSub, Int.reduceMul, Int.reduceNeg])]
  simp (maxDischargeDepth := 8) only [go_sem, reduceIte, reduceCtorEq, Nat.reduceEqDiff, Nat.reduceAdd, Nat.reduceMul, Nat.reduceSub, Nat.reduceLeDiff, Nat.reduceLT, Nat.reduceBEq, Int.reduceToNat, Int.reduceEq, Int.reduceLT, Int.reduceLE, Int.reduceAdd, Int.reduceSub, Int.reduceMul, Int.reduceNeg]
  rw [← hap_nil (m.fr _ _)]
  refine KL_indE (α := Nat × (Int × Int) × Int × (Int × Int) × SV × Int × List (Nat × SBk)) (fun s => l.length - s.1) (fun s => [(1, .ptr (.st m.dep 0) 0), (3, .ptr (.st m.dep 1) 0), (4, .int .i64 (s.1 : Int))])
    (fun s => (m.fr [.cells true [.int .i64 id, .int .i64 pl, .int .i64 cl, .int .i64 sz, .int .i64 ax, .int .i64 ay, .int .i64 1, .int .i64 gx, .int .i64 gy, p, .int .i64 wt], .cells true [.int .i64 id, .int .i64 pl, .int .i64 cl, .int .i64 sz, .int .i64 s.2.1.1, .int .i64 s.2.1.2, .int .i64 s.2.2.1, .int .i64 s.2.2.2.1.1, .int .i64 s.2.2.2.1.2, s.2.2.2.2.1, .int .i64 s.2.2.2.2.2.1]] none).hap s.2.2.2.2.2.2)
    (fun s => LiesD cellF (m.hap s.2.2.2.2.2.2) s.2.2.2.2.1 (l.drop s.1) ∧ ((s.1 < l.length ∧ s.2.2.1 = 1 ∧ s.2.2.2.1 = (gx, gy) ∧ goB id pl cl sz s.2.1.1 s.2.1.2 1 gx gy s.2.2.2.2.2.1 (l.drop s.1) = true) ∨ (s.1 = l.length ∧ s.2.2.1 = 0 ∧ s.2.1 = (gx, gy)))) ?_ (0, (ax, ay), 1, (gx, gy), p, wt, []) ⟨by simpa [hap_nil] using hp, .inl ⟨hpos, rfl, rfl, hg⟩⟩
  rintro ⟨i, ⟨a, b⟩, q, ⟨g, h⟩, v, w, L⟩ ⟨hv, hI⟩ ih
  dsimp only at hv hI ⊢
  simp (maxDischargeDepth := 8) only [go_sem, reduceIte, reduceCtorEq, Nat.reduceEqDiff, Nat.reduceAdd, Nat.reduceMul, Nat.reduceSub, Nat.reduceLeDiff, Nat.reduceLT, Nat.reduceBEq, Int.reduceToNat, Int.reduceEq, Int.reduceLT, Int.reduceLE, Int.reduceAdd, Int.reduceSub, Int.reduceMul, Int.reduceNeg, hm, hp.cell, hp.len, hv.cell]
  rcases hI with ⟨hlt, rfl, he, hgo⟩ | ⟨rfl, rfl, he⟩
  · cases he
    have hel : l[i]? = some l[i] := List.getElem?_eq_getElem hlt
    generalize l[i] = c at hel
    have hdr : l.drop i = c :: l.drop (i + 1) := by
      rw [List.drop_eq_getElem_cons hlt]
      congr 1
      exact Option.some.inj ((List.getElem?_eq_getElem hlt).symm.trans hel)
    have hbd : 2 * (l.drop i).length * 16 ≤ two48 := by rw [List.length_drop]; simp only [two48] at *; omega
    have hw2 : IntKind.wrap .i64 ((i : Int) + 1) = ((i + 1 : Nat) : Int) := by rw [wrap_small (by omega) (by simp only [two48] at hb; omega)]; rfl
    have hnx := goB_next (hdr ▸ hgo)
    have hhd : (l.drop i).headD (0, 0) = c := by rw [hdr]; rfl
    have hd1 : (l.drop i).drop 1 = l.drop (i + 1) := by rw [List.drop_drop]
    have hln : (l.drop i).length = l.length - i := List.length_drop
    by_cases hn : (l.drop i).length = 1
    · have e1 := fun {X : Mem} (hX : HpSub (m.hap L) X) (hw : X.Wf) => (r_unit_Step hv hbd hX hw id pl cl sz a b 1 gx gy w).trans ((if_pos hgo).trans (if_pos hn))
      rw [hhd] at e1
      have hc : c = (gx, gy) := hnx.1 (List.eq_nil_of_length_eq_zero (by rw [List.length_drop]; omega))
      simp (maxDischargeDepth := 8) only [go_sem, reduceIte, reduceCtorEq, Nat.reduceEqDiff, Nat.reduceAdd, Nat.reduceMul, Nat.reduceSub, Nat.reduceLeDiff, Nat.reduceLT, Nat.reduceBEq, Int.reduceToNat, Int.reduceEq, Int.reduceLT, Int.reduceLE, Int.reduceAdd, Int.reduceSub, Int.reduceMul, Int.reduceNeg, show decide ((i : Int) < (l.length : Int)) = true from decide_eq_true (by omega), hm, hv.cell, hp.cell, e1, hp.iaddrC hlt, hp.loadC hel, hw2]
      rw [KL_keep _ _ _ (by simp (maxDischargeDepth := 8) only [go_sem, reduceIte, reduceCtorEq, Nat.reduceEqDiff, Nat.reduceAdd, Nat.reduceMul, Nat.reduceSub, Nat.reduceLeDiff, Nat.reduceLT, Nat.reduceBEq, Int.reduceToNat, Int.reduceEq, Int.reduceLT, Int.reduceLE, Int.reduceAdd, Int.reduceSub, Int.reduceMul, Int.reduceNeg])]
      simp (maxDischargeDepth := 8) only [go_sem, reduceIte, reduceCtorEq, Nat.reduceEqDiff, Nat.reduceAdd, Nat.reduceMul, Nat.reduceSub, Nat.reduceLeDiff, Nat.reduceLT, Nat.reduceBEq, Int.reduceToNat, Int.reduceEq, Int.reduceLT, Int.reduceLE, Int.reduceAdd, Int.reduceSub, Int.reduceMul, Int.reduceNeg]
      refine ih (i + 1, c, 0, (0, 0), .nils, 0, L) ⟨?_, .inr ⟨by dsimp only; omega, rfl, hc⟩⟩ (by dsimp only; omega)
      rw [show l.drop (i + 1) = [] from List.eq_nil_of_length_eq_zero (by rw [List.length_drop]; omega)]
      exact LiesD.nil _ _
    · have hd : LiesD cellF (m.hap L) (dropV 2 1 v) (l.drop (i + 1)) := by rw [← hd1]; exact LiesD.drop cellF_even hv (by omega)
      have e1 := fun {X : Mem} (hX : HpSub (m.hap L) X) (hw : X.Wf) => (r_unit_Step hv hbd hX hw id pl cl sz a b 1 gx gy w).trans ((if_pos hgo).trans (if_neg hn))
      rw [hhd, hd1] at e1
      have hq := cloneL_lies hd
      simp (maxDischargeDepth := 8) only [go_sem, reduceIte, reduceCtorEq, Nat.reduceEqDiff, Nat.reduceAdd, Nat.reduceMul, Nat.reduceSub, Nat.reduceLeDiff, Nat.reduceLT, Nat.reduceBEq, Int.reduceToNat, Int.reduceEq, Int.reduceLT, Int.reduceLE, Int.reduceAdd, Int.reduceSub, Int.reduceMul, Int.reduceNeg] at hq
      simp (maxDischargeDepth := 8) only [go_sem, reduceIte, reduceCtorEq, Nat.reduceEqDiff, Nat.reduceAdd, Nat.reduceMul, Nat.reduceSub, Nat.reduceLeDiff, Nat.reduceLT, Nat.reduceBEq, Int.reduceToNat, Int.reduceEq, Int.reduceLT, Int.reduceLE, Int.reduceAdd, Int.reduceSub, Int.reduceMul, Int.reduceNeg, show decide ((i : Int) < (l.length : Int)) = true from decide_eq_true (by omega), hm, hv.cell, hp.cell, e1, hp.iaddrC hlt, hp.loadC hel, hw2, cells_clone, cell_clone, lv_clone]
      rw [KL_keep _ _ _ (by simp (maxDischargeDepth := 8) only [go_sem, reduceIte, reduceCtorEq, Nat.reduceEqDiff, Nat.reduceAdd, Nat.reduceMul, Nat.reduceSub, Nat.reduceLeDiff, Nat.reduceLT, Nat.reduceBEq, Int.reduceToNat, Int.reduceEq, Int.reduceLT, Int.reduceLE, Int.reduceAdd, Int.reduceSub, Int.reduceMul, Int.reduceNeg])]
      simp (maxDischargeDepth := 8) only [go_sem, reduceIte, reduceCtorEq, Nat.reduceEqDiff, Nat.reduceAdd, Nat.reduceMul, Nat.reduceSub, Nat.reduceLeDiff, Nat.reduceLT, Nat.reduceBEq, Int.reduceToNat, Int.reduceEq, Int.reduceLT, Int.reduceLE, Int.reduceAdd, Int.reduceSub, Int.reduceMul, Int.reduceNeg]
      exact ih (i + 1, c, 1, (gx, gy), _, 0, _) ⟨hq, .inl ⟨by dsimp only; omega, rfl, rfl, hnx.2 (by intro h; have := congrArg List.length h; rw [List.length_drop, List.length_nil] at this; omega)⟩⟩ (by dsimp only; omega)
  · cases he
    simp (maxDischargeDepth := 8) only [go_sem, reduceIte, reduceCtorEq, Nat.reduceEqDiff, Nat.reduceAdd, Nat.reduceMul, Nat.reduceSub, Nat.reduceLeDiff, Nat.reduceLT, Nat.reduceBEq, Int.reduceToNat, Int.reduceEq, Int.reduceLT, Int.reduceLE, Int.reduceAdd, Int.reduceSub, Int.reduceMul, Int.reduceNeg, show decide (((l.length : Nat) : Int) < (l.length : Int)) = false from decide_eq_false (by omega), hm, hv.cell, hp.cell, r_law21_awake]
theorem law21_UnitWalks {P : Program} {e : TypeId} {ok : Int × Int → Prop} (u : UT) (hok : slOk P e ok u.path) (h16 : P.bytesOf e = 16) {n0 : In} (e0 : n0.map (·.2) = rdU.blks u 0) : ∃ m', RF tb f_law21_UnitWalks [.agg (rdU.cells u 0)] (In.mem ([] ++ n0)) = some (.bool true, m') := by
  rw [rdU_blks] at e0
  have hp := sl_in hok (pre := []) (post := []) e0
  rw [List.append_nil] at hp
  exact ex_of (r_law21_UnitWalks hp (sl_bound hok h16) (In.wf _) _ _ _ _ _ _ _ _ _ _)
end Go.Sh.T
