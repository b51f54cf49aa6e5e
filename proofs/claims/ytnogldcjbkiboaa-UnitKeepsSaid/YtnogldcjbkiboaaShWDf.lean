import Derived.Test.YtnogldcjbkiboaaShWDh
set_option linter.all false
set_option linter.unusedVariables false
set_option linter.unusedSimpArgs false
set_option autoImplicit false
namespace Go.Sh.T
open Go.Sh
set_option maxHeartbeats 8000000
set_option maxRecDepth 20000
theorem may_stop {id pl cl sz ax ay gx gy wt bx by' : Int} (h : headB id pl cl sz ax ay gx gy wt = true) (hc : cellB bx by' = true) : mayU id pl cl sz bx by' 0 0 0 0 [] = true := by
  simp only [headB, Bool.and_eq_true] at h
  simp only [mayU, headB, phaseB, Bool.and_eq_true, hc]
  simp_all [idleB, cellB, stuckB]
theorem may_aim {id pl cl sz ax ay gx gy wt bx by' a b : Int} (h : headB id pl cl sz ax ay gx gy wt = true) (hc : cellB bx by' = true) (hg : cellB a b = true) : mayU id pl cl sz bx by' (iB (aimB bx by' a b) 2) (iB (aimB bx by' a b) a) (iB (aimB bx by' a b) b) 0 [] = true := by
  cases aimB bx by' a b with
  | false => exact may_stop h hc
  | true =>
    simp only [headB, Bool.and_eq_true] at h
    simp only [mayU, headB, phaseB, Bool.and_eq_true, hc, iB_t, hg]
    simp_all [stuckB]
theorem may_hold {id pl cl sz ax ay gx gy wt : Int} {l : List (Int × Int)} (h : goB id pl cl sz ax ay 1 gx gy wt l = true) : mayU id pl cl sz ax ay 1 gx gy (holdW wt) l = true := by
  have h2 := (goB_pos h).2.2.2.2
  have hw := (goB_pos h).2.2.2.1
  have hw' : 0 ≤ holdW wt ∧ holdW wt ≤ 15 := by unfold holdW; split <;> omega
  simp only [mayU, headB, phaseB, Bool.and_eq_true, decide_eq_true_eq] at *
  simp_all
theorem goB_head {id pl cl sz ax ay ph gx gy wt : Int} {l : List (Int × Int)} (h : goB id pl cl sz ax ay ph gx gy wt l = true) : cellB (l.headD (0, 0)).1 (l.headD (0, 0)).2 = true := by
  have hm := (goB_pos h).2.1
  cases l with
  | nil => simp [movingB] at hm
  | cons c r =>
    simp only [movingB, wayB, Bool.and_eq_true] at hm
    exact hm.2.1.1
theorem clone_ok {m : Mem} {L : List (Nat × SBk)} {j : Nat} {v : SV} {l : List (Int × Int)} (hp : LiesD cellF m v l) (hj : j < L.length) (y : Nat × SBk) : LiesD cellF (m.hap ((L ++ cloneL v l.length (l.flatMap cellF.enc)).set j y)) (cloneV (m.hl + L.length) v l.length 2) l := by
  have := cloneL_lies (LiesD.sub hp (hpsub_hap (hpsub_refl m) (L.set j y)))
  rw [hap_hap, hl_hap, List.length_set] at this
  rwa [List.set_append_left _ _ hj]
structure KS where
  k : Nat
  j : Nat
  w : Nat
  cap : Option Nat
  L : List (Nat × SBk)
  us : List UR
  e : Option Nat
theorem keeps_loop {m : Mem} {p q : SV} {l k : List (Int × Int)} (hp : LiesD cellF m p l) (hb : 2 * l.length * 16 ≤ two48) (hq : LiesD cellF m q k) (hb' : 2 * k.length * 16 ≤ two48) (hm : m.Wf) (hhb : m.hb ≤ m.hl) (id pl cl sz ax ay ph gx gy wt tx ty : Int) (h1 : mayU id pl cl sz ax ay ph gx gy wt l = true)
    (s : KS) (hs : s.k ≤ 5 ∧ UGood id pl cl sz m s.j s.w s.L s.us ∧ 0 < s.us.length ∧ s.us.length ≤ s.k + 2) :
    Option.map Prod.fst (fin [SRes.t 6] m (KL tb [KI.block 0, KI.kp [3, 7], KI.seq s_law21_UnitKeeps_p23] 2 (some [2, 3, 4, 7, 8]) s_law21_UnitKeeps_p18
      [(2, q), (3, .ptr (.st m.dep 0) 0), (4, .ptr (.st m.dep 1) 0), (7, .sl (.hp (m.hl + s.j) s.w) 0 s.us.length s.cap 11), (8, .int .i64 (s.k : Int))]
      ((m.fr [.cells true [.int .i64 id, .int .i64 pl, .int .i64 cl, .int .i64 sz, .int .i64 ax, .int .i64 ay, .int .i64 ph, .int .i64 gx, .int .i64 gy, p, .int .i64 wt], .cells true [.int .i64 tx, .int .i64 ty]] s.e).hap s.L))) = some (.bool true) := by
  have hH : headB id pl cl sz ax ay gx gy wt = true := by simp only [mayU, Bool.and_eq_true] at h1; exact h1.1
  have hA : cellB ax ay = true := by simp only [headB, Bool.and_eq_true] at hH; simp_all
  have hGc : cellB gx gy = true := by simp only [headB, Bool.and_eq_true] at hH; simp_all
  refine KL_ind (R := fun z => Option.map Prod.fst (fin [SRes.t 6] m z) = some (.bool true)) (fun s : KS => 5 - s.k)
    (fun s => [(2, q), (3, .ptr (.st m.dep 0) 0), (4, .ptr (.st m.dep 1) 0), (7, .sl (.hp (m.hl + s.j) s.w) 0 s.us.length s.cap 11), (8, .int .i64 (s.k : Int))])
    (fun s => (m.fr [.cells true [.int .i64 id, .int .i64 pl, .int .i64 cl, .int .i64 sz, .int .i64 ax, .int .i64 ay, .int .i64 ph, .int .i64 gx, .int .i64 gy, p, .int .i64 wt], .cells true [.int .i64 tx, .int .i64 ty]] s.e).hap s.L)
    (fun s => s.k ≤ 5 ∧ UGood id pl cl sz m s.j s.w s.L s.us ∧ 0 < s.us.length ∧ s.us.length ≤ s.k + 2) ?_ s hs
  clear s hs
  rintro ⟨z, j, w, cap, L, us, e⟩ ⟨hz, hu, hu0, hun⟩ ih
  dsimp only at hz hu hu0 hun ⊢
  have hw2 : IntKind.wrap .i64 ((z : Int) + 1) = ((z + 1 : Nat) : Int) := by rw [wrap_small (by omega) (by omega)]; rfl
  simp (maxDischargeDepth := 8) only [go_sem, reduceIte, reduceCtorEq, Nat.reduceEqDiff, Nat.reduceAdd, Nat.reduceMul, Nat.reduceSub, Nat.reduceLeDiff, Nat.reduceLT, Nat.reduceBEq, Int.reduceToNat, Int.reduceEq, Int.reduceLT, Int.reduceLE, Int.reduceAdd, Int.reduceSub, Int.reduceMul, Int.reduceNeg, hm, hp.cell, hq.lv]
  have hlt : z < 5 ∨ z = 5 := by omega
  rcases hlt with hlt | rfl
  · simp (maxDischargeDepth := 8) only [go_sem, reduceIte, reduceCtorEq, Nat.reduceEqDiff, Nat.reduceAdd, Nat.reduceMul, Nat.reduceSub, Nat.reduceLeDiff, Nat.reduceLT, Nat.reduceBEq, Int.reduceToNat, Int.reduceEq, Int.reduceLT, Int.reduceLE, Int.reduceAdd, Int.reduceSub, Int.reduceMul, Int.reduceNeg, show decide ((z : Int) < 5) = true from decide_eq_true (by omega), hm, hp.cell]
    have hz5 : z = 0 ∨ z = 1 ∨ z = 2 ∨ z = 3 ∨ z = 4 := by omega
    rcases hz5 with h | h | h | h | h
    · have hzz : ((z : Int) == 0) = true := by subst h; rfl
      cases hg : goB id pl cl sz ax ay ph gx gy wt l with
      | false =>
        have e1 := fun {X : Mem} (hX : HpSub m X) (hw : X.Wf) => (r_unit_Step hp hb hX hw id pl cl sz ax ay ph gx gy wt).trans (if_neg (by simp [hg]))
        simp (maxDischargeDepth := 8) only [go_sem, reduceIte, reduceCtorEq, Nat.reduceEqDiff, Nat.reduceAdd, Nat.reduceMul, Nat.reduceSub, Nat.reduceLeDiff, Nat.reduceLT, Nat.reduceBEq, Int.reduceToNat, Int.reduceEq, Int.reduceLT, Int.reduceLE, Int.reduceAdd, Int.reduceSub, Int.reduceMul, Int.reduceNeg, hzz, e1, hm, hp.cell, hw2, show ((1 : Int) == 0) = false from rfl]
        rw [KL_keep _ _ _ (by simp (maxDischargeDepth := 8) only [go_sem, reduceIte, reduceCtorEq, Nat.reduceEqDiff, Nat.reduceAdd, Nat.reduceMul, Nat.reduceSub, Nat.reduceLeDiff, Nat.reduceLT, Nat.reduceBEq, Int.reduceToNat, Int.reduceEq, Int.reduceLT, Int.reduceLE, Int.reduceAdd, Int.reduceSub, Int.reduceMul, Int.reduceNeg, hq.lv])]
        simp (maxDischargeDepth := 8) only [go_sem, reduceIte, reduceCtorEq, Nat.reduceEqDiff, Nat.reduceAdd, Nat.reduceMul, Nat.reduceSub, Nat.reduceLeDiff, Nat.reduceLT, Nat.reduceBEq, Int.reduceToNat, Int.reduceEq, Int.reduceLT, Int.reduceLE, Int.reduceAdd, Int.reduceSub, Int.reduceMul, Int.reduceNeg]
        exact ih ⟨z + 1, j, w, cap, L, us, e⟩ ⟨by dsimp only; omega, hu, hu0, by dsimp only; omega⟩ (by dsimp only; omega)
      | true =>
        have hc := goB_head hg
        obtain ⟨rfl, _, hpos, _, _⟩ := goB_pos hg
        by_cases hn : l.length = 1
        · have e1 := fun {X : Mem} (hX : HpSub m X) (hw : X.Wf) => (r_unit_Step hp hb hX hw id pl cl sz ax ay 1 gx gy wt).trans ((if_pos hg).trans (if_pos hn))
          obtain ⟨j', w', L', ef, ha, hg'⟩ := appU hhb hu (by omega) hu0 cap (u := ⟨(l.headD (0, 0)).1, (l.headD (0, 0)).2, 0, 0, 0, .nils, 0, []⟩) ⟨(fun y => LiesD.nil _ _), (show 2 * 0 * 16 ≤ two48 by decide), may_stop hH hc⟩
          have hg'' := hg'
          simp (maxDischargeDepth := 8) only [go_sem, reduceIte, reduceCtorEq, Nat.reduceEqDiff, Nat.reduceAdd, Nat.reduceMul, Nat.reduceSub, Nat.reduceLeDiff, Nat.reduceLT, Nat.reduceBEq, Int.reduceToNat, Int.reduceEq, Int.reduceLT, Int.reduceLE, Int.reduceAdd, Int.reduceSub, Int.reduceMul, Int.reduceNeg, UR.cells] at ha
          simp (maxDischargeDepth := 8) only [go_sem, reduceIte, reduceCtorEq, Nat.reduceEqDiff, Nat.reduceAdd, Nat.reduceMul, Nat.reduceSub, Nat.reduceLeDiff, Nat.reduceLT, Nat.reduceBEq, Int.reduceToNat, Int.reduceEq, Int.reduceLT, Int.reduceLE, Int.reduceAdd, Int.reduceSub, Int.reduceMul, Int.reduceNeg, hzz, e1, hm, hp.cell, hw2, cells_clone, cell_clone, lv_clone, ha]
          rw [KL_keep _ _ _ (by simp (maxDischargeDepth := 8) only [go_sem, reduceIte, reduceCtorEq, Nat.reduceEqDiff, Nat.reduceAdd, Nat.reduceMul, Nat.reduceSub, Nat.reduceLeDiff, Nat.reduceLT, Nat.reduceBEq, Int.reduceToNat, Int.reduceEq, Int.reduceLT, Int.reduceLE, Int.reduceAdd, Int.reduceSub, Int.reduceMul, Int.reduceNeg, hq.lv])]
          simp (maxDischargeDepth := 8) only [go_sem, reduceIte, reduceCtorEq, Nat.reduceEqDiff, Nat.reduceAdd, Nat.reduceMul, Nat.reduceSub, Nat.reduceLeDiff, Nat.reduceLT, Nat.reduceBEq, Int.reduceToNat, Int.reduceEq, Int.reduceLT, Int.reduceLE, Int.reduceAdd, Int.reduceSub, Int.reduceMul, Int.reduceNeg]
          exact ih ⟨z + 1, j', w', none, L', us ++ [⟨(l.headD (0, 0)).1, (l.headD (0, 0)).2, 0, 0, 0, .nils, 0, []⟩], ef e⟩ ⟨by dsimp only; omega, hg'', by rw [List.length_append]; exact Nat.succ_pos _, by rw [List.length_append, List.length_cons, List.length_nil]; dsimp only; omega⟩ (by dsimp only; omega)
        · have e1 := fun {X : Mem} (hX : HpSub m X) (hw : X.Wf) => (r_unit_Step hp hb hX hw id pl cl sz ax ay 1 gx gy wt).trans ((if_pos hg).trans (if_neg hn))
          have hd : LiesD cellF m (dropV 2 1 p) (l.drop 1) := LiesD.drop cellF_even hp hpos
          have hbd : 2 * (l.drop 1).length * 16 ≤ two48 := by rw [List.length_drop]; simp only [two48] at *; omega
          have hmay : mayU id pl cl sz (l.headD (0, 0)).1 (l.headD (0, 0)).2 1 gx gy 0 (l.drop 1) = true := by
            cases l with
            | nil => simp at hpos
            | cons c r => exact (goB_pos ((goB_next hg).2 (by intro hr; subst hr; exact hn rfl))).2.2.2.2
          obtain ⟨j', w', L', ef, ha, hg'⟩ := appU hhb (hu.happ _) (by omega) hu0 cap (u := ⟨(l.headD (0, 0)).1, (l.headD (0, 0)).2, 1, gx, gy, cloneV (m.hl + L.length) (dropV 2 1 p) (l.drop 1).length 2, 0, l.drop 1⟩) ⟨clone_ok hd hu.lt, hbd, hmay⟩
          have hg'' := hg'
          simp (maxDischargeDepth := 8) only [go_sem, reduceIte, reduceCtorEq, Nat.reduceEqDiff, Nat.reduceAdd, Nat.reduceMul, Nat.reduceSub, Nat.reduceLeDiff, Nat.reduceLT, Nat.reduceBEq, Int.reduceToNat, Int.reduceEq, Int.reduceLT, Int.reduceLE, Int.reduceAdd, Int.reduceSub, Int.reduceMul, Int.reduceNeg, UR.cells] at ha
          simp (maxDischargeDepth := 8) only [go_sem, reduceIte, reduceCtorEq, Nat.reduceEqDiff, Nat.reduceAdd, Nat.reduceMul, Nat.reduceSub, Nat.reduceLeDiff, Nat.reduceLT, Nat.reduceBEq, Int.reduceToNat, Int.reduceEq, Int.reduceLT, Int.reduceLE, Int.reduceAdd, Int.reduceSub, Int.reduceMul, Int.reduceNeg, hzz, e1, hm, hp.cell, hw2, cells_clone, cell_clone, lv_clone, ha]
          rw [KL_keep _ _ _ (by simp (maxDischargeDepth := 8) only [go_sem, reduceIte, reduceCtorEq, Nat.reduceEqDiff, Nat.reduceAdd, Nat.reduceMul, Nat.reduceSub, Nat.reduceLeDiff, Nat.reduceLT, Nat.reduceBEq, Int.reduceToNat, Int.reduceEq, Int.reduceLT, Int.reduceLE, Int.reduceAdd, Int.reduceSub, Int.reduceMul, Int.reduceNeg, hq.lv])]
          simp (maxDischargeDepth := 8) only [go_sem, reduceIte, reduceCtorEq, Nat.reduceEqDiff, Nat.reduceAdd, Nat.reduceMul, Nat.reduceSub, Nat.reduceLeDiff, Nat.reduceLT, Nat.reduceBEq, Int.reduceToNat, Int.reduceEq, Int.reduceLT, Int.reduceLE, Int.reduceAdd, Int.reduceSub, Int.reduceMul, Int.reduceNeg]
          exact ih ⟨z + 1, j', w', none, L', us ++ [⟨(l.headD (0, 0)).1, (l.headD (0, 0)).2, 1, gx, gy, cloneV (m.hl + L.length) (dropV 2 1 p) (l.drop 1).length 2, 0, l.drop 1⟩], ef e⟩ ⟨by dsimp only; omega, hg'', by rw [List.length_append]; exact Nat.succ_pos _, by rw [List.length_append, List.length_cons, List.length_nil]; dsimp only; omega⟩ (by dsimp only; omega)
    · have hzz : ((z : Int) == 0) = false := by subst h; rfl
      have hzz1 : ((z : Int) == 1) = true := by subst h; rfl
      cases hg : goB id pl cl sz ax ay ph gx gy wt l with
      | false =>
        have e1 := fun {X : Mem} (hX : HpSub m X) (hw : X.Wf) => (r_unit_Hold hp hb hX hw id pl cl sz ax ay ph gx gy wt).trans (if_neg (by simp [hg]))
        simp (maxDischargeDepth := 8) only [go_sem, reduceIte, reduceCtorEq, Nat.reduceEqDiff, Nat.reduceAdd, Nat.reduceMul, Nat.reduceSub, Nat.reduceLeDiff, Nat.reduceLT, Nat.reduceBEq, Int.reduceToNat, Int.reduceEq, Int.reduceLT, Int.reduceLE, Int.reduceAdd, Int.reduceSub, Int.reduceMul, Int.reduceNeg, hzz, hzz1, e1, hm, hp.cell, hw2, show ((1 : Int) == 0) = false from rfl]
        rw [KL_keep _ _ _ (by simp (maxDischargeDepth := 8) only [go_sem, reduceIte, reduceCtorEq, Nat.reduceEqDiff, Nat.reduceAdd, Nat.reduceMul, Nat.reduceSub, Nat.reduceLeDiff, Nat.reduceLT, Nat.reduceBEq, Int.reduceToNat, Int.reduceEq, Int.reduceLT, Int.reduceLE, Int.reduceAdd, Int.reduceSub, Int.reduceMul, Int.reduceNeg, hq.lv])]
        simp (maxDischargeDepth := 8) only [go_sem, reduceIte, reduceCtorEq, Nat.reduceEqDiff, Nat.reduceAdd, Nat.reduceMul, Nat.reduceSub, Nat.reduceLeDiff, Nat.reduceLT, Nat.reduceBEq, Int.reduceToNat, Int.reduceEq, Int.reduceLT, Int.reduceLE, Int.reduceAdd, Int.reduceSub, Int.reduceMul, Int.reduceNeg]
        exact ih ⟨z + 1, j, w, cap, L, us, e⟩ ⟨by dsimp only; omega, hu, hu0, by dsimp only; omega⟩ (by dsimp only; omega)
      | true =>
        obtain ⟨rfl, _, hpos, _, _⟩ := goB_pos hg
        have e1 := fun {X : Mem} (hX : HpSub m X) (hw : X.Wf) => (r_unit_Hold hp hb hX hw id pl cl sz ax ay 1 gx gy wt).trans (if_pos hg)
        obtain ⟨j', w', L', ef, ha, hg'⟩ := appU hhb (hu.happ _) (by omega) hu0 cap (u := ⟨ax, ay, 1, gx, gy, cloneV (m.hl + L.length) p l.length 2, holdW wt, l⟩) ⟨clone_ok hp hu.lt, hb, may_hold hg⟩
        have hg'' := hg'
        simp (maxDischargeDepth := 8) only [go_sem, reduceIte, reduceCtorEq, Nat.reduceEqDiff, Nat.reduceAdd, Nat.reduceMul, Nat.reduceSub, Nat.reduceLeDiff, Nat.reduceLT, Nat.reduceBEq, Int.reduceToNat, Int.reduceEq, Int.reduceLT, Int.reduceLE, Int.reduceAdd, Int.reduceSub, Int.reduceMul, Int.reduceNeg, UR.cells] at ha
        simp (maxDischargeDepth := 8) only [go_sem, reduceIte, reduceCtorEq, Nat.reduceEqDiff, Nat.reduceAdd, Nat.reduceMul, Nat.reduceSub, Nat.reduceLeDiff, Nat.reduceLT, Nat.reduceBEq, Int.reduceToNat, Int.reduceEq, Int.reduceLT, Int.reduceLE, Int.reduceAdd, Int.reduceSub, Int.reduceMul, Int.reduceNeg, hzz, hzz1, e1, hm, hp.cell, hw2, cells_clone, cell_clone, lv_clone, ha]
        rw [KL_keep _ _ _ (by simp (maxDischargeDepth := 8) only [go_sem, reduceIte, reduceCtorEq, Nat.reduceEqDiff, Nat.reduceAdd, Nat.reduceMul, Nat.reduceSub, Nat.reduceLeDiff, Nat.reduceLT, Nat.reduceBEq, Int.reduceToNat, Int.reduceEq, Int.reduceLT, Int.reduceLE, Int.reduceAdd, Int.reduceSub, Int.reduceMul, Int.reduceNeg, hq.lv])]
        simp (maxDischargeDepth := 8) only [go_sem, reduceIte, reduceCtorEq, Nat.reduceEqDiff, Nat.reduceAdd, Nat.reduceMul, Nat.reduceSub, Nat.reduceLeDiff, Nat.reduceLT, Nat.reduceBEq, Int.reduceToNat, Int.reduceEq, Int.reduceLT, Int.reduceLE, Int.reduceAdd, Int.reduceSub, Int.reduceMul, Int.reduceNeg]
        exact ih ⟨z + 1, j', w', none, L', us ++ [⟨ax, ay, 1, gx, gy, cloneV (m.hl + L.length) p l.length 2, holdW wt, l⟩], ef e⟩ ⟨by dsimp only; omega, hg'', by rw [List.length_append]; exact Nat.succ_pos _, by rw [List.length_append, List.length_cons, List.length_nil]; dsimp only; omega⟩ (by dsimp only; omega)
    · have hzz : ((z : Int) == 0) = false := by subst h; rfl
      have hzz1 : ((z : Int) == 1) = false := by subst h; rfl
      have hzz2 : ((z : Int) == 2) = true := by subst h; rfl
      cases hg : goB id pl cl sz ax ay ph gx gy wt l with
      | false =>
        have e1 := fun {X : Mem} (hX : HpSub m X) (hw : X.Wf) => (r_unit_Lose hp hb hX hw id pl cl sz ax ay ph gx gy wt).trans (if_neg (by simp [hg]))
        simp (maxDischargeDepth := 8) only [go_sem, reduceIte, reduceCtorEq, Nat.reduceEqDiff, Nat.reduceAdd, Nat.reduceMul, Nat.reduceSub, Nat.reduceLeDiff, Nat.reduceLT, Nat.reduceBEq, Int.reduceToNat, Int.reduceEq, Int.reduceLT, Int.reduceLE, Int.reduceAdd, Int.reduceSub, Int.reduceMul, Int.reduceNeg, hzz, hzz1, hzz2, e1, hm, hp.cell, hw2, show ((1 : Int) == 0) = false from rfl]
        rw [KL_keep _ _ _ (by simp (maxDischargeDepth := 8) only [go_sem, reduceIte, reduceCtorEq, Nat.reduceEqDiff, Nat.reduceAdd, Nat.reduceMul, Nat.reduceSub, Nat.reduceLeDiff, Nat.reduceLT, Nat.reduceBEq, Int.reduceToNat, Int.reduceEq, Int.reduceLT, Int.reduceLE, Int.reduceAdd, Int.reduceSub, Int.reduceMul, Int.reduceNeg, hq.lv])]
        simp (maxDischargeDepth := 8) only [go_sem, reduceIte, reduceCtorEq, Nat.reduceEqDiff, Nat.reduceAdd, Nat.reduceMul, Nat.reduceSub, Nat.reduceLeDiff, Nat.reduceLT, Nat.reduceBEq, Int.reduceToNat, Int.reduceEq, Int.reduceLT, Int.reduceLE, Int.reduceAdd, Int.reduceSub, Int.reduceMul, Int.reduceNeg]
        exact ih ⟨z + 1, j, w, cap, L, us, e⟩ ⟨by dsimp only; omega, hu, hu0, by dsimp only; omega⟩ (by dsimp only; omega)
      | true =>
        have e1 := fun {X : Mem} (hX : HpSub m X) (hw : X.Wf) => (r_unit_Lose hp hb hX hw id pl cl sz ax ay ph gx gy wt).trans (if_pos hg)
        obtain ⟨j', w', L', ef, ha, hg'⟩ := appU hhb hu (by omega) hu0 cap (u := ⟨ax, ay, iB (aimB ax ay gx gy) 2, iB (aimB ax ay gx gy) gx, iB (aimB ax ay gx gy) gy, .nils, 0, []⟩) ⟨(fun y => LiesD.nil _ _), (show 2 * 0 * 16 ≤ two48 by decide), may_aim hH hA hGc⟩
        have hg'' := hg'
        simp (maxDischargeDepth := 8) only [go_sem, reduceIte, reduceCtorEq, Nat.reduceEqDiff, Nat.reduceAdd, Nat.reduceMul, Nat.reduceSub, Nat.reduceLeDiff, Nat.reduceLT, Nat.reduceBEq, Int.reduceToNat, Int.reduceEq, Int.reduceLT, Int.reduceLE, Int.reduceAdd, Int.reduceSub, Int.reduceMul, Int.reduceNeg, UR.cells] at ha
        simp (maxDischargeDepth := 8) only [go_sem, reduceIte, reduceCtorEq, Nat.reduceEqDiff, Nat.reduceAdd, Nat.reduceMul, Nat.reduceSub, Nat.reduceLeDiff, Nat.reduceLT, Nat.reduceBEq, Int.reduceToNat, Int.reduceEq, Int.reduceLT, Int.reduceLE, Int.reduceAdd, Int.reduceSub, Int.reduceMul, Int.reduceNeg, hzz, hzz1, hzz2, e1, hm, hp.cell, hw2, cells_clone, cell_clone, lv_clone, ha]
        rw [KL_keep _ _ _ (by simp (maxDischargeDepth := 8) only [go_sem, reduceIte, reduceCtorEq, Nat.reduceEqDiff, Nat.reduceAdd, Nat.reduceMul, Nat.reduceSub, Nat.reduceLeDiff, Nat.reduceLT, Nat.reduceBEq, Int.reduceToNat, Int.reduceEq, Int.reduceLT, Int.reduceLE, Int.reduceAdd, Int.reduceSub, Int.reduceMul, Int.reduceNeg, hq.lv])]
        simp (maxDischargeDepth := 8) only [go_sem, reduceIte, reduceCtorEq, Nat.reduceEqDiff, Nat.reduceAdd, Nat.reduceMul, Nat.reduceSub, Nat.reduceLeDiff, Nat.reduceLT, Nat.reduceBEq, Int.reduceToNat, Int.reduceEq, Int.reduceLT, Int.reduceLE, Int.reduceAdd, Int.reduceSub, Int.reduceMul, Int.reduceNeg]
        exact ih ⟨z + 1, j', w', none, L', us ++ [⟨ax, ay, iB (aimB ax ay gx gy) 2, iB (aimB ax ay gx gy) gx, iB (aimB ax ay gx gy) gy, .nils, 0, []⟩], ef e⟩ ⟨by dsimp only; omega, hg'', by rw [List.length_append]; exact Nat.succ_pos _, by rw [List.length_append, List.length_cons, List.length_nil]; dsimp only; omega⟩ (by dsimp only; omega)
    · have hzz : ((z : Int) == 0) = false := by subst h; rfl
      have hzz1 : ((z : Int) == 1) = false := by subst h; rfl
      have hzz2 : ((z : Int) == 2) = false := by subst h; rfl
      have hzz3 : ((z : Int) == 3) = true := by subst h; rfl
      cases hg : giveB id pl cl sz ax ay ph gx gy wt l k with
      | false =>
        have e1 := fun {X : Mem} (hX : HpSub m X) (hw : X.Wf) => (r_unit_Give hp hb hq hb' hX hw id pl cl sz ax ay ph gx gy wt).trans (if_neg (by simp [hg]))
        simp (maxDischargeDepth := 8) only [go_sem, reduceIte, reduceCtorEq, Nat.reduceEqDiff, Nat.reduceAdd, Nat.reduceMul, Nat.reduceSub, Nat.reduceLeDiff, Nat.reduceLT, Nat.reduceBEq, Int.reduceToNat, Int.reduceEq, Int.reduceLT, Int.reduceLE, Int.reduceAdd, Int.reduceSub, Int.reduceMul, Int.reduceNeg, hzz, hzz1, hzz2, hzz3, e1, hm, hp.cell, hw2, show ((1 : Int) == 0) = false from rfl]
        rw [KL_keep _ _ _ (by simp (maxDischargeDepth := 8) only [go_sem, reduceIte, reduceCtorEq, Nat.reduceEqDiff, Nat.reduceAdd, Nat.reduceMul, Nat.reduceSub, Nat.reduceLeDiff, Nat.reduceLT, Nat.reduceBEq, Int.reduceToNat, Int.reduceEq, Int.reduceLT, Int.reduceLE, Int.reduceAdd, Int.reduceSub, Int.reduceMul, Int.reduceNeg, hq.lv])]
        simp (maxDischargeDepth := 8) only [go_sem, reduceIte, reduceCtorEq, Nat.reduceEqDiff, Nat.reduceAdd, Nat.reduceMul, Nat.reduceSub, Nat.reduceLeDiff, Nat.reduceLT, Nat.reduceBEq, Int.reduceToNat, Int.reduceEq, Int.reduceLT, Int.reduceLE, Int.reduceAdd, Int.reduceSub, Int.reduceMul, Int.reduceNeg]
        exact ih ⟨z + 1, j, w, cap, L, us, e⟩ ⟨by dsimp only; omega, hu, hu0, by dsimp only; omega⟩ (by dsimp only; omega)
      | true =>
        have e1 := fun {X : Mem} (hX : HpSub m X) (hw : X.Wf) => (r_unit_Give hp hb hq hb' hX hw id pl cl sz ax ay ph gx gy wt).trans (if_pos hg)
        have hmay : mayU id pl cl sz ax ay 1 gx gy wt k = true := by simp only [giveB, Bool.and_eq_true] at hg; exact hg.2
        obtain ⟨j', w', L', ef, ha, hg'⟩ := appU hhb (hu.happ _) (by omega) hu0 cap (u := ⟨ax, ay, 1, gx, gy, cloneV (m.hl + L.length) q k.length 2, wt, k⟩) ⟨clone_ok hq hu.lt, hb', hmay⟩
        have hg'' := hg'
        simp (maxDischargeDepth := 8) only [go_sem, reduceIte, reduceCtorEq, Nat.reduceEqDiff, Nat.reduceAdd, Nat.reduceMul, Nat.reduceSub, Nat.reduceLeDiff, Nat.reduceLT, Nat.reduceBEq, Int.reduceToNat, Int.reduceEq, Int.reduceLT, Int.reduceLE, Int.reduceAdd, Int.reduceSub, Int.reduceMul, Int.reduceNeg, UR.cells] at ha
        simp (maxDischargeDepth := 8) only [go_sem, reduceIte, reduceCtorEq, Nat.reduceEqDiff, Nat.reduceAdd, Nat.reduceMul, Nat.reduceSub, Nat.reduceLeDiff, Nat.reduceLT, Nat.reduceBEq, Int.reduceToNat, Int.reduceEq, Int.reduceLT, Int.reduceLE, Int.reduceAdd, Int.reduceSub, Int.reduceMul, Int.reduceNeg, hzz, hzz1, hzz2, hzz3, e1, hm, hp.cell, hw2, cells_clone, cell_clone, lv_clone, ha]
        rw [KL_keep _ _ _ (by simp (maxDischargeDepth := 8) only [go_sem, reduceIte, reduceCtorEq, Nat.reduceEqDiff, Nat.reduceAdd, Nat.reduceMul, Nat.reduceSub, Nat.reduceLeDiff, Nat.reduceLT, Nat.reduceBEq, Int.reduceToNat, Int.reduceEq, Int.reduceLT, Int.reduceLE, Int.reduceAdd, Int.reduceSub, Int.reduceMul, Int.reduceNeg, hq.lv])]
        simp (maxDischargeDepth := 8) only [go_sem, reduceIte, reduceCtorEq, Nat.reduceEqDiff, Nat.reduceAdd, Nat.reduceMul, Nat.reduceSub, Nat.reduceLeDiff, Nat.reduceLT, Nat.reduceBEq, Int.reduceToNat, Int.reduceEq, Int.reduceLT, Int.reduceLE, Int.reduceAdd, Int.reduceSub, Int.reduceMul, Int.reduceNeg]
        exact ih ⟨z + 1, j', w', none, L', us ++ [⟨ax, ay, 1, gx, gy, cloneV (m.hl + L.length) q k.length 2, wt, k⟩], ef e⟩ ⟨by dsimp only; omega, hg'', by rw [List.length_append]; exact Nat.succ_pos _, by rw [List.length_append, List.length_cons, List.length_nil]; dsimp only; omega⟩ (by dsimp only; omega)
    · have hzz : ((z : Int) == 0) = false := by subst h; rfl
      have hzz1 : ((z : Int) == 1) = false := by subst h; rfl
      have hzz2 : ((z : Int) == 2) = false := by subst h; rfl
      have hzz3 : ((z : Int) == 3) = false := by subst h; rfl
      cases hg : asideB id pl cl sz ax ay ph gx gy wt tx ty l with
      | false =>
        have e1 := fun {X : Mem} (hX : HpSub m X) (hw : X.Wf) => (r_unit_Aside hp hb hX hw id pl cl sz ax ay ph gx gy wt tx ty).trans (if_neg (by simp [hg]))
        simp (maxDischargeDepth := 8) only [go_sem, reduceIte, reduceCtorEq, Nat.reduceEqDiff, Nat.reduceAdd, Nat.reduceMul, Nat.reduceSub, Nat.reduceLeDiff, Nat.reduceLT, Nat.reduceBEq, Int.reduceToNat, Int.reduceEq, Int.reduceLT, Int.reduceLE, Int.reduceAdd, Int.reduceSub, Int.reduceMul, Int.reduceNeg, hzz, hzz1, hzz2, hzz3, e1, hm, hp.cell, hw2, show ((1 : Int) == 0) = false from rfl]
        rw [KL_keep _ _ _ (by simp (maxDischargeDepth := 8) only [go_sem, reduceIte, reduceCtorEq, Nat.reduceEqDiff, Nat.reduceAdd, Nat.reduceMul, Nat.reduceSub, Nat.reduceLeDiff, Nat.reduceLT, Nat.reduceBEq, Int.reduceToNat, Int.reduceEq, Int.reduceLT, Int.reduceLE, Int.reduceAdd, Int.reduceSub, Int.reduceMul, Int.reduceNeg, hq.lv])]
        simp (maxDischargeDepth := 8) only [go_sem, reduceIte, reduceCtorEq, Nat.reduceEqDiff, Nat.reduceAdd, Nat.reduceMul, Nat.reduceSub, Nat.reduceLeDiff, Nat.reduceLT, Nat.reduceBEq, Int.reduceToNat, Int.reduceEq, Int.reduceLT, Int.reduceLE, Int.reduceAdd, Int.reduceSub, Int.reduceMul, Int.reduceNeg]
        exact ih ⟨z + 1, j, w, cap, L, us, e⟩ ⟨by dsimp only; omega, hu, hu0, by dsimp only; omega⟩ (by dsimp only; omega)
      | true =>
        have e1 := fun {X : Mem} (hX : HpSub m X) (hw : X.Wf) => (r_unit_Aside hp hb hX hw id pl cl sz ax ay ph gx gy wt tx ty).trans (if_pos hg)
        cases hG : cellB tx ty with
        | true =>
          have hG2 := hG
          simp only [cellB, Bool.and_eq_true, decide_eq_true_eq] at hG2
          obtain ⟨j', w', L', ef, ha, hg'⟩ := appU hhb hu (by omega) hu0 cap (u := ⟨tx, ty, iB (aimB tx ty gx gy) 2, iB (aimB tx ty gx gy) gx, iB (aimB tx ty gx gy) gy, .nils, 0, []⟩) ⟨(fun y => LiesD.nil _ _), (show 2 * 0 * 16 ≤ two48 by decide), may_aim hH hG hGc⟩
          have hg'' := hg'
          simp (maxDischargeDepth := 8) only [go_sem, reduceIte, reduceCtorEq, Nat.reduceEqDiff, Nat.reduceAdd, Nat.reduceMul, Nat.reduceSub, Nat.reduceLeDiff, Nat.reduceLT, Nat.reduceBEq, Int.reduceToNat, Int.reduceEq, Int.reduceLT, Int.reduceLE, Int.reduceAdd, Int.reduceSub, Int.reduceMul, Int.reduceNeg, UR.cells] at ha
          simp (maxDischargeDepth := 8) only [go_sem, reduceIte, reduceCtorEq, Nat.reduceEqDiff, Nat.reduceAdd, Nat.reduceMul, Nat.reduceSub, Nat.reduceLeDiff, Nat.reduceLT, Nat.reduceBEq, Int.reduceToNat, Int.reduceEq, Int.reduceLT, Int.reduceLE, Int.reduceAdd, Int.reduceSub, Int.reduceMul, Int.reduceNeg, hzz, hzz1, hzz2, hzz3, e1, show decide (tx < 0) = false from decide_eq_false (by omega), show decide (tx ≥ 128) = false from decide_eq_false (by omega), show decide (ty < 0) = false from decide_eq_false (by omega), show decide (ty ≥ 128) = false from decide_eq_false (by omega), hm, hp.cell, hw2, cells_clone, cell_clone, lv_clone, ha]
          rw [KL_keep _ _ _ (by simp (maxDischargeDepth := 8) only [go_sem, reduceIte, reduceCtorEq, Nat.reduceEqDiff, Nat.reduceAdd, Nat.reduceMul, Nat.reduceSub, Nat.reduceLeDiff, Nat.reduceLT, Nat.reduceBEq, Int.reduceToNat, Int.reduceEq, Int.reduceLT, Int.reduceLE, Int.reduceAdd, Int.reduceSub, Int.reduceMul, Int.reduceNeg, hq.lv])]
          simp (maxDischargeDepth := 8) only [go_sem, reduceIte, reduceCtorEq, Nat.reduceEqDiff, Nat.reduceAdd, Nat.reduceMul, Nat.reduceSub, Nat.reduceLeDiff, Nat.reduceLT, Nat.reduceBEq, Int.reduceToNat, Int.reduceEq, Int.reduceLT, Int.reduceLE, Int.reduceAdd, Int.reduceSub, Int.reduceMul, Int.reduceNeg]
          exact ih ⟨z + 1, j', w', none, L', us ++ [⟨tx, ty, iB (aimB tx ty gx gy) 2, iB (aimB tx ty gx gy) gx, iB (aimB tx ty gx gy) gy, .nils, 0, []⟩], ef e⟩ ⟨by dsimp only; omega, hg'', by rw [List.length_append]; exact Nat.succ_pos _, by rw [List.length_append, List.length_cons, List.length_nil]; dsimp only; omega⟩ (by dsimp only; omega)
        | false =>
          have hG2 : ¬ ((0 ≤ tx ∧ tx < 128) ∧ (0 ≤ ty ∧ ty < 128)) := by
            intro h
            rw [cellB, decide_eq_true h.1.1, decide_eq_true h.1.2, decide_eq_true h.2.1, decide_eq_true h.2.2] at hG
            cases hG
          clear hG
          simp (maxDischargeDepth := 8) only [go_sem, reduceIte, reduceCtorEq, Nat.reduceEqDiff, Nat.reduceAdd, Nat.reduceMul, Nat.reduceSub, Nat.reduceLeDiff, Nat.reduceLT, Nat.reduceBEq, Int.reduceToNat, Int.reduceEq, Int.reduceLT, Int.reduceLE, Int.reduceAdd, Int.reduceSub, Int.reduceMul, Int.reduceNeg, hzz, hzz1, hzz2, hzz3, e1, hm, hp.cell]
          repeat' ((first | rw [KG_bool] | rw [KC_bool]); split <;> rename_i h <;> (try simp only [Bool.not_eq_true, Bool.not_not, Bool.not_eq_eq_eq_not, Bool.not_true, Bool.not_false] at h) <;> simp (maxDischargeDepth := 8) only [go_sem, reduceIte, reduceCtorEq, Nat.reduceEqDiff, Nat.reduceAdd, Nat.reduceMul, Nat.reduceSub, Nat.reduceLeDiff, Nat.reduceLT, Nat.reduceBEq, Int.reduceToNat, Int.reduceEq, Int.reduceLT, Int.reduceLE, Int.reduceAdd, Int.reduceSub, Int.reduceMul, Int.reduceNeg, h, hm, hp.cell, hw2])
          all_goals first | (exfalso; simp only [decide_eq_true_eq, decide_eq_false_iff_not] at *; omega) | skip
          all_goals (rw [KL_keep _ _ _ (by simp (maxDischargeDepth := 8) only [go_sem, reduceIte, reduceCtorEq, Nat.reduceEqDiff, Nat.reduceAdd, Nat.reduceMul, Nat.reduceSub, Nat.reduceLeDiff, Nat.reduceLT, Nat.reduceBEq, Int.reduceToNat, Int.reduceEq, Int.reduceLT, Int.reduceLE, Int.reduceAdd, Int.reduceSub, Int.reduceMul, Int.reduceNeg, hq.lv])])
          all_goals simp (maxDischargeDepth := 8) only [go_sem, reduceIte, reduceCtorEq, Nat.reduceEqDiff, Nat.reduceAdd, Nat.reduceMul, Nat.reduceSub, Nat.reduceLeDiff, Nat.reduceLT, Nat.reduceBEq, Int.reduceToNat, Int.reduceEq, Int.reduceLT, Int.reduceLE, Int.reduceAdd, Int.reduceSub, Int.reduceMul, Int.reduceNeg]
          all_goals exact ih ⟨z + 1, j, w, cap, L, us, e⟩ ⟨by dsimp only; omega, hu, hu0, by dsimp only; omega⟩ (by dsimp only; omega)
  · simp (maxDischargeDepth := 8) only [go_sem, reduceIte, reduceCtorEq, Nat.reduceEqDiff, Nat.reduceAdd, Nat.reduceMul, Nat.reduceSub, Nat.reduceLeDiff, Nat.reduceLT, Nat.reduceBEq, Int.reduceToNat, Int.reduceEq, Int.reduceLT, Int.reduceLE, Int.reduceAdd, Int.reduceSub, Int.reduceMul, Int.reduceNeg, show decide (((5 : Nat) : Int) < 5) = false from rfl, hm, hp.cell]
    rw [KL_keep _ _ _ (by simp (maxDischargeDepth := 8) only [go_sem, reduceIte, reduceCtorEq, Nat.reduceEqDiff, Nat.reduceAdd, Nat.reduceMul, Nat.reduceSub, Nat.reduceLeDiff, Nat.reduceLT, Nat.reduceBEq, Int.reduceToNat, Int.reduceEq, Int.reduceLT, Int.reduceLE, Int.reduceAdd, Int.reduceSub, Int.reduceMul, Int.reduceNeg])]
    simp (maxDischargeDepth := 8) only [go_sem, reduceIte, reduceCtorEq, Nat.reduceEqDiff, Nat.reduceAdd, Nat.reduceMul, Nat.reduceSub, Nat.reduceLeDiff, Nat.reduceLT, Nat.reduceBEq, Int.reduceToNat, Int.reduceEq, Int.reduceLT, Int.reduceLE, Int.reduceAdd, Int.reduceSub, Int.reduceMul, Int.reduceNeg]
    exact keeps_loop2 hm id pl cl sz ax ay ph gx gy wt tx ty hp.cell hu (by omega) cap e 0 (Nat.zero_le _)
end Go.Sh.T
