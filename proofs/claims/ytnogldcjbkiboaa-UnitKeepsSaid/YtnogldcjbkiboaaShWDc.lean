import Derived.Test.YtnogldcjbkiboaaShWDb
set_option linter.all false
set_option linter.unusedVariables false
set_option linter.unusedSimpArgs false
set_option autoImplicit false
namespace Go.Sh.T
open Go.Sh
set_option maxHeartbeats 8000000
set_option maxRecDepth 20000
theorem store_hap (m : Mem) (L : List (Nat × SBk)) {h : Nat} (i v off : Nat) (vs : List SV) (hh : h = m.hl) (hb : m.hb ≤ m.hl) (hx : SV.hxs vs = 0) : (m.hap L).store (.hp (h + i) v) off vs =
    if SV.cellsOk 0 0 vs then (match hapGet L i v with
    | some (.cells true c) => if off + vs.length ≤ c.length then some (m.hap (L.set i (v, .cells true (c.take off ++ vs ++ c.drop (off + vs.length))))) else none
    | _ => none) else none := by
  have hm : (m.hap L).may (.hp (h + i) v) = true := by subst hh; simp only [Mem.may, decide_eq_true_eq]; show m.hb ≤ _; omega
  simp only [Mem.store, hm, true_and, Bk.room, get_hap m L i v hh, set_hap m L i v _ hh, hx, Mem.note, Nat.zero_le, if_true]
  rfl
theorem liesC_at {m : Mem} {L : List (Nat × SBk)} {i : Nat} {k : List (Int × Int)} {rw : Bool} (h : hapGet L i 0 = some (.cells rw (k.flatMap cellF.enc))) : LiesD cellF (m.hap L) (.sl (.hp (m.hl + i) 0) 0 k.length none 2) k := by
  refine ⟨flat_len cellF_even k, .inr (.inr ⟨_, _, _, _, _, rw, rfl, (get_hap m L i 0 rfl).trans h, ?_, ?_⟩)⟩
  · rw [flat_len cellF_even]; omega
  · rw [List.drop_zero, ← flat_len cellF_even k, List.take_length]
theorem liesC_at0 {m : Mem} {L : List (Nat × SBk)} {i : Nat} {cs : List SV} {rw : Bool} (h : hapGet L i 0 = some (.cells rw cs)) : LiesD cellF (m.hap L) (.sl (.hp (m.hl + i) 0) 0 0 (some 0) 2) [] :=
  ⟨rfl, .inr (.inr ⟨_, _, _, _, _, rw, rfl, (get_hap m L i 0 rfl).trans h, by simp, by simp⟩)⟩
theorem r_law21_UnitGives {m : Mem} {p q : SV} {l k : List (Int × Int)} (hp : LiesD cellF m p l) (hb : 2 * l.length * 16 ≤ two48) (hq : LiesD cellF m q k) (hb' : 2 * k.length * 16 ≤ two48) (hm : m.Wf) (hhb : m.hb ≤ m.hl) (id pl cl sz ax ay ph gx gy wt : Int) :
    RF tb f_law21_UnitGives [unitV id pl cl sz ax ay ph gx gy p wt, q] m = some (.bool true, m) := by
  rw [RF_go t_law21_UnitGives _ _ rfl]
  have h0 : LiesD cellF m .nils [] := LiesD.nil _ _
  have hz := fun {X : Mem} (hX : HpSub m X) (hw : X.Wf) => r_law21_same h0 h0 (by decide) hX hw rfl 0 0 0 0 0 0 0 0 0 0 1
  by_cases hk : k = []
  · subst hk
    have hown : LiesD cellF (m.hap [(0, .cells true [])]) (.sl (.hp (m.hl + 0) 0) 0 0 (some 0) 2) [] := liesC_at0 (rw := true) (cs := []) rfl
    rw [Nat.add_zero] at hown
    have hpo : LiesD cellF (m.hap [(0, .cells true [])]) p l := Lies.hap hp [(0, .cells true [])]
    have happ : ∀ {Y : Mem} (hY : HpSub m Y) (aw : Bk → Bool) {h : Nat} (hh : h = Y.hl), appV 2 16 [.int .i64 0, .int .i64 0] aw (.sl (.hp h 0) 0 0 (some 0) 2) q (Y.hap [(0, .cells true [])]) = some (.sl (.hp Y.hl 0) 0 0 (some 0) 2, Y.hap [(0, .cells true [])]) := fun hY aw _ hh => app_copyC hq hb' hY aw hh
    have g1 := fun {X : Mem} (hX : HpSub (m.hap [(0, .cells true [])]) X) (hw : X.Wf) => r_unit_Give hpo hb hown hb' hX hw id pl cl sz ax ay ph gx gy wt
    have g2 := fun {X : Mem} (hX : HpSub m X) (hw : X.Wf) => r_ref21_Give hp hb hq hb' hX hw id pl cl sz ax ay ph gx gy wt
    have cv0 : ∀ h b o c z, cloneV h (.sl b o 0 c z) 0 2 = .sl (.hp h 0) 0 0 (some 0) 2 := fun _ _ _ _ _ => rfl
    have cl0 : ∀ b o c z cs, cloneL (.sl b o 0 c z) 0 cs = [(0, .cells true [])] := fun _ _ _ _ _ => rfl
    have cp0 : ∀ h, copyV h 0 2 = .sl (.hp h 0) 0 0 (some 0) 2 := fun _ => rfl
    have cpl0 : ∀ cs, copyL 0 cs = [(0, .cells true [])] := fun _ => rfl
    have hs : ∀ {X : Mem} (hX : HpSub (m.hap [(0, .cells true []), (0, .cells true []), (0, .cells true [])]) X) (hw : X.Wf), _ := fun hX hw => r_law21_same (liesC_at0 (m := m) (L := [(0, .cells true []), (0, .cells true []), (0, .cells true [])]) (i := 1) rfl) (liesC_at0 (m := m) (i := 2) rfl) (by decide) hX hw rfl id pl cl sz ax ay 1 gx gy wt 0
    simp (maxDischargeDepth := 8) only [go_sem, reduceIte, reduceCtorEq, Nat.reduceEqDiff, Nat.reduceAdd, Nat.reduceMul, Nat.reduceSub, Nat.reduceLeDiff, Nat.reduceLT, Nat.reduceBEq, Int.reduceToNat, Int.reduceEq, Int.reduceLT, Int.reduceLE, Int.reduceAdd, Int.reduceSub, Int.reduceMul, Int.reduceNeg, s_law21_UnitGives, hm, unitV, hp.cell, List.replicate, List.flatten_nil, happ, g1, g2]
    cases hg : giveB id pl cl sz ax ay ph gx gy wt l [] with
    | true =>
      simp (maxDischargeDepth := 8) only [go_sem, reduceIte, reduceCtorEq, Nat.reduceEqDiff, Nat.reduceAdd, Nat.reduceMul, Nat.reduceSub, Nat.reduceLeDiff, Nat.reduceLT, Nat.reduceBEq, Int.reduceToNat, Int.reduceEq, Int.reduceLT, Int.reduceLE, Int.reduceAdd, Int.reduceSub, Int.reduceMul, Int.reduceNeg, hm, cv0, cl0, cp0, cpl0, g2, hg, hp.cell, hq.cell]
      rw [KL_keep _ _ _ (by simp (maxDischargeDepth := 8) only [go_sem, reduceIte, reduceCtorEq, Nat.reduceEqDiff, Nat.reduceAdd, Nat.reduceMul, Nat.reduceSub, Nat.reduceLeDiff, Nat.reduceLT, Nat.reduceBEq, Int.reduceToNat, Int.reduceEq, Int.reduceLT, Int.reduceLE, Int.reduceAdd, Int.reduceSub, Int.reduceMul, Int.reduceNeg])]
      simp (maxDischargeDepth := 8) only [go_sem, reduceIte, reduceCtorEq, Nat.reduceEqDiff, Nat.reduceAdd, Nat.reduceMul, Nat.reduceSub, Nat.reduceLeDiff, Nat.reduceLT, Nat.reduceBEq, Int.reduceToNat, Int.reduceEq, Int.reduceLT, Int.reduceLE, Int.reduceAdd, Int.reduceSub, Int.reduceMul, Int.reduceNeg]
      refine KL_indE (α := Unit) (fun _ => 0) (fun _ => [(5, .sl (.hp m.hl 0) 0 0 (some 0) 2), (6, .ptr (.st m.dep 1) 0), (7, .int .i64 0), (8, .ptr (.st m.dep 2) 0), (9, .int .i64 0), (10, .int .i64 0)])
        (fun _ => (m.fr [.cells true [.int .i64 id, .int .i64 pl, .int .i64 cl, .int .i64 sz, .int .i64 ax, .int .i64 ay, .int .i64 ph, .int .i64 gx, .int .i64 gy, p, .int .i64 wt], .cells true [.int .i64 id, .int .i64 pl, .int .i64 cl, .int .i64 sz, .int .i64 ax, .int .i64 ay, .int .i64 1, .int .i64 gx, .int .i64 gy, .sl (.hp (m.hl + 1) 0) 0 0 (some 0) 2, .int .i64 wt], .cells true [.int .i64 id, .int .i64 pl, .int .i64 cl, .int .i64 sz, .int .i64 ax, .int .i64 ay, .int .i64 1, .int .i64 gx, .int .i64 gy, .sl (.hp (m.hl + 2) 0) 0 0 (some 0) 2, .int .i64 wt]] none).hap [(0, .cells true []), (0, .cells true []), (0, .cells true [])]) (fun _ => True) ?_ () trivial
      intro _ _ ih
      simp (maxDischargeDepth := 8) only [go_sem, reduceIte, reduceCtorEq, Nat.reduceEqDiff, Nat.reduceAdd, Nat.reduceMul, Nat.reduceSub, Nat.reduceLeDiff, Nat.reduceLT, Nat.reduceBEq, Int.reduceToNat, Int.reduceEq, Int.reduceLT, Int.reduceLE, Int.reduceAdd, Int.reduceSub, Int.reduceMul, Int.reduceNeg, hm]
      simp (maxDischargeDepth := 8) only [go_sem, reduceIte, reduceCtorEq, Nat.reduceEqDiff, Nat.reduceAdd, Nat.reduceMul, Nat.reduceSub, Nat.reduceLeDiff, Nat.reduceLT, Nat.reduceBEq, Int.reduceToNat, Int.reduceEq, Int.reduceLT, Int.reduceLE, Int.reduceAdd, Int.reduceSub, Int.reduceMul, Int.reduceNeg, hs, hm, r_law21_awake]
    | false =>
      simp (maxDischargeDepth := 8) only [go_sem, reduceIte, reduceCtorEq, Nat.reduceEqDiff, Nat.reduceAdd, Nat.reduceMul, Nat.reduceSub, Nat.reduceLeDiff, Nat.reduceLT, Nat.reduceBEq, Int.reduceToNat, Int.reduceEq, Int.reduceLT, Int.reduceLE, Int.reduceAdd, Int.reduceSub, Int.reduceMul, Int.reduceNeg, hm, cv0, cl0, cp0, cpl0, g2, hg, hp.cell, hq.cell]
      rw [KL_keep _ _ _ (by simp (maxDischargeDepth := 8) only [go_sem, reduceIte, reduceCtorEq, Nat.reduceEqDiff, Nat.reduceAdd, Nat.reduceMul, Nat.reduceSub, Nat.reduceLeDiff, Nat.reduceLT, Nat.reduceBEq, Int.reduceToNat, Int.reduceEq, Int.reduceLT, Int.reduceLE, Int.reduceAdd, Int.reduceSub, Int.reduceMul, Int.reduceNeg])]
      simp (maxDischargeDepth := 8) only [go_sem, reduceIte, reduceCtorEq, Nat.reduceEqDiff, Nat.reduceAdd, Nat.reduceMul, Nat.reduceSub, Nat.reduceLeDiff, Nat.reduceLT, Nat.reduceBEq, Int.reduceToNat, Int.reduceEq, Int.reduceLT, Int.reduceLE, Int.reduceAdd, Int.reduceSub, Int.reduceMul, Int.reduceNeg]
      refine KL_indE (α := Unit) (fun _ => 0) (fun _ => [(5, .sl (.hp m.hl 0) 0 0 (some 0) 2), (6, .ptr (.st m.dep 1) 0), (7, .int .i64 1), (8, .ptr (.st m.dep 2) 0), (9, .int .i64 1), (10, .int .i64 0)])
        (fun _ => (m.fr [.cells true [.int .i64 id, .int .i64 pl, .int .i64 cl, .int .i64 sz, .int .i64 ax, .int .i64 ay, .int .i64 ph, .int .i64 gx, .int .i64 gy, p, .int .i64 wt], .cells true [.int .i64 0, .int .i64 0, .int .i64 0, .int .i64 0, .int .i64 0, .int .i64 0, .int .i64 0, .int .i64 0, .int .i64 0, .nils, .int .i64 0], .cells true [.int .i64 0, .int .i64 0, .int .i64 0, .int .i64 0, .int .i64 0, .int .i64 0, .int .i64 0, .int .i64 0, .int .i64 0, .nils, .int .i64 0]] none).hap [(0, .cells true [])]) (fun _ => True) ?_ () trivial
      intro _ _ ih
      simp (maxDischargeDepth := 8) only [go_sem, reduceIte, reduceCtorEq, Nat.reduceEqDiff, Nat.reduceAdd, Nat.reduceMul, Nat.reduceSub, Nat.reduceLeDiff, Nat.reduceLT, Nat.reduceBEq, Int.reduceToNat, Int.reduceEq, Int.reduceLT, Int.reduceLE, Int.reduceAdd, Int.reduceSub, Int.reduceMul, Int.reduceNeg, hm]
      simp (maxDischargeDepth := 8) only [go_sem, reduceIte, reduceCtorEq, Nat.reduceEqDiff, Nat.reduceAdd, Nat.reduceMul, Nat.reduceSub, Nat.reduceLeDiff, Nat.reduceLT, Nat.reduceBEq, Int.reduceToNat, Int.reduceEq, Int.reduceLT, Int.reduceLE, Int.reduceAdd, Int.reduceSub, Int.reduceMul, Int.reduceNeg, hz, hm, r_law21_awake]
  · have hk0 : ¬ k.length = 0 := by simpa using hk
    have hcv : ∀ h, copyV h k.length 2 = .sl (.hp (h + 1) 0) 0 k.length none 2 := fun h => if_neg hk0
    have hcl : copyL k.length (k.flatMap cellF.enc) = [(0, .cells true []), (0, .cells true (k.flatMap cellF.enc))] := if_neg hk0
    have cv1 : ∀ h b o c z, cloneV h (.sl b o k.length c z) k.length 2 = .sl (.hp (h + 1) 0) 0 k.length none 2 := fun h b o c z => by simp only [cloneV]; exact if_neg hk0
    have cl1 : ∀ b o c z, cloneL (.sl b o k.length c z) k.length (k.flatMap cellF.enc) = [(0, .cells true []), (0, .cells true (k.flatMap cellF.enc))] := fun b o c z => by simp only [cloneL]; exact if_neg hk0
    have hown : LiesD cellF (m.hap [(0, .cells true []), (0, .cells true (k.flatMap cellF.enc))]) (.sl (.hp (m.hl + 1) 0) 0 k.length none 2) k := liesC_at (i := 1) rfl
    have hpo : LiesD cellF (m.hap [(0, .cells true []), (0, .cells true (k.flatMap cellF.enc))]) p l := Lies.hap hp _
    have happ : ∀ {Y : Mem} (hY : HpSub m Y) (aw : Bk → Bool) {h : Nat} (hh : h = Y.hl), appV 2 16 [.int .i64 0, .int .i64 0] aw (.sl (.hp h 0) 0 0 (some 0) 2) q (Y.hap [(0, .cells true [])]) = some (.sl (.hp (Y.hl + 1) 0) 0 k.length none 2, Y.hap [(0, .cells true []), (0, .cells true (k.flatMap cellF.enc))]) := fun {Y} hY aw _ hh => by rw [app_copyC hq hb' hY aw hh, hcv, hcl]
    have g1 := fun {X : Mem} (hX : HpSub (m.hap [(0, .cells true []), (0, .cells true (k.flatMap cellF.enc))]) X) (hw : X.Wf) => r_unit_Give hpo hb hown hb' hX hw id pl cl sz ax ay ph gx gy wt
    have g2 := fun {X : Mem} (hX : HpSub m X) (hw : X.Wf) => r_ref21_Give hp hb hq hb' hX hw id pl cl sz ax ay ph gx gy wt
    have hel : (k.flatMap cellF.enc).length = 2 * k.length := by rw [flat_len cellF_even]; exact Nat.mul_comm _ _
    simp (maxDischargeDepth := 8) only [go_sem, reduceIte, reduceCtorEq, Nat.reduceEqDiff, Nat.reduceAdd, Nat.reduceMul, Nat.reduceSub, Nat.reduceLeDiff, Nat.reduceLT, Nat.reduceBEq, Int.reduceToNat, Int.reduceEq, Int.reduceLT, Int.reduceLE, Int.reduceAdd, Int.reduceSub, Int.reduceMul, Int.reduceNeg, s_law21_UnitGives, hm, unitV, hp.cell, List.replicate, List.flatten_nil, happ, g1, g2]
    cases hg : giveB id pl cl sz ax ay ph gx gy wt l k with
    | true =>
      simp (maxDischargeDepth := 8) only [go_sem, reduceIte, reduceCtorEq, Nat.reduceEqDiff, Nat.reduceAdd, Nat.reduceMul, Nat.reduceSub, Nat.reduceLeDiff, Nat.reduceLT, Nat.reduceBEq, Int.reduceToNat, Int.reduceEq, Int.reduceLT, Int.reduceLE, Int.reduceAdd, Int.reduceSub, Int.reduceMul, Int.reduceNeg, hm, cv1, cl1, hcv, hcl, g2, hg, hp.cell, hq.cell]
      rw [KL_keep _ _ _ (by simp (maxDischargeDepth := 8) only [go_sem, reduceIte, reduceCtorEq, Nat.reduceEqDiff, Nat.reduceAdd, Nat.reduceMul, Nat.reduceSub, Nat.reduceLeDiff, Nat.reduceLT, Nat.reduceBEq, Int.reduceToNat, Int.reduceEq, Int.reduceLT, Int.reduceLE, Int.reduceAdd, Int.reduceSub, Int.reduceMul, Int.reduceNeg])]
      simp (maxDischargeDepth := 8) only [go_sem, reduceIte, reduceCtorEq, Nat.reduceEqDiff, Nat.reduceAdd, Nat.reduceMul, Nat.reduceSub, Nat.reduceLeDiff, Nat.reduceLT, Nat.reduceBEq, Int.reduceToNat, Int.reduceEq, Int.reduceLT, Int.reduceLE, Int.reduceAdd, Int.reduceSub, Int.reduceMul, Int.reduceNeg]
      refine KL_indE (α := Nat × List SV) (fun s => k.length - s.1) (fun s => [(5, .sl (.hp (m.hl + 1) 0) 0 k.length none 2), (6, .ptr (.st m.dep 1) 0), (7, .int .i64 0), (8, .ptr (.st m.dep 2) 0), (9, .int .i64 0), (10, .int .i64 (s.1 : Int))])
        (fun s => (m.fr [.cells true [.int .i64 id, .int .i64 pl, .int .i64 cl, .int .i64 sz, .int .i64 ax, .int .i64 ay, .int .i64 ph, .int .i64 gx, .int .i64 gy, p, .int .i64 wt], .cells true [.int .i64 id, .int .i64 pl, .int .i64 cl, .int .i64 sz, .int .i64 ax, .int .i64 ay, .int .i64 1, .int .i64 gx, .int .i64 gy, .sl (.hp (m.hl + 3) 0) 0 k.length none 2, .int .i64 wt], .cells true [.int .i64 id, .int .i64 pl, .int .i64 cl, .int .i64 sz, .int .i64 ax, .int .i64 ay, .int .i64 1, .int .i64 gx, .int .i64 gy, .sl (.hp (m.hl + 5) 0) 0 k.length none 2, .int .i64 wt]] none).hap [(0, .cells true []), (0, .cells true s.2), (0, .cells true []), (0, .cells true (k.flatMap cellF.enc)), (0, .cells true []), (0, .cells true (k.flatMap cellF.enc))]) (fun s => s.1 ≤ k.length ∧ s.2.length = 2 * k.length) ?_ (0, k.flatMap cellF.enc) ⟨Nat.zero_le _, hel⟩
      rintro ⟨i, cs⟩ ⟨hi, hcs⟩ ih
      dsimp only at hi hcs ⊢
      simp (maxDischargeDepth := 8) only [go_sem, reduceIte, reduceCtorEq, Nat.reduceEqDiff, Nat.reduceAdd, Nat.reduceMul, Nat.reduceSub, Nat.reduceLeDiff, Nat.reduceLT, Nat.reduceBEq, Int.reduceToNat, Int.reduceEq, Int.reduceLT, Int.reduceLE, Int.reduceAdd, Int.reduceSub, Int.reduceMul, Int.reduceNeg, hm]
      by_cases hlt : i < k.length
      · have hw2 : IntKind.wrap .i64 ((i : Int) + 1) = ((i + 1 : Nat) : Int) := by rw [wrap_small (by omega) (by simp only [two48] at hb'; omega)]; rfl
        have hle : (i * 2 + 1 ≤ cs.length) = True := eq_true (by omega)
        simp (maxDischargeDepth := 8) only [go_sem, reduceIte, reduceCtorEq, Nat.reduceEqDiff, Nat.reduceAdd, Nat.reduceMul, Nat.reduceSub, Nat.reduceLeDiff, Nat.reduceLT, Nat.reduceBEq, Int.reduceToNat, Int.reduceEq, Int.reduceLT, Int.reduceLE, Int.reduceAdd, Int.reduceSub, Int.reduceMul, Int.reduceNeg, show decide ((i : Int) < (k.length : Int)) = true from decide_eq_true (by omega), hm, iaddrV_sl, inB_nat hlt, store_hap, hhb, fr_hb, hle, hw2, List.set_cons_succ, List.set_cons_zero]
        rw [KL_keep _ _ _ (by simp (maxDischargeDepth := 8) only [go_sem, reduceIte, reduceCtorEq, Nat.reduceEqDiff, Nat.reduceAdd, Nat.reduceMul, Nat.reduceSub, Nat.reduceLeDiff, Nat.reduceLT, Nat.reduceBEq, Int.reduceToNat, Int.reduceEq, Int.reduceLT, Int.reduceLE, Int.reduceAdd, Int.reduceSub, Int.reduceMul, Int.reduceNeg])]
        simp (maxDischargeDepth := 8) only [go_sem, reduceIte, reduceCtorEq, Nat.reduceEqDiff, Nat.reduceAdd, Nat.reduceMul, Nat.reduceSub, Nat.reduceLeDiff, Nat.reduceLT, Nat.reduceBEq, Int.reduceToNat, Int.reduceEq, Int.reduceLT, Int.reduceLE, Int.reduceAdd, Int.reduceSub, Int.reduceMul, Int.reduceNeg]
        refine ih (i + 1, _) ⟨by omega, ?_⟩ (by dsimp only; omega)
        simp only [List.length_append, List.length_take, List.length_drop, List.length_cons, List.length_nil]
        omega
      · obtain rfl : i = k.length := by omega
        simp (maxDischargeDepth := 8) only [go_sem, reduceIte, reduceCtorEq, Nat.reduceEqDiff, Nat.reduceAdd, Nat.reduceMul, Nat.reduceSub, Nat.reduceLeDiff, Nat.reduceLT, Nat.reduceBEq, Int.reduceToNat, Int.reduceEq, Int.reduceLT, Int.reduceLE, Int.reduceAdd, Int.reduceSub, Int.reduceMul, Int.reduceNeg, show decide ((k.length : Int) < (k.length : Int)) = false from decide_eq_false (by omega), hm]
        simp (maxDischargeDepth := 8) only [go_sem, reduceIte, reduceCtorEq, Nat.reduceEqDiff, Nat.reduceAdd, Nat.reduceMul, Nat.reduceSub, Nat.reduceLeDiff, Nat.reduceLT, Nat.reduceBEq, Int.reduceToNat, Int.reduceEq, Int.reduceLT, Int.reduceLE, Int.reduceAdd, Int.reduceSub, Int.reduceMul, Int.reduceNeg, fun {X : Mem} (hX : HpSub (m.hap [(0, .cells true []), (0, .cells true cs), (0, .cells true []), (0, .cells true (k.flatMap cellF.enc)), (0, .cells true []), (0, .cells true (k.flatMap cellF.enc))]) X) (hw : X.Wf) => r_law21_same (liesC_at (m := m) (L := [(0, .cells true []), (0, .cells true cs), (0, .cells true []), (0, .cells true (k.flatMap cellF.enc)), (0, .cells true []), (0, .cells true (k.flatMap cellF.enc))]) (i := 3) rfl) (liesC_at (m := m) (i := 5) rfl) (by simp only [two48] at *; omega) hX hw rfl id pl cl sz ax ay 1 gx gy wt 0, hm, r_law21_awake]
    | false =>
      simp (maxDischargeDepth := 8) only [go_sem, reduceIte, reduceCtorEq, Nat.reduceEqDiff, Nat.reduceAdd, Nat.reduceMul, Nat.reduceSub, Nat.reduceLeDiff, Nat.reduceLT, Nat.reduceBEq, Int.reduceToNat, Int.reduceEq, Int.reduceLT, Int.reduceLE, Int.reduceAdd, Int.reduceSub, Int.reduceMul, Int.reduceNeg, hm, cv1, cl1, hcv, hcl, g2, hg, hp.cell, hq.cell]
      rw [KL_keep _ _ _ (by simp (maxDischargeDepth := 8) only [go_sem, reduceIte, reduceCtorEq, Nat.reduceEqDiff, Nat.reduceAdd, Nat.reduceMul, Nat.reduceSub, Nat.reduceLeDiff, Nat.reduceLT, Nat.reduceBEq, Int.reduceToNat, Int.reduceEq, Int.reduceLT, Int.reduceLE, Int.reduceAdd, Int.reduceSub, Int.reduceMul, Int.reduceNeg])]
      simp (maxDischargeDepth := 8) only [go_sem, reduceIte, reduceCtorEq, Nat.reduceEqDiff, Nat.reduceAdd, Nat.reduceMul, Nat.reduceSub, Nat.reduceLeDiff, Nat.reduceLT, Nat.reduceBEq, Int.reduceToNat, Int.reduceEq, Int.reduceLT, Int.reduceLE, Int.reduceAdd, Int.reduceSub, Int.reduceMul, Int.reduceNeg]
      refine KL_indE (α := Nat × List SV) (fun s => k.length - s.1) (fun s => [(5, .sl (.hp (m.hl + 1) 0) 0 k.length none 2), (6, .ptr (.st m.dep 1) 0), (7, .int .i64 1), (8, .ptr (.st m.dep 2) 0), (9, .int .i64 1), (10, .int .i64 (s.1 : Int))])
        (fun s => (m.fr [.cells true [.int .i64 id, .int .i64 pl, .int .i64 cl, .int .i64 sz, .int .i64 ax, .int .i64 ay, .int .i64 ph, .int .i64 gx, .int .i64 gy, p, .int .i64 wt], .cells true [.int .i64 0, .int .i64 0, .int .i64 0, .int .i64 0, .int .i64 0, .int .i64 0, .int .i64 0, .int .i64 0, .int .i64 0, .nils, .int .i64 0], .cells true [.int .i64 0, .int .i64 0, .int .i64 0, .int .i64 0, .int .i64 0, .int .i64 0, .int .i64 0, .int .i64 0, .int .i64 0, .nils, .int .i64 0]] none).hap [(0, .cells true []), (0, .cells true s.2)]) (fun s => s.1 ≤ k.length ∧ s.2.length = 2 * k.length) ?_ (0, k.flatMap cellF.enc) ⟨Nat.zero_le _, hel⟩
      rintro ⟨i, cs⟩ ⟨hi, hcs⟩ ih
      dsimp only at hi hcs ⊢
      simp (maxDischargeDepth := 8) only [go_sem, reduceIte, reduceCtorEq, Nat.reduceEqDiff, Nat.reduceAdd, Nat.reduceMul, Nat.reduceSub, Nat.reduceLeDiff, Nat.reduceLT, Nat.reduceBEq, Int.reduceToNat, Int.reduceEq, Int.reduceLT, Int.reduceLE, Int.reduceAdd, Int.reduceSub, Int.reduceMul, Int.reduceNeg, hm]
      by_cases hlt : i < k.length
      · have hw2 : IntKind.wrap .i64 ((i : Int) + 1) = ((i + 1 : Nat) : Int) := by rw [wrap_small (by omega) (by simp only [two48] at hb'; omega)]; rfl
        have hle : (i * 2 + 1 ≤ cs.length) = True := eq_true (by omega)
        simp (maxDischargeDepth := 8) only [go_sem, reduceIte, reduceCtorEq, Nat.reduceEqDiff, Nat.reduceAdd, Nat.reduceMul, Nat.reduceSub, Nat.reduceLeDiff, Nat.reduceLT, Nat.reduceBEq, Int.reduceToNat, Int.reduceEq, Int.reduceLT, Int.reduceLE, Int.reduceAdd, Int.reduceSub, Int.reduceMul, Int.reduceNeg, show decide ((i : Int) < (k.length : Int)) = true from decide_eq_true (by omega), hm, iaddrV_sl, inB_nat hlt, store_hap, hhb, fr_hb, hle, hw2, List.set_cons_succ, List.set_cons_zero]
        rw [KL_keep _ _ _ (by simp (maxDischargeDepth := 8) only [go_sem, reduceIte, reduceCtorEq, Nat.reduceEqDiff, Nat.reduceAdd, Nat.reduceMul, Nat.reduceSub, Nat.reduceLeDiff, Nat.reduceLT, Nat.reduceBEq, Int.reduceToNat, Int.reduceEq, Int.reduceLT, Int.reduceLE, Int.reduceAdd, Int.reduceSub, Int.reduceMul, Int.reduceNeg])]
        simp (maxDischargeDepth := 8) only [go_sem, reduceIte, reduceCtorEq, Nat.reduceEqDiff, Nat.reduceAdd, Nat.reduceMul, Nat.reduceSub, Nat.reduceLeDiff, Nat.reduceLT, Nat.reduceBEq, Int.reduceToNat, Int.reduceEq, Int.reduceLT, Int.reduceLE, Int.reduceAdd, Int.reduceSub, Int.reduceMul, Int.reduceNeg]
        refine ih (i + 1, _) ⟨by omega, ?_⟩ (by dsimp only; omega)
        simp only [List.length_append, List.length_take, List.length_drop, List.length_cons, List.length_nil]
        omega
      · obtain rfl : i = k.length := by omega
        simp (maxDischargeDepth := 8) only [go_sem, reduceIte, reduceCtorEq, Nat.reduceEqDiff, Nat.reduceAdd, Nat.reduceMul, Nat.reduceSub, Nat.reduceLeDiff, Nat.reduceLT, Nat.reduceBEq, Int.reduceToNat, Int.reduceEq, Int.reduceLT, Int.reduceLE, Int.reduceAdd, Int.reduceSub, Int.reduceMul, Int.reduceNeg, show decide ((k.length : Int) < (k.length : Int)) = false from decide_eq_false (by omega), hm]
        simp (maxDischargeDepth := 8) only [go_sem, reduceIte, reduceCtorEq, Nat.reduceEqDiff, Nat.reduceAdd, Nat.reduceMul, Nat.reduceSub, Nat.reduceLeDiff, Nat.reduceLT, Nat.reduceBEq, Int.reduceToNat, Int.reduceEq, Int.reduceLT, Int.reduceLE, Int.reduceAdd, Int.reduceSub, Int.reduceMul, Int.reduceNeg, hz, hm, r_law21_awake]
theorem law21_UnitGives {P : Program} {e e' : TypeId} {ok ok' : Int × Int → Prop} (u : UT) (g : Sl (Int × Int)) (hok : slOk P e ok u.path) (h16 : P.bytesOf e = 16) (hok' : slOk P e' ok' g) (h16' : P.bytesOf e' = 16) {n0 n1 : In} (e0 : n0.map (·.2) = rdU.blks u 0) (e1 : n1.map (·.2) = slB cellF g) : ∃ m', RF tb f_law21_UnitGives [.agg (rdU.cells u 0), slV cellF g ([] ++ n0).length] (In.mem ([] ++ n0 ++ n1)) = some (.bool true, m') := by
  rw [rdU_blks] at e0
  have hp := sl_in hok (pre := []) (post := n1) e0
  have hq := sl_in hok' (pre := [] ++ n0) (post := []) e1
  rw [List.append_nil] at hq
  exact ex_of (r_law21_UnitGives hp (sl_bound hok h16) hq (sl_bound hok' h16') (In.wf _) (Nat.zero_le _) _ _ _ _ _ _ _ _ _ _)
end Go.Sh.T
