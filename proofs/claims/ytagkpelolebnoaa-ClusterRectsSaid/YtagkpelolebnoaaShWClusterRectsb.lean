import Derived.Test.YtagkpelolebnoaaShWClusterRectsa
import Derived.Test.YtagkpelolebnoaaShArg
set_option linter.all false
set_option linter.unusedVariables false
set_option linter.unusedSimpArgs false
set_option autoImplicit false
namespace Go.Sh.T
open Go.Sh
set_option maxHeartbeats 8000000
set_option maxRecDepth 20000
theorem plain101 : newW 10 1 (List.replicate 10 0) [] = some (Wd.plain 10 1) := by rfl
abbrev awM (X : Mem) (n : Int) (st : LoopState) (pd : Option Jump) (H : Hp) (k : Nat) (e : Option Nat) : Mem :=
  (X.hp H).fr [.cells true [.int .i64 n], .loop ⟨st, pd, [(4, .ptr (.st X.dep 0) 0), (19, .fn f_cluster_All_1 [] [.ptr (.hp k 0) 0])], [20], .skip, s_law11_awake_p2⟩] e
theorem r_law11_awake (X : Mem) (hw : X.Wf) (hhb : X.hb ≤ X.hl) : ∃ H' u, RF tb f_law11_awake [] X = some (.bool true, (X.hp H').es (escMin X.esc u)) ∧ Keep [] X.heap H' := by
  rw [RF_go t_law11_awake _ _ rfl, push_hp]
  generalize hH : X.heap = H
  have hHl : X.hl = H.length := by rw [← hH]; rfl
  obtain ⟨H1, hH1⟩ : ∃ H1, H ++ [(0, SBk.cells true (List.replicate 10 [SV.int IntKind.u8 0]).flatten)] = H1 := ⟨_, rfl⟩
  have own : Own byteF H1 (.sl (.hp H.length 0) 0 10 (some 10) 1) (List.replicate 10 0) := by rw [← hH1]; exact mkslV_own byteF_even H 0 10
  have k1 : Keep [] H H1 := by rw [← hH1]; exact Keep.app _ _ _
  have hn := r_grid_New (X := (X.hp H1).fr [] none) (bl := []) (own.lies byteF_even) (LiesD.nil bldF _) (by decide) (fr_wf (hp_wf hw) _ _) (by show X.hb ≤ H1.length; have := k1.1; omega) 10 1
  rw [plain101] at hn
  obtain ⟨H2, u, p, h1, hO, k2, hF⟩ := hn
  change Keep [] H1 H2 at k2
  have hkH : Keep [] H H2 := k1.trans k2
  simp (maxDischargeDepth := 8) only [go_sem, reduceIte, reduceCtorEq, Nat.reduceEqDiff, Nat.reduceAdd, Nat.reduceMul, Nat.reduceSub, Nat.reduceLeDiff, Nat.reduceLT, Nat.reduceBEq, Int.reduceToNat, Int.reduceEq, Int.reduceLT, Int.reduceLE, Int.reduceAdd, Int.reduceSub, Int.reduceMul, Int.reduceNeg, s_law11_awake, hw, hH, show (10 : Int) ≤ (two48 : Int) from by decide, hH1, h1, show ((0 : Int) != 0) = false from rfl, r_cluster_All]
  obtain ⟨HA, hHA⟩ : ∃ HA, H2 ++ [(0, SBk.cells true [.ptr (.hp p.k 0) 0])] = HA := ⟨_, rfl⟩
  have kA : Keep [] H2 HA := by rw [← hHA]; exact Keep.app _ _ _
  have lA : HA.length = H2.length + 1 := by rw [← hHA, List.length_append]; rfl
  have a0 : hget HA H2.length 0 = some (.cells true [.ptr (.hp p.k 0) 0]) := by rw [← hHA]; exact hget_new0 0 _
  have hOA := hO.keep kA (by simp)
  rw [hHA]
  obtain ⟨HB, hHB⟩ : ∃ HB, HA ++ [(0, SBk.cells true [.int .i64 0, .int .i64 0, .int .i64 (Wd.plain 10 1).cw, .int .i64 (Wd.plain 10 1).ch])] = HB := ⟨_, rfl⟩
  have kB : Keep [] HA HB := by rw [← hHB]; exact Keep.app _ _ _
  have b4 : hget HB HA.length 0 = some (.cells true [.int .i64 0, .int .i64 0, .int .i64 (Wd.plain 10 1).cw, .int .i64 (Wd.plain 10 1).ch]) := by rw [← hHB]; exact hget_new0 0 _
  have hlen : (cellsP 0 0 (Wd.plain 10 1).cw (Wd.plain 10 1).ch).length = 2 := by rfl
  have hAl : ∀ n st pd e, AlAt (X.dep + 1) H2.length HA.length p (Wd.plain 10 1) (awM X n st pd HB H2.length e) := fun n st pd e => ⟨rfl, by simp (maxDischargeDepth := 8) only [go_sem, reduceIte, reduceCtorEq, Nat.reduceEqDiff, Nat.reduceAdd, Nat.reduceMul, Nat.reduceSub, Nat.reduceLeDiff, Nat.reduceLT, Nat.reduceBEq, Int.reduceToNat, Int.reduceEq, Int.reduceLT, Int.reduceLE, Int.reduceAdd, Int.reduceSub, Int.reduceMul, Int.reduceNeg, hw], kB.get a0 (by simp), b4⟩
  generalize hz : RF tb f_cluster_All_1 _ _ = z
  refine all_rangeZ (d := X.dep + 1) (p := p) (W := Wd.plain 10 1) hz (fun M1 k m v => v = none ∧ m = awM X (k : Int) .ready none HB H2.length u) (fun _ _ _ _ => False) (Nat.lt_succ_self _) ?_ ?_ ?_ ?_ ?_ ?_
  · have := hAl 0 .ready none u
    rw [awM, ← hHB] at this
    exact this
  · exact hOA.at_.sub (by simp (maxDischargeDepth := 8) only [go_sem, reduceIte, reduceCtorEq, Nat.reduceEqDiff, Nat.reduceAdd, Nat.reduceMul, Nat.reduceSub, Nat.reduceLeDiff, Nat.reduceLT, Nat.reduceBEq, Int.reduceToNat, Int.reduceEq, Int.reduceLT, Int.reduceLE, Int.reduceAdd, Int.reduceSub, Int.reduceMul, Int.reduceNeg])
  · show H2.length < HA.length; omega
  · refine ⟨rfl, ?_⟩
    rw [awM, ← hHB]; rfl
  · rintro M1 k a b m v hk hA ⟨rfl, hm⟩
    have hk2 : k < 2 := by rw [← hlen]; exact (List.getElem?_eq_some_iff.1 hk).1
    refine ⟨awM X ((k + 1 : Nat) : Int) .ready none HB H2.length u, none, true, ?_, hAl _ _ _ _,   .inl (by rw [hm]; rfl), fun _ => ⟨rfl, rfl⟩, fun h => (by cases h)⟩
    subst hm
    intro fs e
    rw [RV_go (l := ⟨.ready, none, _, _, _, _⟩) _ _ _ (by simp (maxDischargeDepth := 8) only [go_sem, reduceIte, reduceCtorEq, Nat.reduceEqDiff, Nat.reduceAdd, Nat.reduceMul, Nat.reduceSub, Nat.reduceLeDiff, Nat.reduceLT, Nat.reduceBEq, Int.reduceToNat, Int.reduceEq, Int.reduceLT, Int.reduceLE, Int.reduceAdd, Int.reduceSub, Int.reduceMul, Int.reduceNeg, awM]; rfl) rfl rfl (by simp (maxDischargeDepth := 8) only [go_sem, reduceIte, reduceCtorEq, Nat.reduceEqDiff, Nat.reduceAdd, Nat.reduceMul, Nat.reduceSub, Nat.reduceLeDiff, Nat.reduceLT, Nat.reduceBEq, Int.reduceToNat, Int.reduceEq, Int.reduceLT, Int.reduceLE, Int.reduceAdd, Int.reduceSub, Int.reduceMul, Int.reduceNeg, awM, hw])]
    simp (maxDischargeDepth := 8) only [go_sem, reduceIte, reduceCtorEq, Nat.reduceEqDiff, Nat.reduceAdd, Nat.reduceMul, Nat.reduceSub, Nat.reduceLeDiff, Nat.reduceLT, Nat.reduceBEq, Int.reduceToNat, Int.reduceEq, Int.reduceLT, Int.reduceLE, Int.reduceAdd, Int.reduceSub, Int.reduceMul, Int.reduceNeg, awM, hw, wrap_succ (show k ≤ 4611686018427387903 by omega)]
  · rintro M1 M' U rfl hz' hA' hN (⟨rfl, hm⟩ | ⟨_, h⟩)
    · have hTk : HB.take HA.length = HA := by rw [← hHB]; exact List.take_left
      subst hz' hm
      rw [hlen]
      simp (maxDischargeDepth := 8) only [go_sem, reduceIte, reduceCtorEq, Nat.reduceEqDiff, Nat.reduceAdd, Nat.reduceMul, Nat.reduceSub, Nat.reduceLeDiff, Nat.reduceLT, Nat.reduceBEq, Int.reduceToNat, Int.reduceEq, Int.reduceLT, Int.reduceLE, Int.reduceAdd, Int.reduceSub, Int.reduceMul, Int.reduceNeg, awM, hw, hTk, show (((2 : Nat) : Int) == 2) = true from rfl, r_cluster_Of, show ((9 : Int) / 8 == 1) = true from rfl, show ((0 : Int) / 8 == 0) = true from rfl, show (((-1) : Int) / 8 == -1) = true from rfl]
      exact ⟨_, _, rfl, by have := hkH.trans kA; rw [← hH] at this ⊢; exact this.back0⟩
    · cases h
theorem aw11 {X : Mem} {z : Option (SV × Mem)} (hz : RF tb f_law11_awake [] X = z) (hw : X.Wf) (hhb : X.hb ≤ X.hl) : ∃ H' u, z = some (.bool true, (X.hp H').es (escMin X.esc u)) ∧ Keep [] X.heap H' := by
  rw [← hz]
  exact r_law11_awake X hw hhb
def Wd.cluB (W : Wd) (x y : Int) : Bool := decide (0 ≤ x) && decide (0 ≤ y) && decide (x ≤ (W.w - 1) / 8) && decide (y ≤ (W.h - 1) / 8)
def Wd.clu (W : Wd) (x y : Int) : Rc := if W.cluB x y then (8 * x, 8 * y, mnI 8 (W.w - 8 * x), mnI 8 (W.h - 8 * y)) else (0, 0, 0, 0)
theorem last_gen {x w : Int} (hx : -1000000 ≤ x ∧ x ≤ 1000000) (hw : 1 ≤ w ∧ w ≤ 40000) : lastX x w = x + w - 1 := by
  unfold lastX; rw [wrap_small (x := x + w) (by omega) (by omega), wrap_small (by omega) (by omega)]
theorem clu_meet {W : Wd} (h1 : 1 ≤ W.w ∧ W.w ≤ 128) (h2 : 1 ≤ W.h ∧ W.h ≤ 128) {x y : Int} (hx : 0 ≤ x ∧ x ≤ 128) (hy : 0 ≤ y ∧ y ≤ 128) :
    meetB (x * 8) (y * 8) 8 8 0 0 W.w W.h = W.cluB x y ∧ meetV (x * 8) (y * 8) 8 8 0 0 W.w W.h = rectR (W.clu x y) := by
  have e1 := last_gen (x := x * 8) (w := 8) (by omega) (by omega)
  have e2 := last_gen (x := y * 8) (w := 8) (by omega) (by omega)
  have e3 := last_gen (x := 0) (w := W.w) (by omega) (by omega)
  have e4 := last_gen (x := 0) (w := W.h) (by omega) (by omega)
  have m1 := may_gen (x := x * 8) (y := y * 8) (w := 8) (h := 8) (by omega) (by omega) (by omega) (by omega)
  have m2 := may_all (w := W.w) (h := W.h) (by omega) (by omega)
  have hb : meetB (x * 8) (y * 8) 8 8 0 0 W.w W.h = W.cluB x y := by
    unfold meetB Wd.cluB
    rw [m1, m2, e1, e2, e3, e4, Bool.eq_iff_iff]
    simp only [Bool.true_and, Bool.and_eq_true, decide_eq_true_eq]
    have a1 := @mxI_le (x * 8) 0
    have a2 := @mxI_le (y * 8) 0
    have a3 := @mnI_le (x * 8 + 8 - 1) (0 + W.w - 1)
    have a4 := @mnI_le (y * 8 + 8 - 1) (0 + W.h - 1)
    omega
  refine ⟨hb, ?_⟩
  cases hc : W.cluB x y with
  | false =>
    rw [hc] at hb
    rw [meet_no hb]
    unfold Wd.clu
    rw [hc]; rfl
  | true =>
    rw [hc] at hb
    rw [meet_yes hb, e1, e2, e3, e4]
    unfold Wd.clu
    rw [hc]
    simp only [Wd.cluB, Bool.and_eq_true, decide_eq_true_eq] at hc
    have b1 : mxI (x * 8) 0 = 8 * x := by unfold mxI; split <;> omega
    have b2 : mxI (y * 8) 0 = 8 * y := by unfold mxI; split <;> omega
    have a3 := @mnI_le (x * 8 + 8 - 1) (0 + W.w - 1)
    have a4 := @mnI_le (y * 8 + 8 - 1) (0 + W.h - 1)
    have a5 := @mnI_le 8 (W.w - 8 * x)
    have a6 := @mnI_le 8 (W.h - 8 * y)
    rw [b1, b2, wl1 (by omega) (by omega), wl1 (by omega) (by omega)]
    simp only [if_true]
    rw [show mnI (x * 8 + 8 - 1) (0 + W.w - 1) - 8 * x + 1 = mnI 8 (W.w - 8 * x) by omega, show mnI (y * 8 + 8 - 1) (0 + W.h - 1) - 8 * y + 1 = mnI 8 (W.h - 8 * y) by omega]
theorem clu_no {W : Wd} {x y : Int} (h : W.cluB x y = false) : W.clu x y = (0, 0, 0, 0) := by unfold Wd.clu; rw [h]; rfl
theorem r_cluster_Rect {m : Mem} {p : WP} {W : Wd} (hW : WorldAt m p W) {X : Mem} (hX : HpSub m X) (hw : X.Wf) (x y : Int) : RF tb f_cluster_Rect [.ptr (.hp p.k 0) 0, .agg [.int .i64 x, .int .i64 y]] X = some (.tup [rectR (W.clu x y), .bool (W.cluB x y)], X) := by
  rw [RF_go t_cluster_Rect _ _ rfl]
  have w1 := hW.w1
  have w2 := hW.h1
  by_cases hin : (0 ≤ x ∧ x ≤ 128) ∧ 0 ≤ y ∧ y ≤ 128
  · have hn : nearC x y = true := by simp only [nearC, nearP, Bool.and_eq_true, decide_eq_true_eq]; omega
    obtain ⟨e1, e2⟩ := clu_meet w1 w2 hin.1 hin.2
    simp (maxDischargeDepth := 8) only [go_sem, reduceIte, reduceCtorEq, Nat.reduceEqDiff, Nat.reduceAdd, Nat.reduceMul, Nat.reduceSub, Nat.reduceLeDiff, Nat.reduceLT, Nat.reduceBEq, Int.reduceToNat, Int.reduceEq, Int.reduceLT, Int.reduceLE, Int.reduceAdd, Int.reduceSub, Int.reduceMul, Int.reduceNeg, s_cluster_Rect, hw, hX, r_cell_Near, hn, show decide (x < 0) = false from decide_eq_false (by omega), show decide (y < 0) = false from decide_eq_false (by omega), show decide (x > 128) = false from decide_eq_false (by omega), show decide (y > 128) = false from decide_eq_false (by omega), shl8, wrap_small (x := x * 8) (by omega) (by omega), wrap_small (x := y * 8) (by omega) (by omega), r_grid_World_All hW, r_cell_Meet, e1, e2]
  · have hc : W.cluB x y = false := by
      simp only [Wd.cluB, Bool.and_eq_false_iff, decide_eq_false_iff_not]; omega
    rw [clu_no hc, hc]
    simp (maxDischargeDepth := 8) only [go_sem, reduceIte, reduceCtorEq, Nat.reduceEqDiff, Nat.reduceAdd, Nat.reduceMul, Nat.reduceSub, Nat.reduceLeDiff, Nat.reduceLT, Nat.reduceBEq, Int.reduceToNat, Int.reduceEq, Int.reduceLT, Int.reduceLE, Int.reduceAdd, Int.reduceSub, Int.reduceMul, Int.reduceNeg, s_cluster_Rect, hw, hX, r_cell_Near]
    repeat' ((first | rw [KG_bool] | rw [KC_bool]); split <;> rename_i h <;> (try simp only [Bool.not_eq_true, Bool.not_not, Bool.not_eq_eq_eq_not, Bool.not_true, Bool.not_false] at h) <;> simp (maxDischargeDepth := 8) only [go_sem, reduceIte, reduceCtorEq, Nat.reduceEqDiff, Nat.reduceAdd, Nat.reduceMul, Nat.reduceSub, Nat.reduceLeDiff, Nat.reduceLT, Nat.reduceBEq, Int.reduceToNat, Int.reduceEq, Int.reduceLT, Int.reduceLE, Int.reduceAdd, Int.reduceSub, Int.reduceMul, Int.reduceNeg, h, hw])
    all_goals first | rfl | (exfalso; simp at *; omega)
theorem r_ref11_Rect {W : Wd} (h1 : 1 ≤ W.w ∧ W.w ≤ 128) (h2 : 1 ≤ W.h ∧ W.h ≤ 128) (X : Mem) (hw : X.Wf) (x y : Int) : RF tb f_ref11_Rect [.int .i64 W.w, .int .i64 W.h, .agg [.int .i64 x, .int .i64 y]] X = some (.tup [rectR (W.clu x y), .bool (W.cluB x y)], X) := by
  rw [RF_go t_ref11_Rect _ _ rfl]
  have dw := fun {X : Mem} (hw : X.Wf) => r_ref11_down X hw (W.w - 1) ⟨by omega, by omega⟩
  have dh := fun {X : Mem} (hw : X.Wf) => r_ref11_down X hw (W.h - 1) ⟨by omega, by omega⟩
  cases hc : W.cluB x y with
  | true =>
    have hin := hc
    simp only [Wd.cluB, Bool.and_eq_true, decide_eq_true_eq] at hin
    obtain ⟨e1, e2⟩ := clu_meet h1 h2 (x := x) (y := y) (by omega) (by omega)
    simp (maxDischargeDepth := 8) only [go_sem, reduceIte, reduceCtorEq, Nat.reduceEqDiff, Nat.reduceAdd, Nat.reduceMul, Nat.reduceSub, Nat.reduceLeDiff, Nat.reduceLT, Nat.reduceBEq, Int.reduceToNat, Int.reduceEq, Int.reduceLT, Int.reduceLE, Int.reduceAdd, Int.reduceSub, Int.reduceMul, Int.reduceNeg, s_ref11_Rect, hw, show decide (x < 0) = false from decide_eq_false (by omega), show decide (y < 0) = false from decide_eq_false (by omega), wrap_small (x := W.w - 1) (by omega) (by omega), wrap_small (x := W.h - 1) (by omega) (by omega), dw, dh, show decide (x > (W.w - 1) / 8) = false from decide_eq_false (by omega), show decide (y > (W.h - 1) / 8) = false from decide_eq_false (by omega), wrap_small (x := x * 8) (by omega) (by omega), wrap_small (x := y * 8) (by omega) (by omega), r_ref03_Meet, e1, e2, hc]
  | false =>
    rw [clu_no hc]
    simp (maxDischargeDepth := 8) only [go_sem, reduceIte, reduceCtorEq, Nat.reduceEqDiff, Nat.reduceAdd, Nat.reduceMul, Nat.reduceSub, Nat.reduceLeDiff, Nat.reduceLT, Nat.reduceBEq, Int.reduceToNat, Int.reduceEq, Int.reduceLT, Int.reduceLE, Int.reduceAdd, Int.reduceSub, Int.reduceMul, Int.reduceNeg, s_ref11_Rect, hw, wrap_small (x := W.w - 1) (by omega) (by omega), wrap_small (x := W.h - 1) (by omega) (by omega), dw, dh]
    simp only [Wd.cluB, Bool.and_eq_false_iff, decide_eq_false_iff_not] at hc
    repeat' ((first | rw [KG_bool] | rw [KC_bool]); split <;> rename_i h <;> (try simp only [Bool.not_eq_true, Bool.not_not, Bool.not_eq_eq_eq_not, Bool.not_true, Bool.not_false] at h) <;> simp (maxDischargeDepth := 8) only [go_sem, reduceIte, reduceCtorEq, Nat.reduceEqDiff, Nat.reduceAdd, Nat.reduceMul, Nat.reduceSub, Nat.reduceLeDiff, Nat.reduceLT, Nat.reduceBEq, Int.reduceToNat, Int.reduceEq, Int.reduceLT, Int.reduceLE, Int.reduceAdd, Int.reduceSub, Int.reduceMul, Int.reduceNeg, h, hw, wrap_small (x := W.w - 1) (by omega) (by omega), wrap_small (x := W.h - 1) (by omega) (by omega), dw, dh])
    all_goals first | rfl | (exfalso; simp at *; omega)
def Wd.clF (W : Wd) (x y : Int) : Nat → List (List SV)
  | 0 => []
  | n + 1 => if W.cluB (x + turnX (4 - (n + 1 : Nat))) (y + turnY (4 - (n + 1 : Nat))) then [.int .i64 (4 - (n + 1 : Nat)), cellV (x + turnX (4 - (n + 1 : Nat))) (y + turnY (4 - (n + 1 : Nat)))] :: W.clF x y n else W.clF x y n
def Wd.clA (W : Wd) (x y : Int) : List (List SV) := if W.cluB x y then W.clF x y 4 else []
structure CaAt (d n k : Nat) (p : WP) (W : Wd) (x y : Int) (m : Mem) : Prop where
  dep : m.dep = d
  wf : m.Wf
  g1 : m.get (.hp n 0) = some (.cells true [.ptr (.hp p.k 0) 0])
  g2 : m.get (.hp k 0) = some (.cells true [.int .i64 x, .int .i64 y])
  w : WorldAt m p W
theorem r_cluster_Around (X : Mem) (hw : X.Wf) (p : WP) (x y : Int) : RF tb f_cluster_Around [.ptr (.hp p.k 0) 0, .agg [.int .i64 x, .int .i64 y]] X = some (.fn f_cluster_Around_1 [] [.ptr (.hp X.hl 0) 0, .ptr (.hp (X.hl + 1) 0) 0], X.hap [(0, .cells true [.ptr (.hp p.k 0) 0]), (0, .cells true [.int .i64 x, .int .i64 y])]) := by
  rw [RF_go t_cluster_Around _ _ rfl]
  simp (maxDischargeDepth := 8) only [go_sem, reduceIte, reduceCtorEq, Nat.reduceEqDiff, Nat.reduceAdd, Nat.reduceMul, Nat.reduceSub, Nat.reduceLeDiff, Nat.reduceLT, Nat.reduceBEq, Int.reduceToNat, Int.reduceEq, Int.reduceLT, Int.reduceLE, Int.reduceAdd, Int.reduceSub, Int.reduceMul, Int.reduceNeg, s_cluster_Around, hw]
  rw [if_neg (by omega)]
theorem clu_step {W : Wd} (h1 : W.w ≤ 128) (h2 : W.h ≤ 128) {x y d : Int} (hc : W.cluB x y = true) (hd : 0 ≤ d ∧ d < 4) : stepOk x y d = true := by
  simp only [Wd.cluB, Bool.and_eq_true, decide_eq_true_eq] at hc
  have ht := turn_lo d
  simp only [stepOk, isDir, nearC, nearP, Bool.and_eq_true, decide_eq_true_eq]
  omega
theorem r_cluster_Around_1 {D i d n k : Nat} (hD : D < d) {p : WP} {W : Wd} {x y : Int} {M M' : Mem} {U : Option Nat} {go : Bool} (hB : CaAt d n k p W x y M) (hR : Rounds tb (.st D i) (CaAt d n k p W x y) M.hl (W.clA x y) M none M' U go) (fs : List (List SBk)) (e : Option Nat) :
    RF tb f_cluster_Around_1 [.yld (.st D i), .ptr (.hp n 0) 0, .ptr (.hp k 0) 0] (M.frs fs e) = some (.tup [], M'.frs fs (escMin e U)) := by
  rw [RF_go t_cluster_Around_1 _ _ rfl]
  have w1 := hB.w.w1
  have w2 := hB.w.h1
  have b1 : ∀ {m : Mem}, CaAt d n k p W x y m → ∀ off j, m.load (.hp n 0) off j = partv [.ptr (.hp p.k 0) 0] off j := fun h off j => by rw [load_get, h.g1]
  have b2 : ∀ {m : Mem}, CaAt d n k p W x y m → ∀ off j, m.load (.hp k 0) off j = partv [.int .i64 x, .int .i64 y] off j := fun h off j => by rw [load_get, h.g2]
  simp (maxDischargeDepth := 8) only [go_sem, reduceIte, reduceCtorEq, Nat.reduceEqDiff, Nat.reduceAdd, Nat.reduceMul, Nat.reduceSub, Nat.reduceLeDiff, Nat.reduceLT, Nat.reduceBEq, Int.reduceToNat, Int.reduceEq, Int.reduceLT, Int.reduceLE, Int.reduceAdd, Int.reduceSub, Int.reduceMul, Int.reduceNeg, s_cluster_Around_1, hB.wf, b1 hB, b2 hB, r_cluster_Rect hB.w, hpsub_refl]
  cases hc : W.cluB x y with
  | false =>
    unfold Wd.clA at hR
    rw [hc] at hR
    cases hR
    simp (maxDischargeDepth := 8) only [go_sem, reduceIte, reduceCtorEq, Nat.reduceEqDiff, Nat.reduceAdd, Nat.reduceMul, Nat.reduceSub, Nat.reduceLeDiff, Nat.reduceLT, Nat.reduceBEq, Int.reduceToNat, Int.reduceEq, Int.reduceLT, Int.reduceLE, Int.reduceAdd, Int.reduceSub, Int.reduceMul, Int.reduceNeg, hB.wf]
  | true =>
    have hR : Rounds tb (.st D i) (CaAt d n k p W x y) M.hl (W.clF x y 4) M none M' U go := by unfold Wd.clA at hR; rw [hc] at hR; exact hR
    simp (maxDischargeDepth := 8) only [go_sem, reduceIte, reduceCtorEq, Nat.reduceEqDiff, Nat.reduceAdd, Nat.reduceMul, Nat.reduceSub, Nat.reduceLeDiff, Nat.reduceLT, Nat.reduceBEq, Int.reduceToNat, Int.reduceEq, Int.reduceLT, Int.reduceLE, Int.reduceAdd, Int.reduceSub, Int.reduceMul, Int.reduceNeg, hB.wf]
    rw [KL_keep _ _ _ (by simp (maxDischargeDepth := 8) only [go_sem, reduceIte, reduceCtorEq, Nat.reduceEqDiff, Nat.reduceAdd, Nat.reduceMul, Nat.reduceSub, Nat.reduceLeDiff, Nat.reduceLT, Nat.reduceBEq, Int.reduceToNat, Int.reduceEq, Int.reduceLT, Int.reduceLE, Int.reduceAdd, Int.reduceSub, Int.reduceMul, Int.reduceNeg, hD, hB.dep])]
    simp (maxDischargeDepth := 8) only [go_sem, reduceIte, reduceCtorEq, Nat.reduceEqDiff, Nat.reduceAdd, Nat.reduceMul, Nat.reduceSub, Nat.reduceLeDiff, Nat.reduceLT, Nat.reduceBEq, Int.reduceToNat, Int.reduceEq, Int.reduceLT, Int.reduceLE, Int.reduceAdd, Int.reduceSub, Int.reduceMul, Int.reduceNeg]
    generalize hbx : SBk.cells true [SV.int IntKind.i64 (W.clu x y).fst, SV.int IntKind.i64 (W.clu x y).snd.fst, SV.int IntKind.i64 (W.clu x y).snd.snd.fst, SV.int IntKind.i64 (W.clu x y).snd.snd.snd] = bx
    refine KL_ind (R := fun z => fin [] (M.frs fs e) z = some (.tup [], M'.frs fs (escMin e U))) (α := Nat × Mem × Option Nat) (fun s => s.1) (fun s => [(0, .yld (.st D i)), (1, .ptr (.hp n 0) 0), (2, .ptr (.hp k 0) 0), (19, .int .i64 (4 - (s.1 : Int)))]) (fun s => (s.2.1.frs fs e).fr [bx] s.2.2)
      (fun s => s.1 ≤ 4 ∧ CaAt d n k p W x y s.2.1 ∧ Noted M.hl s.2.1 s.2.2 ∧ Rounds tb (.st D i) (CaAt d n k p W x y) M.hl (W.clF x y s.1) s.2.1 s.2.2 M' U go) ?_ (4, M, none) ⟨Nat.le_refl _, hB, .inl rfl, hR⟩
    rintro ⟨j, m, u⟩ ⟨h1, h2, h3, h4⟩ ih
    dsimp only at h1 h2 h3 h4 ⊢
    simp (maxDischargeDepth := 8) only [go_sem, reduceIte, reduceCtorEq, Nat.reduceEqDiff, Nat.reduceAdd, Nat.reduceMul, Nat.reduceSub, Nat.reduceLeDiff, Nat.reduceLT, Nat.reduceBEq, Int.reduceToNat, Int.reduceEq, Int.reduceLT, Int.reduceLE, Int.reduceAdd, Int.reduceSub, Int.reduceMul, Int.reduceNeg, hD, h2.dep, h2.wf, b1 h2, b2 h2]
    cases j with
    | zero =>
      cases h4
      simp (maxDischargeDepth := 8) only [go_sem, reduceIte, reduceCtorEq, Nat.reduceEqDiff, Nat.reduceAdd, Nat.reduceMul, Nat.reduceSub, Nat.reduceLeDiff, Nat.reduceLT, Nat.reduceBEq, Int.reduceToNat, Int.reduceEq, Int.reduceLT, Int.reduceLE, Int.reduceAdd, Int.reduceSub, Int.reduceMul, Int.reduceNeg, show decide ((4 : Int) - ((0 : Nat) : Int) < 4) = false from rfl, back_rounds h3]
    | succ j =>
      have hw1 : IntKind.wrap .i64 ((4 : Int) - ((j + 1 : Nat) : Int) + 1) = 4 - ((j : Nat) : Int) := by rw [wrap_small (by omega) (by omega)]; omega
      simp only [Wd.clF] at h4
      have hlt : (4 : Int) - ((j + 1 : Nat) : Int) < 4 := by omega
      have hge : (0 : Int) ≤ (4 : Int) - ((j + 1 : Nat) : Int) := by omega
      generalize hd : (4 : Int) - ((j + 1 : Nat) : Int) = dd at *
      have hs := clu_step w1.2 w2.2 hc (d := dd) ⟨hge, hlt⟩
      have ex : stepX x y dd = x + turnX dd := by simp [stepX, hs]
      have ey : stepY x y dd = y + turnY dd := by simp [stepY, hs]
      simp (maxDischargeDepth := 8) only [go_sem, reduceIte, reduceCtorEq, Nat.reduceEqDiff, Nat.reduceAdd, Nat.reduceMul, Nat.reduceSub, Nat.reduceLeDiff, Nat.reduceLT, Nat.reduceBEq, Int.reduceToNat, Int.reduceEq, Int.reduceLT, Int.reduceLE, Int.reduceAdd, Int.reduceSub, Int.reduceMul, Int.reduceNeg, show decide (dd < 4) = true from decide_eq_true hlt, hD, h2.dep, h2.wf, b1 h2, b2 h2, r_cell_Step, ex, ey, hs, r_cluster_Rect h2.w, hpsub_refl]
      cases hk : W.cluB (x + turnX dd) (y + turnY dd) with
      | false =>
        rw [if_neg (by simp [hk])] at h4
        simp (maxDischargeDepth := 8) only [go_sem, reduceIte, reduceCtorEq, Nat.reduceEqDiff, Nat.reduceAdd, Nat.reduceMul, Nat.reduceSub, Nat.reduceLeDiff, Nat.reduceLT, Nat.reduceBEq, Int.reduceToNat, Int.reduceEq, Int.reduceLT, Int.reduceLE, Int.reduceAdd, Int.reduceSub, Int.reduceMul, Int.reduceNeg, hw1, h2.wf, h2.dep]
        rw [KL_keep _ _ _ (by simp (maxDischargeDepth := 8) only [go_sem, reduceIte, reduceCtorEq, Nat.reduceEqDiff, Nat.reduceAdd, Nat.reduceMul, Nat.reduceSub, Nat.reduceLeDiff, Nat.reduceLT, Nat.reduceBEq, Int.reduceToNat, Int.reduceEq, Int.reduceLT, Int.reduceLE, Int.reduceAdd, Int.reduceSub, Int.reduceMul, Int.reduceNeg, hD, h2.dep])]
        simp (maxDischargeDepth := 8) only [go_sem, reduceIte, reduceCtorEq, Nat.reduceEqDiff, Nat.reduceAdd, Nat.reduceMul, Nat.reduceSub, Nat.reduceLeDiff, Nat.reduceLT, Nat.reduceBEq, Int.reduceToNat, Int.reduceEq, Int.reduceLT, Int.reduceLE, Int.reduceAdd, Int.reduceSub, Int.reduceMul, Int.reduceNeg]
        exact ih (j, m, u) ⟨by omega, h2, h3, h4⟩ (by dsimp only; omega)
      | true =>
        rw [if_pos hk] at h4
        simp (maxDischargeDepth := 8) only [go_sem, reduceIte, reduceCtorEq, Nat.reduceEqDiff, Nat.reduceAdd, Nat.reduceMul, Nat.reduceSub, Nat.reduceLeDiff, Nat.reduceLT, Nat.reduceBEq, Int.reduceToNat, Int.reduceEq, Int.reduceLT, Int.reduceLE, Int.reduceAdd, Int.reduceSub, Int.reduceMul, Int.reduceNeg, hD, h2.dep, h2.wf]
        cases h4 with
        | stop hy hp hk => simp (maxDischargeDepth := 8) only [go_sem, reduceIte, reduceCtorEq, Nat.reduceEqDiff, Nat.reduceAdd, Nat.reduceMul, Nat.reduceSub, Nat.reduceLeDiff, Nat.reduceLT, Nat.reduceBEq, Int.reduceToNat, Int.reduceEq, Int.reduceLT, Int.reduceLE, Int.reduceAdd, Int.reduceSub, Int.reduceMul, Int.reduceNeg, yields_fr hy, back_rounds hk]
        | next hy hp hk t =>
          simp (maxDischargeDepth := 8) only [go_sem, reduceIte, reduceCtorEq, Nat.reduceEqDiff, Nat.reduceAdd, Nat.reduceMul, Nat.reduceSub, Nat.reduceLeDiff, Nat.reduceLT, Nat.reduceBEq, Int.reduceToNat, Int.reduceEq, Int.reduceLT, Int.reduceLE, Int.reduceAdd, Int.reduceSub, Int.reduceMul, Int.reduceNeg, yields_fr hy, hw1]
          rw [KL_keep _ _ _ (by simp (maxDischargeDepth := 8) only [go_sem, reduceIte, reduceCtorEq, Nat.reduceEqDiff, Nat.reduceAdd, Nat.reduceMul, Nat.reduceSub, Nat.reduceLeDiff, Nat.reduceLT, Nat.reduceBEq, Int.reduceToNat, Int.reduceEq, Int.reduceLT, Int.reduceLE, Int.reduceAdd, Int.reduceSub, Int.reduceMul, Int.reduceNeg, hD, hp.dep])]
          simp (maxDischargeDepth := 8) only [go_sem, reduceIte, reduceCtorEq, Nat.reduceEqDiff, Nat.reduceAdd, Nat.reduceMul, Nat.reduceSub, Nat.reduceLeDiff, Nat.reduceLT, Nat.reduceBEq, Int.reduceToNat, Int.reduceEq, Int.reduceLT, Int.reduceLE, Int.reduceAdd, Int.reduceSub, Int.reduceMul, Int.reduceNeg]
          exact ih (j, _, _) ⟨by omega, hp, hk, t⟩ (by dsimp only; omega)
theorem clF_cons {W : Wd} {x y : Int} {v : List SV} {r : List (List SV)} : ∀ {n : Nat}, W.clF x y n = v :: r →
    ∃ j, j < n ∧ W.cluB (x + turnX (4 - (j + 1 : Nat))) (y + turnY (4 - (j + 1 : Nat))) = true ∧
      v = [.int .i64 (4 - (j + 1 : Nat)), cellV (x + turnX (4 - (j + 1 : Nat))) (y + turnY (4 - (j + 1 : Nat)))] ∧ r = W.clF x y j
  | 0, e => by cases e
  | n + 1, e => by
    unfold Wd.clF at e
    split at e
    · rename_i ho
      simp only [List.cons.injEq] at e
      exact ⟨n, by omega, ho, e.1.symm, e.2.symm⟩
    · rename_i ho
      obtain ⟨j, h1, h3⟩ := clF_cons e
      exact ⟨j, by omega, h3⟩
theorem cluAround_rangeZ {z : Option (SV × Mem)} {P : Prop} {D i d n k : Nat} {M : Mem} (hz : RF tb f_cluster_Around_1 [.yld (.st D i), .ptr (.hp n 0) 0, .ptr (.hp k 0) 0] M = z) {p : WP} {W : Wd} (x y : Int) (I J : Nat → Mem → Option Nat → Prop) (hD : D < d)
    (hB : CaAt d n k p W x y M) (h0 : I 4 M none)
    (step : ∀ j j' m u, j' < j → j ≤ 4 → W.cluB x y = true → W.cluB (x + turnX (4 - (j' + 1 : Nat))) (y + turnY (4 - (j' + 1 : Nat))) = true → CaAt d n k p W x y m → I j m u →
      ∃ m' e go, Yields tb (.st D i) [.int .i64 (4 - (j' + 1 : Nat)), cellV (x + turnX (4 - (j' + 1 : Nat))) (y + turnY (4 - (j' + 1 : Nat)))] m m' e go ∧ CaAt d n k p W x y m' ∧ Noted M.hl m' (escMin u e) ∧ (go = true → I j' m' (escMin u e)) ∧ (go = false → J j' m' (escMin u e)))
    (fin : ∀ M' U, z = some (.tup [], M'.es (escMin M.esc U)) → CaAt d n k p W x y M' → Noted M.hl M' U → ((∃ j, j ≤ 4 ∧ I j M' U) ∨ ∃ j, J j M' U) → P) : P := by
  obtain ⟨M', U, go, hR, g1, g2⟩ := rounds_of (F := tb) (.st D i) (CaAt d n k p W x y) M.hl (fun q m u => CaAt d n k p W x y m ∧ ∃ j, j ≤ 4 ∧ (W.cluB x y = true → (W.clA x y).drop q = W.clF x y j) ∧ I j m u) (fun q m u => ∃ j, J j m u) (W.clA x y) 0 M none ⟨hB, 4, Nat.le_refl _, fun h => by unfold Wd.clA; rw [h]; rfl, h0⟩ (by
    rintro q v m u hk ⟨hA, j, hj4, hdr, hI⟩
    rw [Nat.zero_add] at hdr ⊢
    have hc : W.cluB x y = true := by
      cases h : W.cluB x y with
      | true => rfl
      | false => unfold Wd.clA at hk; rw [h] at hk; simp at hk
    have hdr := hdr hc
    have hne : W.clF x y j = v :: (W.clA x y).drop (q + 1) := by
      rw [← hdr]
      have := List.drop_eq_getElem_cons (l := W.clA x y) (i := q) (List.getElem?_eq_some_iff.1 hk).1
      rw [this, (List.getElem?_eq_some_iff.1 hk).2]
    obtain ⟨j', hj1, hok, rfl, hr⟩ := clF_cons hne
    obtain ⟨m', e, go, a1, a2, a3, a4, a5⟩ := step j j' m u hj1 hj4 hc hok hA hI
    exact ⟨m', e, go, a1, a2, a3, fun h => ⟨a2, j', by omega, fun _ => hr, a4 h⟩, fun h => ⟨j', a5 h⟩⟩)
  have hrun := r_cluster_Around_1 hD hB hR [] M.esc
  rw [frs_self, hz] at hrun
  refine fin M' U hrun (hR.last hB) (hR.noted (.inl rfl)) ?_
  cases go with
  | true => left; obtain ⟨-, j, hj, -, hI⟩ := g1 rfl; exact ⟨j, hj, hI⟩
  | false => right; obtain ⟨i, -, j, hJ⟩ := g2 rfl; exact ⟨j, hJ⟩
def lessB (a b c d : Int) : Bool := decide (b < d) || (decide (b = d) && decide (a < c))
theorem r_ref03_Less (X : Mem) (hw : X.Wf) (a b c d : Int) : RF tb f_ref03_Less [.agg [.int .i64 a, .int .i64 b], .agg [.int .i64 c, .int .i64 d]] X = some (.bool (lessB a b c d), X) := by
  rw [RF_go t_ref03_Less _ _ rfl]
  simp (maxDischargeDepth := 8) only [go_sem, reduceIte, reduceCtorEq, Nat.reduceEqDiff, Nat.reduceAdd, Nat.reduceMul, Nat.reduceSub, Nat.reduceLeDiff, Nat.reduceLT, Nat.reduceBEq, Int.reduceToNat, Int.reduceEq, Int.reduceLT, Int.reduceLE, Int.reduceAdd, Int.reduceSub, Int.reduceMul, Int.reduceNeg, s_ref03_Less, hw]
  repeat' ((first | rw [KG_bool] | rw [KC_bool]); split <;> rename_i h <;> (try simp only [Bool.not_eq_true, Bool.not_not, Bool.not_eq_eq_eq_not, Bool.not_true, Bool.not_false] at h) <;> simp (maxDischargeDepth := 8) only [go_sem, reduceIte, reduceCtorEq, Nat.reduceEqDiff, Nat.reduceAdd, Nat.reduceMul, Nat.reduceSub, Nat.reduceLeDiff, Nat.reduceLT, Nat.reduceBEq, Int.reduceToNat, Int.reduceEq, Int.reduceLT, Int.reduceLE, Int.reduceAdd, Int.reduceSub, Int.reduceMul, Int.reduceNeg, h, hw])
  all_goals simp_all [lessB]
theorem both_ofW {X : Mem} {tv bv : SV} {W : Wd} (hd : W.dirty = []) {z : Option (SV × Mem)} (hz : RF tb f_law06_Both [.agg [.int .i64 W.w, .int .i64 W.h, tv, bv]] X = z) (hm : MapIn X tv bv W.tiles W.bl) (hw : X.Wf) (hhb : X.hb ≤ X.hl) :
    (∃ H' u, z = some (.tup [.nilp, .nilp, .bool false], (X.hp H').es (escMin X.esc u)) ∧ Keep [] X.heap H') ∨
    (∃ H' u p q, z = some (.tup [.ptr (.hp p.k 0) 0, .ptr (.hp q.k 0) 0, .bool true], (X.hp H').es (escMin X.esc u)) ∧
    WorldOwn H' p W ∧ RefOwn H' q W W.bl ∧ W.Good ∧ Keep [] X.heap H' ∧ (∀ i ∈ p.fp, X.heap.length ≤ i ∧ i ∉ q.fp) ∧ (∀ i ∈ q.fp, X.heap.length ≤ i)) := by
  obtain ⟨w, hh, tiles, bl, dirty⟩ := W
  simp only at hd
  subst hd
  exact both_of hz hm hw hhb
/-- How many cells the first k clusters have. -/
def Wd.sumC (W : Wd) (k : Nat) : Int := W.w * mnI (8 * ((k / W.cw.toNat : Nat) : Int)) W.h + mnI 8 (W.h - 8 * ((k / W.cw.toNat : Nat) : Int)) * mnI (8 * ((k % W.cw.toNat : Nat) : Int)) W.w
abbrev crM (X : Mem) (W : Wd) (x y : Int) (tv bv : SV) (p : WP) (n a b : Int) (st : LoopState) (pd : Option Jump) (H : Hp) (k : Nat) (e : Option Nat) : Mem :=
  (X.hp H).fr [.cells true [.int .i64 W.w, .int .i64 W.h, tv, bv], .cells true [.int .i64 x, .int .i64 y], .cells true [.bool false], .cells true [.ptr (.hp p.k 0) 0],
    .cells true [.int .i64 (W.clu x y).1, .int .i64 (W.clu x y).2.1, .int .i64 (W.clu x y).2.2.1, .int .i64 (W.clu x y).2.2.2], .cells true [.int .i64 (W.clu x y).1, .int .i64 (W.clu x y).2.1, .int .i64 (W.clu x y).2.2.1, .int .i64 (W.clu x y).2.2.2],
    .cells true [.bool (W.cluB x y)], .cells true [.int .i64 n], .cells true [.int .i64 a, .int .i64 b],
    .loop ⟨st, pd, [(2, .ptr (.st X.dep 0) 0), (3, .ptr (.st X.dep 1) 0), (4, .ptr (.st X.dep 2) 0), (5, .ptr (.st X.dep 3) 0), (11, .ptr (.st X.dep 6) 0), (12, .ptr (.st X.dep 7) 0), (13, .ptr (.st X.dep 8) 0), (60, .fn f_cluster_All_1 [] [.ptr (.hp k 0) 0])], [61], s_law11_ClusterRects_p7, s_law11_ClusterRects_p13⟩] e
theorem clu_cells {W : Wd} (h1 : 1 ≤ W.w ∧ W.w ≤ 128) (h2 : 1 ≤ W.h ∧ W.h ≤ 128) : mayB 0 0 W.cw W.ch = true ∧ (cellsP 0 0 W.cw W.ch).length = W.cw.toNat * W.ch.toNat ∧ ∀ k a b, (cellsP 0 0 W.cw W.ch)[k]? = some (a, b) → k < W.cw.toNat * W.ch.toNat ∧ a = ((k % W.cw.toNat : Nat) : Int) ∧ b = ((k / W.cw.toNat : Nat) : Int) := by
  have hm : mayB 0 0 W.cw W.ch = true := may_all (by unfold Wd.cw; omega) (by unfold Wd.ch; omega)
  refine ⟨hm, ?_, ?_⟩
  · unfold cellsP; rw [hm]; simp
  · intro k a b hk
    unfold cellsP at hk
    rw [hm] at hk
    simp only [if_true, List.getElem?_map, Option.map_eq_some_iff] at hk
    obtain ⟨i, hi, he⟩ := hk
    rw [List.getElem?_eq_some_iff] at hi
    obtain ⟨hi1, hi2⟩ := hi
    simp at hi1 hi2
    subst hi2
    simp only [Prod.mk.injEq, Int.zero_add] at he
    exact ⟨hi1, he.1.symm, he.2.symm⟩
theorem sumC_next {W : Wd} (h1 : 1 ≤ W.w ∧ W.w ≤ 128) (h2 : 1 ≤ W.h ∧ W.h ≤ 128) {k : Nat} (hk : k < W.cw.toNat * W.ch.toNat) : W.sumC k + mnI 8 (W.w - 8 * ((k % W.cw.toNat : Nat) : Int)) * mnI 8 (W.h - 8 * ((k / W.cw.toNat : Nat) : Int)) = W.sumC (k + 1) := by
  have hcw : W.cw = (W.w - 1) / 8 + 1 := rfl
  have hch : W.ch = (W.h - 1) / 8 + 1 := rfl
  have hpos : 0 < W.cw.toNat := by omega
  have l2 : k % W.cw.toNat < W.cw.toNat := Nat.mod_lt _ hpos
  have l3 : k / W.cw.toNat < W.ch.toNat := Nat.div_lt_of_lt_mul hk
  have hdm := Nat.div_add_mod k W.cw.toNat
  unfold Wd.sumC
  by_cases hlast : k % W.cw.toNat + 1 = W.cw.toNat
  · have e1 : (k + 1) / W.cw.toNat = k / W.cw.toNat + 1 := by
      rw [show k + 1 = W.cw.toNat * (k / W.cw.toNat + 1) by rw [Nat.mul_add]; omega]
      exact Nat.mul_div_cancel_left _ hpos
    have e2 : (k + 1) % W.cw.toNat = 0 := by
      rw [show k + 1 = W.cw.toNat * (k / W.cw.toNat + 1) by rw [Nat.mul_add]; omega]
      exact Nat.mul_mod_right _ _
    rw [e1, e2]
    generalize k / W.cw.toNat = q at *
    generalize k % W.cw.toNat = r at *
    have a1 : mnI (8 * (q : Int)) W.h = 8 * q := by unfold mnI; split <;> omega
    have a2 : mnI (8 * (r : Int)) W.w = 8 * r := by unfold mnI; split <;> omega
    have a3 : mnI 8 (W.w - 8 * (r : Int)) = W.w - 8 * r := by unfold mnI; split <;> omega
    have a4 : mnI (8 * ((0 : Nat) : Int)) W.w = 0 := by unfold mnI; split <;> omega
    have a5 : mnI (8 * ((q + 1 : Nat) : Int)) W.h = 8 * q + mnI 8 (W.h - 8 * (q : Int)) := by unfold mnI; split <;> split <;> omega
    rw [a1, a2, a3, a4, a5]
    generalize mnI 8 (W.h - 8 * (q : Int)) = t
    rw [Int.mul_add, Int.sub_mul, Int.mul_comm t (8 * (r : Int))]
    omega
  · have e1 : (k + 1) / W.cw.toNat = k / W.cw.toNat := by
      rw [show k + 1 = W.cw.toNat * (k / W.cw.toNat) + (k % W.cw.toNat + 1) by omega, Nat.mul_add_div hpos, Nat.div_eq_of_lt (show k % W.cw.toNat + 1 < W.cw.toNat by omega), Nat.add_zero]
    have e2 : (k + 1) % W.cw.toNat = k % W.cw.toNat + 1 := by
      rw [show k + 1 = W.cw.toNat * (k / W.cw.toNat) + (k % W.cw.toNat + 1) by omega, Nat.mul_add_mod, Nat.mod_eq_of_lt (show k % W.cw.toNat + 1 < W.cw.toNat by omega)]
    rw [e1, e2]
    generalize k / W.cw.toNat = q at *
    generalize k % W.cw.toNat = r at *
    have a2 : mnI (8 * (r : Int)) W.w = 8 * r := by unfold mnI; split <;> omega
    have a3 : mnI 8 (W.w - 8 * (r : Int)) = 8 := by unfold mnI; split <;> omega
    have a4 : mnI (8 * ((r + 1 : Nat) : Int)) W.w = 8 * r + 8 := by unfold mnI; split <;> omega
    rw [a2, a3, a4]
    generalize mnI 8 (W.h - 8 * (q : Int)) = t
    rw [Int.mul_add t (8 * (r : Int)) 8, Int.mul_comm t 8]
    omega
theorem sumC_end {W : Wd} (h1 : 1 ≤ W.w ∧ W.w ≤ 128) (h2 : 1 ≤ W.h ∧ W.h ≤ 128) : W.sumC (W.cw.toNat * W.ch.toNat) = W.w * W.h := by
  have hcw : W.cw = (W.w - 1) / 8 + 1 := rfl
  have hch : W.ch = (W.h - 1) / 8 + 1 := rfl
  have hpos : 0 < W.cw.toNat := by omega
  unfold Wd.sumC
  rw [Nat.mul_div_cancel_left _ hpos, Nat.mul_mod_right]
  have a1 : mnI (8 * ((W.ch.toNat : Nat) : Int)) W.h = W.h := by unfold mnI; split <;> omega
  have a2 : mnI (8 * ((0 : Nat) : Int)) W.w = 0 := by unfold mnI; split <;> omega
  rw [a1, a2]
  omega
theorem sumC_in {W : Wd} (h1 : 1 ≤ W.w ∧ W.w ≤ 128) (h2 : 1 ≤ W.h ∧ W.h ≤ 128) : ∀ {k : Nat}, k ≤ W.cw.toNat * W.ch.toNat → 0 ≤ W.sumC k ∧ W.sumC k ≤ 64 * (k : Int)
  | 0, _ => by
    unfold Wd.sumC
    simp only [Nat.zero_div, Nat.zero_mod]
    have a1 : mnI (8 * ((0 : Nat) : Int)) W.h = 0 := by unfold mnI; split <;> omega
    have a2 : mnI (8 * ((0 : Nat) : Int)) W.w = 0 := by unfold mnI; split <;> omega
    rw [a1, a2]
    omega
  | k + 1, hk => by
    have ih := sumC_in h1 h2 (k := k) (by omega)
    rw [← sumC_next h1 h2 (k := k) (by omega)]
    have hcw : W.cw = (W.w - 1) / 8 + 1 := rfl
    have hch : W.ch = (W.h - 1) / 8 + 1 := rfl
    have hpos : 0 < W.cw.toNat := by omega
    have l2 : k % W.cw.toNat < W.cw.toNat := Nat.mod_lt _ hpos
    have l3 : k / W.cw.toNat < W.ch.toNat := Nat.div_lt_of_lt_mul (by omega)
    have a3 : 0 ≤ mnI 8 (W.w - 8 * ((k % W.cw.toNat : Nat) : Int)) ∧ mnI 8 (W.w - 8 * ((k % W.cw.toNat : Nat) : Int)) ≤ 8 := by
      generalize k % W.cw.toNat = r at *
      unfold mnI; split <;> omega
    have a4 : 0 ≤ mnI 8 (W.h - 8 * ((k / W.cw.toNat : Nat) : Int)) ∧ mnI 8 (W.h - 8 * ((k / W.cw.toNat : Nat) : Int)) ≤ 8 := by
      generalize k / W.cw.toNat = r at *
      unfold mnI; split <;> omega
    generalize mnI 8 (W.w - 8 * ((k % W.cw.toNat : Nat) : Int)) = s at *
    generalize mnI 8 (W.h - 8 * ((k / W.cw.toNat : Nat) : Int)) = t at *
    have h3 : s * t ≤ 8 * 8 := Int.mul_le_mul a3.2 a4.2 (by omega) (by omega)
    have h4 : 0 ≤ s * t := Int.mul_nonneg a3.1 a4.1
    omega
theorem less_next {A : Nat} (hA : 0 < A) (k : Nat) : lessB ((k % A : Nat) : Int) ((k / A : Nat) : Int) (((k + 1) % A : Nat) : Int) (((k + 1) / A : Nat) : Int) = true := by
  have hdm := Nat.div_add_mod k A
  have l2 : k % A < A := Nat.mod_lt _ hA
  unfold lessB
  by_cases hlast : k % A + 1 = A
  · have e1 : (k + 1) / A = k / A + 1 := by
      rw [show k + 1 = A * (k / A + 1) by rw [Nat.mul_add]; omega]
      exact Nat.mul_div_cancel_left _ hA
    rw [e1]
    have : decide (((k / A : Nat) : Int) < ((k / A + 1 : Nat) : Int)) = true := decide_eq_true (by generalize k / A = q; omega)
    rw [this]; rfl
  · have e1 : (k + 1) / A = k / A := by
      rw [show k + 1 = A * (k / A) + (k % A + 1) by omega, Nat.mul_add_div hA, Nat.div_eq_of_lt (show k % A + 1 < A by omega), Nat.add_zero]
    have e2 : (k + 1) % A = k % A + 1 := by
      rw [show k + 1 = A * (k / A) + (k % A + 1) by omega, Nat.mul_add_mod, Nat.mod_eq_of_lt (show k % A + 1 < A by omega)]
    rw [e1, e2]
    have : decide (((k % A : Nat) : Int) < ((k % A + 1 : Nat) : Int)) = true := decide_eq_true (by generalize k % A = q; omega)
    rw [this]; simp
abbrev caM (X : Mem) (W : Wd) (x y : Int) (tv bv : SV) (p : WP) (n a b d : Int) (L : SBk) (st : LoopState) (pd : Option Jump) (H : Hp) (k : Nat) (e : Option Nat) : Mem :=
  (X.hp H).fr [.cells true [.int .i64 W.w, .int .i64 W.h, tv, bv], .cells true [.int .i64 x, .int .i64 y], .cells true [.bool false], .cells true [.ptr (.hp p.k 0) 0],
    .cells true [.int .i64 (W.clu x y).1, .int .i64 (W.clu x y).2.1, .int .i64 (W.clu x y).2.2.1, .int .i64 (W.clu x y).2.2.2], .cells true [.int .i64 (W.clu x y).1, .int .i64 (W.clu x y).2.1, .int .i64 (W.clu x y).2.2.1, .int .i64 (W.clu x y).2.2.2],
    .cells true [.bool (W.cluB x y)], .cells true [.int .i64 n], .cells true [.int .i64 a, .int .i64 b], L, .cells true [.int .i64 d],
    .loop ⟨st, pd, [(2, .ptr (.st X.dep 0) 0), (3, .ptr (.st X.dep 1) 0), (4, .ptr (.st X.dep 2) 0), (11, .ptr (.st X.dep 6) 0), (12, .ptr (.st X.dep 7) 0), (17, .ptr (.st X.dep 10) 0), (86, .fn f_cluster_Around_1 [] [.ptr (.hp k 0) 0, .ptr (.hp (k + 1) 0) 0])], [87, 88], s_law11_ClusterRects_p16, s_law11_ClusterRects_p24⟩] e
theorem r_law11_ClusterRects {X : Mem} {tv bv : SV} {W : Wd} (hdy : W.dirty = []) (hm : MapIn X tv bv W.tiles W.bl) (hw : X.Wf) (hhb : X.hb ≤ X.hl) (x y : Int) : ∃ m', RF tb f_law11_ClusterRects [.agg [.int .i64 W.w, .int .i64 W.h, tv, bv], .agg [.int .i64 x, .int .i64 y]] X = some (.bool true, m') := by
  rw [RF_go t_law11_ClusterRects _ _ rfl, push_hp]
  simp (maxDischargeDepth := 8) only [go_sem, reduceIte, reduceCtorEq, Nat.reduceEqDiff, Nat.reduceAdd, Nat.reduceMul, Nat.reduceSub, Nat.reduceLeDiff, Nat.reduceLT, Nat.reduceBEq, Int.reduceToNat, Int.reduceEq, Int.reduceLT, Int.reduceLE, Int.reduceAdd, Int.reduceSub, Int.reduceMul, Int.reduceNeg, s_law11_ClusterRects, hw, hm.t.cell, hm.b.cell]
  generalize hz : RF tb f_law11_awake _ _ = z
  obtain ⟨H0, u0, rfl, k0⟩ := aw11 hz (by simp (maxDischargeDepth := 8) only [go_sem, reduceIte, reduceCtorEq, Nat.reduceEqDiff, Nat.reduceAdd, Nat.reduceMul, Nat.reduceSub, Nat.reduceLeDiff, Nat.reduceLT, Nat.reduceBEq, Int.reduceToNat, Int.reduceEq, Int.reduceLT, Int.reduceLE, Int.reduceAdd, Int.reduceSub, Int.reduceMul, Int.reduceNeg, hw]) hhb
  change Keep [] X.heap H0 at k0
  have hl0 : X.hb ≤ H0.length := Nat.le_trans hhb k0.1
  simp (maxDischargeDepth := 8) only [go_sem, reduceIte, reduceCtorEq, Nat.reduceEqDiff, Nat.reduceAdd, Nat.reduceMul, Nat.reduceSub, Nat.reduceLeDiff, Nat.reduceLT, Nat.reduceBEq, Int.reduceToNat, Int.reduceEq, Int.reduceLT, Int.reduceLE, Int.reduceAdd, Int.reduceSub, Int.reduceMul, Int.reduceNeg, hw]
  generalize hz : RF tb f_law06_Both _ _ = z
  rcases both_ofW hdy hz ⟨hm.t.keep k0 (by simp), hm.g, hm.b.keep k0 (by simp), hm.n⟩ (by simp (maxDischargeDepth := 8) only [go_sem, reduceIte, reduceCtorEq, Nat.reduceEqDiff, Nat.reduceAdd, Nat.reduceMul, Nat.reduceSub, Nat.reduceLeDiff, Nat.reduceLT, Nat.reduceBEq, Int.reduceToNat, Int.reduceEq, Int.reduceLT, Int.reduceLE, Int.reduceAdd, Int.reduceSub, Int.reduceMul, Int.reduceNeg, hw]) hl0 with ⟨H', u, rfl, k⟩ | ⟨H', u, p, q, rfl, hO, hR, hg, k, -, -⟩
  · have hle : X.hb ≤ H'.length := Nat.le_trans hl0 k.1
    simp (maxDischargeDepth := 8) only [go_sem, reduceIte, reduceCtorEq, Nat.reduceEqDiff, Nat.reduceAdd, Nat.reduceMul, Nat.reduceSub, Nat.reduceLeDiff, Nat.reduceLT, Nat.reduceBEq, Int.reduceToNat, Int.reduceEq, Int.reduceLT, Int.reduceLE, Int.reduceAdd, Int.reduceSub, Int.reduceMul, Int.reduceNeg, hw]
    generalize hz : RF tb f_law11_awake _ _ = z
    obtain ⟨H', u, rfl, -⟩ := aw11 hz (by simp (maxDischargeDepth := 8) only [go_sem, reduceIte, reduceCtorEq, Nat.reduceEqDiff, Nat.reduceAdd, Nat.reduceMul, Nat.reduceSub, Nat.reduceLeDiff, Nat.reduceLT, Nat.reduceBEq, Int.reduceToNat, Int.reduceEq, Int.reduceLT, Int.reduceLE, Int.reduceAdd, Int.reduceSub, Int.reduceMul, Int.reduceNeg, hw]) hle
    simp (maxDischargeDepth := 8) only [go_sem, reduceIte, reduceCtorEq, Nat.reduceEqDiff, Nat.reduceAdd, Nat.reduceMul, Nat.reduceSub, Nat.reduceLeDiff, Nat.reduceLT, Nat.reduceBEq, Int.reduceToNat, Int.reduceEq, Int.reduceLT, Int.reduceLE, Int.reduceAdd, Int.reduceSub, Int.reduceMul, Int.reduceNeg, hw]
    exact ⟨_, rfl⟩
  · have hle : X.hb ≤ H'.length := Nat.le_trans hl0 k.1
    have w1 := hO.at_.w1
    have w2 := hO.at_.h1
    have hcw : W.cw = (W.w - 1) / 8 + 1 := rfl
    have hch : W.ch = (W.h - 1) / 8 + 1 := rfl
    have hpos : 0 < W.cw.toNat := by omega
    have hrr := fun {X : Mem} (hw : X.Wf) (x y : Int) => r_ref11_Rect (W := W) w1 w2 X hw x y
    simp (maxDischargeDepth := 8) only [go_sem, reduceIte, reduceCtorEq, Nat.reduceEqDiff, Nat.reduceAdd, Nat.reduceMul, Nat.reduceSub, Nat.reduceLeDiff, Nat.reduceLT, Nat.reduceBEq, Int.reduceToNat, Int.reduceEq, Int.reduceLT, Int.reduceLE, Int.reduceAdd, Int.reduceSub, Int.reduceMul, Int.reduceNeg, hw, r_cluster_Rect hO.at_, hrr, r_cluster_All]
    obtain ⟨HA, hHA⟩ : ∃ HA, H' ++ [(0, SBk.cells true [.ptr (.hp p.k 0) 0])] = HA := ⟨_, rfl⟩
    have kA : Keep [] H' HA := by rw [← hHA]; exact Keep.app _ _ _
    have lA : HA.length = H'.length + 1 := by rw [← hHA, List.length_append]; rfl
    have a0 : hget HA H'.length 0 = some (.cells true [.ptr (.hp p.k 0) 0]) := by rw [← hHA]; exact hget_new0 0 _
    have hOA := hO.keep kA (by simp)
    rw [hHA]
    obtain ⟨HB, hHB⟩ : ∃ HB, HA ++ [(0, SBk.cells true [.int .i64 0, .int .i64 0, .int .i64 W.cw, .int .i64 W.ch])] = HB := ⟨_, rfl⟩
    have kB : Keep [] HA HB := by rw [← hHB]; exact Keep.app _ _ _
    have b4 : hget HB HA.length 0 = some (.cells true [.int .i64 0, .int .i64 0, .int .i64 W.cw, .int .i64 W.ch]) := by rw [← hHB]; exact hget_new0 0 _
    have hOB := hOA.keep kB (by simp)
    obtain ⟨hcm, hcl, hcg⟩ := clu_cells w1 w2
    have hAl : ∀ n a b st pd e, AlAt (X.dep + 1) H'.length HA.length p W (crM X W x y tv bv p n a b st pd HB H'.length e) := fun n a b st pd e => ⟨rfl, by simp (maxDischargeDepth := 8) only [go_sem, reduceIte, reduceCtorEq, Nat.reduceEqDiff, Nat.reduceAdd, Nat.reduceMul, Nat.reduceSub, Nat.reduceLeDiff, Nat.reduceLT, Nat.reduceBEq, Int.reduceToNat, Int.reduceEq, Int.reduceLT, Int.reduceLE, Int.reduceAdd, Int.reduceSub, Int.reduceMul, Int.reduceNeg, hw], kB.get a0 (by simp), b4⟩
    generalize hz : RF tb f_cluster_All_1 _ _ = z
    refine all_rangeZ (d := X.dep + 1) (p := p) (W := W) hz (fun M1 k m v => v = none ∧ ∃ a b : Int, ((k = 0 ∧ a = -1 ∧ b = -1) ∨ ∃ j : Nat, k = j + 1 ∧ a = ((j % W.cw.toNat : Nat) : Int) ∧ b = ((j / W.cw.toNat : Nat) : Int)) ∧ m = crM X W x y tv bv p (W.sumC k) a b .ready none HB H'.length (escMin u0 u)) (fun _ _ _ _ => False) (Nat.lt_succ_self _) ?_ ?_ ?_ ?_ ?_ ?_
    · have := hAl 0 (-1) (-1) .ready none (escMin u0 u)
      rw [crM, ← hHB] at this
      exact this
    · exact hOA.at_.sub (by simp (maxDischargeDepth := 8) only [go_sem, reduceIte, reduceCtorEq, Nat.reduceEqDiff, Nat.reduceAdd, Nat.reduceMul, Nat.reduceSub, Nat.reduceLeDiff, Nat.reduceLT, Nat.reduceBEq, Int.reduceToNat, Int.reduceEq, Int.reduceLT, Int.reduceLE, Int.reduceAdd, Int.reduceSub, Int.reduceMul, Int.reduceNeg])
    · show H'.length < HA.length; omega
    · refine ⟨rfl, -1, -1, .inl ⟨rfl, rfl, rfl⟩, ?_⟩
      have e0 : W.sumC 0 = 0 := by have := sumC_in w1 w2 (k := 0) (Nat.zero_le _); omega
      rw [crM, ← hHB, e0]; rfl
    · rintro M1 k a b m v hk hA ⟨rfl, la, lb, hlast, hm'⟩
      obtain ⟨hlt, rfl, rfl⟩ := hcg k a b hk
      have l2 : k % W.cw.toNat < W.cw.toNat := Nat.mod_lt _ hpos
      have l3 : k / W.cw.toNat < W.ch.toNat := Nat.div_lt_of_lt_mul hlt
      have hless : lessB la lb ((k % W.cw.toNat : Nat) : Int) ((k / W.cw.toNat : Nat) : Int) = true := by
        rcases hlast with ⟨rfl, rfl, rfl⟩ | ⟨j, rfl, rfl, rfl⟩
        · unfold lessB
          rw [Nat.zero_div, Nat.zero_mod]; rfl
        · exact less_next hpos j
      have hclB : W.cluB ((k % W.cw.toNat : Nat) : Int) ((k / W.cw.toNat : Nat) : Int) = true := by
        generalize k % W.cw.toNat = r at *
        generalize k / W.cw.toNat = s at *
        simp only [Wd.cluB, Bool.and_eq_true, decide_eq_true_eq]
        omega
      have hnx := sumC_next w1 w2 hlt
      have hsb := sumC_in w1 w2 (k := k + 1) (by omega)
      have hsb0 := sumC_in w1 w2 (k := k) (by omega)
      have hcl2 : W.clu ((k % W.cw.toNat : Nat) : Int) ((k / W.cw.toNat : Nat) : Int) = (8 * ((k % W.cw.toNat : Nat) : Int), 8 * ((k / W.cw.toNat : Nat) : Int), mnI 8 (W.w - 8 * ((k % W.cw.toNat : Nat) : Int)), mnI 8 (W.h - 8 * ((k / W.cw.toNat : Nat) : Int))) := by unfold Wd.clu; rw [hclB]; rfl
      have hk400 : k + 1 ≤ 16 * 16 := by
        have : W.cw.toNat * W.ch.toNat ≤ 16 * 16 := Nat.mul_le_mul (by omega) (by omega)
        omega
      refine ⟨crM X W x y tv bv p (W.sumC (k + 1)) ((k % W.cw.toNat : Nat) : Int) ((k / W.cw.toNat : Nat) : Int) .ready none HB H'.length (escMin u0 u), none, true, ?_, hAl _ _ _ _ _ _, .inl (by rw [hm']; rfl), fun _ => ⟨rfl, _, _, .inr ⟨k, rfl, rfl, rfl⟩, rfl⟩, fun h => (by cases h)⟩
      rw [← hnx] at hsb ⊢
      generalize ((k % W.cw.toNat : Nat) : Int) = r at *
      generalize ((k / W.cw.toNat : Nat) : Int) = s at *
      generalize hsa : mnI 8 (W.w - 8 * r) = sa at *
      generalize hsc : mnI 8 (W.h - 8 * s) = sc at *
      subst hm'
      intro fs e
      rw [RV_go (l := ⟨.ready, none, _, _, _, _⟩) _ _ _ (by simp (maxDischargeDepth := 8) only [go_sem, reduceIte, reduceCtorEq, Nat.reduceEqDiff, Nat.reduceAdd, Nat.reduceMul, Nat.reduceSub, Nat.reduceLeDiff, Nat.reduceLT, Nat.reduceBEq, Int.reduceToNat, Int.reduceEq, Int.reduceLT, Int.reduceLE, Int.reduceAdd, Int.reduceSub, Int.reduceMul, Int.reduceNeg, crM]; rfl) rfl rfl (by simp (maxDischargeDepth := 8) only [go_sem, reduceIte, reduceCtorEq, Nat.reduceEqDiff, Nat.reduceAdd, Nat.reduceMul, Nat.reduceSub, Nat.reduceLeDiff, Nat.reduceLT, Nat.reduceBEq, Int.reduceToNat, Int.reduceEq, Int.reduceLT, Int.reduceLE, Int.reduceAdd, Int.reduceSub, Int.reduceMul, Int.reduceNeg, crM, hw])]
      simp (maxDischargeDepth := 8) only [go_sem, reduceIte, reduceCtorEq, Nat.reduceEqDiff, Nat.reduceAdd, Nat.reduceMul, Nat.reduceSub, Nat.reduceLeDiff, Nat.reduceLT, Nat.reduceBEq, Int.reduceToNat, Int.reduceEq, Int.reduceLT, Int.reduceLE, Int.reduceAdd, Int.reduceSub, Int.reduceMul, Int.reduceNeg, crM, hw, r_cluster_Rect hOB.at_, hclB, hcl2, r_ref03_Less, hless, wrap_small (x := sa * sc) (by omega) (by omega), wrap_small (x := W.sumC k + sa * sc) (by omega) (by omega)]
    · rintro M1 M' U rfl hz' hA' hN (⟨rfl, a, b, -, hm'⟩ | ⟨_, h⟩)
      · have hTk : HB.take HA.length = HA := by rw [← hHB]; exact List.take_left
        subst hz' hm'
        rw [hcl, sumC_end w1 w2]
        simp (maxDischargeDepth := 8) only [go_sem, reduceIte, reduceCtorEq, Nat.reduceEqDiff, Nat.reduceAdd, Nat.reduceMul, Nat.reduceSub, Nat.reduceLeDiff, Nat.reduceLT, Nat.reduceBEq, Int.reduceToNat, Int.reduceEq, Int.reduceLT, Int.reduceLE, Int.reduceAdd, Int.reduceSub, Int.reduceMul, Int.reduceNeg, crM, hw, hTk, r_cluster_Around]
        obtain ⟨HC, hHC⟩ : ∃ HC, HA ++ [(0, SBk.cells true [.ptr (.hp p.k 0) 0]), (0, SBk.cells true [.int .i64 x, .int .i64 y])] = HC := ⟨_, rfl⟩
        have kC : Keep [] HA HC := by rw [← hHC]; exact Keep.app _ _ _
        have c0 : hget HC HA.length 0 = some (.cells true [.ptr (.hp p.k 0) 0]) := by rw [← hHC]; exact hget_new0 0 _
        have c1 : hget HC (HA.length + 1) 0 = some (.cells true [.int .i64 x, .int .i64 y]) := by rw [← hHC]; exact hget_newi 1 0 _
        have hOC := hOA.keep kC (by simp)
        have hleC : X.hb ≤ HC.length := by have := kC.1; have := kA.1; omega
        rw [hHC]
        generalize hL : SBk.loop ⟨LoopState.exhausted, none, _, _, _, _⟩ = Lb
        have hCa : ∀ n a b d st pd e, CaAt (X.dep + 1) HA.length (HA.length + 1) p W x y (caM X W x y tv bv p n a b d Lb st pd HC HA.length e) := fun n a b d st pd e => ⟨rfl, by simp (maxDischargeDepth := 8) only [go_sem, reduceIte, reduceCtorEq, Nat.reduceEqDiff, Nat.reduceAdd, Nat.reduceMul, Nat.reduceSub, Nat.reduceLeDiff, Nat.reduceLT, Nat.reduceBEq, Int.reduceToNat, Int.reduceEq, Int.reduceLT, Int.reduceLE, Int.reduceAdd, Int.reduceSub, Int.reduceMul, Int.reduceNeg, hw], c0, c1, hOC.at_.sub (by simp (maxDischargeDepth := 8) only [go_sem, reduceIte, reduceCtorEq, Nat.reduceEqDiff, Nat.reduceAdd, Nat.reduceMul, Nat.reduceSub, Nat.reduceLeDiff, Nat.reduceLT, Nat.reduceBEq, Int.reduceToNat, Int.reduceEq, Int.reduceLT, Int.reduceLE, Int.reduceAdd, Int.reduceSub, Int.reduceMul, Int.reduceNeg])⟩
        generalize hz : RF tb f_cluster_Around_1 _ _ = z
        refine cluAround_rangeZ (d := X.dep + 1) (p := p) (W := W) hz x y (fun j m v => v = none ∧ ∃ dl : Int, -1 ≤ dl ∧ dl < 4 - (j : Int) ∧ m = caM X W x y tv bv p (W.w * W.h) a b dl Lb .ready none HC HA.length (escMin u0 u)) (fun _ _ _ => False) (Nat.lt_succ_self _) ?_ ?_ ?_ ?_
        · exact hCa _ _ _ _ _ _ _
        · exact ⟨rfl, -1, Int.le_refl _, by decide, rfl⟩
        · rintro j j' m v hj hj4 hcx hcn hA2 ⟨rfl, dl, hd1, hd2, hm'⟩
          have hst := clu_step w1.2 w2.2 hcx (d := 4 - ((j' + 1 : Nat) : Int)) (by omega)
          generalize hdd : (4 : Int) - ((j' + 1 : Nat) : Int) = dd at *
          have ex : stepX x y dd = x + turnX dd := by simp [stepX, hst]
          have ey : stepY x y dd = y + turnY dd := by simp [stepY, hst]
          refine ⟨caM X W x y tv bv p (W.w * W.h) a b dd Lb .ready none HC HA.length (escMin u0 u), none, true, ?_, hCa _ _ _ _ _ _ _, .inl rfl, fun _ => ⟨rfl, dd, by omega, by omega, rfl⟩, fun h => (by cases h)⟩
          subst hm'
          intro fs e
          rw [RV_go (l := ⟨.ready, none, _, _, _, _⟩) _ _ _ (by simp (maxDischargeDepth := 8) only [go_sem, reduceIte, reduceCtorEq, Nat.reduceEqDiff, Nat.reduceAdd, Nat.reduceMul, Nat.reduceSub, Nat.reduceLeDiff, Nat.reduceLT, Nat.reduceBEq, Int.reduceToNat, Int.reduceEq, Int.reduceLT, Int.reduceLE, Int.reduceAdd, Int.reduceSub, Int.reduceMul, Int.reduceNeg, caM]; rfl) rfl rfl (by simp (maxDischargeDepth := 8) only [go_sem, reduceIte, reduceCtorEq, Nat.reduceEqDiff, Nat.reduceAdd, Nat.reduceMul, Nat.reduceSub, Nat.reduceLeDiff, Nat.reduceLT, Nat.reduceBEq, Int.reduceToNat, Int.reduceEq, Int.reduceLT, Int.reduceLE, Int.reduceAdd, Int.reduceSub, Int.reduceMul, Int.reduceNeg, caM, hw])]
          simp (maxDischargeDepth := 8) only [go_sem, reduceIte, reduceCtorEq, Nat.reduceEqDiff, Nat.reduceAdd, Nat.reduceMul, Nat.reduceSub, Nat.reduceLeDiff, Nat.reduceLT, Nat.reduceBEq, Int.reduceToNat, Int.reduceEq, Int.reduceLT, Int.reduceLE, Int.reduceAdd, Int.reduceSub, Int.reduceMul, Int.reduceNeg, caM, hw, r_ref03_Step, ex, ey, show decide (dd ≤ dl) = false from decide_eq_false (by omega), show decide (dd > 3) = false from decide_eq_false (by omega), hrr, hcn, hcx]
        · rintro M' U hz2 hA2 hN2 (⟨j, hj, rfl, dl, -, -, hm'⟩ | ⟨_, h⟩)
          · subst hz2 hm'
            have wm := wrap_mul w1 w2
            simp (maxDischargeDepth := 8) only [go_sem, reduceIte, reduceCtorEq, Nat.reduceEqDiff, Nat.reduceAdd, Nat.reduceMul, Nat.reduceSub, Nat.reduceLeDiff, Nat.reduceLT, Nat.reduceBEq, Int.reduceToNat, Int.reduceEq, Int.reduceLT, Int.reduceLE, Int.reduceAdd, Int.reduceSub, Int.reduceMul, Int.reduceNeg, caM, hw, wm.1, show (W.w * W.h == W.w * W.h) = true from by simp]
            generalize hz : RF tb f_law11_awake _ _ = z
            obtain ⟨H', u, rfl, -⟩ := aw11 hz (by simp (maxDischargeDepth := 8) only [go_sem, reduceIte, reduceCtorEq, Nat.reduceEqDiff, Nat.reduceAdd, Nat.reduceMul, Nat.reduceSub, Nat.reduceLeDiff, Nat.reduceLT, Nat.reduceBEq, Int.reduceToNat, Int.reduceEq, Int.reduceLT, Int.reduceLE, Int.reduceAdd, Int.reduceSub, Int.reduceMul, Int.reduceNeg, hw]) hleC
            simp (maxDischargeDepth := 8) only [go_sem, reduceIte, reduceCtorEq, Nat.reduceEqDiff, Nat.reduceAdd, Nat.reduceMul, Nat.reduceSub, Nat.reduceLeDiff, Nat.reduceLT, Nat.reduceBEq, Int.reduceToNat, Int.reduceEq, Int.reduceLT, Int.reduceLE, Int.reduceAdd, Int.reduceSub, Int.reduceMul, Int.reduceNeg, hw]
            exact ⟨_, rfl⟩
          · cases h
      · cases h
section
open Go.RowKit Go.WideShapes
theorem law11_ClusterRects {P : Program} {e e' : TypeId} {okB : Bl' → Prop} (a : MT) (c : Int × Int) (h1 : slOk P e (inR .u8) a.2.2.1) (h2 : slOk P e' okB a.2.2.2) (hB : P.bytesOf e' = 40) {n0 n1 : In} (e0 : n0.map (·.2) = rdM.blks a 0) : ∃ m', RF tb f_law11_ClusterRects [.agg (rdM.cells a 0), .agg [.int .i64 c.1, .int .i64 c.2]] (In.mem ([] ++ n0 ++ n1)) = some (.bool true, m') := by
  rw [rdM_blks] at e0
  rw [rdM_cells]
  exact r_law11_ClusterRects (W := ⟨a.1, a.2.1, a.2.2.1.l, a.2.2.2.l.map bl5, []⟩) rfl (mapIn_of (pre := []) h1 h2 hB e0) (In.wf _) (Nat.zero_le _) _ _
end
end Go.Sh.T
