-- Written by a program of this session (wip/tools/myprint.py) for this claim: each Go function as a Lean function, and what its call does. Lean checks it.
import Derived.Test.YtjehijlpdeadiaaP17bx0
import Derived.Test.YtjehijlpdeadiaaP17bx4
import Derived.Test.YtjehijlpdeadiaaP17bx5
namespace Go.Proofs.Ytjehijlpdeadiaa.P17b
open Go.RowKit Go.Proofs.YtjehijlpdeadiaaW.PrintWords Go.Proofs.YtjehijlpdeadiaaW.PrintLast
set_option linter.unusedVariables false
set_option linter.unusedSimpArgs false

/-! ### cell_Hull: function 54 -/
def cell_Hull.j0 : Nat → Bool → Int → Int → Int → Int → Int → Int → Int → Int → Option (Int × Int × Int × Int)
  | 0, _, _, _, _, _, _, _, _, _ => none
  | k + 1, x15, x145000, x145001, x145002, x145003, x146000, x146001, x146002, x146003 => if x15 = true then (some (0, 0, 0, 0)) else ((cell_last.f x145000 x145001 x145002 x145003).bind fun bt149 => ((cell_last.f x146000 x146001 x146002 x146003).bind fun bt151 => ((cell_between.f (mn x145000 x146000) (mn x145001 x146001) (mx bt149.1 bt151.1) (mx bt149.2 bt151.2)).bind fun bt155 => ((cell_May.f bt155.1 bt155.2.1 bt155.2.2.1 bt155.2.2.2).bind fun t160 => (if t160 = true then (some (bt155.1, bt155.2.1, bt155.2.2.1, bt155.2.2.2)) else (some (0, 0, 0, 0)))))))
def cell_Hull.f (k : Nat) (a0_0 : Int) (a0_1 : Int) (a0_2 : Int) (a0_3 : Int) (a1_0 : Int) (a1_1 : Int) (a1_2 : Int) (a1_3 : Int) : Option (Int × Int × Int × Int) := (cell_May.f a0_0 a0_1 a0_2 a0_3).bind fun t147 => (if t147 = true then ((cell_May.f a1_0 a1_1 a1_2 a1_3).bind fun t148 => (cell_Hull.j0 k (!t148) a0_0 a0_1 a0_2 a0_3 a1_0 a1_1 a1_2 a1_3)) else (cell_Hull.j0 k true a0_0 a0_1 a0_2 a0_3 a1_0 a1_1 a1_2 a1_3))
theorem cell_Hull.mono_l : ∀ k, (∀ y0 y1 y2 y3 y4 y5 y6 y7 y8, LeO (cell_Hull.j0 k y0 y1 y2 y3 y4 y5 y6 y7 y8) (cell_Hull.j0 (k + 1) y0 y1 y2 y3 y4 y5 y6 y7 y8))
  | 0 => fun _ _ _ _ _ _ _ _ _ r h => by simp [cell_Hull.j0] at h
  | k + 1 => by
    have ih0 := cell_Hull.mono_l k
    · intro y0 y1 y2 y3 y4 y5 y6 y7 y8
      unfold cell_Hull.j0
      repeat' first
      | (with_reducible exact ih0 _ _ _ _ _ _ _ _ _)
      | (with_reducible exact LeO.refl _)
      | (with_reducible exact LeO.none _)
      | (with_reducible refine LeO.ite ?_ ?_)
      | (with_reducible refine LeO.bind ?_ (fun _ => ?_))
      | exact ih0 _ _ _ _ _ _ _ _ _
      | exact LeO.none _
      | refine LeO.ite ?_ ?_
      | refine LeO.bind ?_ (fun _ => ?_)
theorem cell_Hull.mono : ∀ a0 a1 a2 a3 a4 a5 a6 a7 k, LeO (cell_Hull.f k a0 a1 a2 a3 a4 a5 a6 a7) (cell_Hull.f (k + 1) a0 a1 a2 a3 a4 a5 a6 a7) := by
  intro a0 a1 a2 a3 a4 a5 a6 a7 k
  have ih0 := cell_Hull.mono_l k
  unfold cell_Hull.f
  repeat' first
      | (with_reducible exact ih0 _ _ _ _ _ _ _ _ _)
      | (with_reducible exact LeO.refl _)
      | (with_reducible exact LeO.none _)
      | (with_reducible refine LeO.ite ?_ ?_)
      | (with_reducible refine LeO.bind ?_ (fun _ => ?_))
      | exact ih0 _ _ _ _ _ _ _ _ _
      | exact LeO.none _
      | refine LeO.ite ?_ ?_
      | refine LeO.bind ?_ (fun _ => ?_)
def cell_Hull.T3 : Bool × List (List Nat × List Nat) := (true, [([], []), ([0], [0]), ([], []), ([2, 1], [2]), ([], []), ([], []), ([4, 1, 3, 0, 1, 4, 5], [1, 4]), ([5, 3, 6, 0, 1, 2, 3, 4, 5, 6], [3, 5])])
def cell_Hull.B3 : List Nat := [0, 1, 0, 7, 0, 0, 63, 127]
theorem cell_Hull.tab3 : rtab .any (opsOf Try.f54 3) = cell_Hull.T3 := by kernel_rfl
theorem cell_Hull.bits3 : waitsOk cell_Hull.T3.2 cell_Hull.B3 = true := by kernel_rfl
set_option maxHeartbeats 8000000 in
set_option maxRecDepth 100000 in
theorem cell_Hull.calls (k : Nat) (a0_0 : Int) (a0_1 : Int) (a0_2 : Int) (a0_3 : Int) (a1_0 : Int) (a1_1 : Int) (a1_2 : Int) (a1_3 : Int) (r1 : Int) (r2 : Int) (r3 : Int) (r4 : Int) (w : World) (h : cell_Hull.f k a0_0 a0_1 a0_2 a0_3 a1_0 a1_1 a1_2 a1_3 = some (r1, r2, r3, r4)) :
    Calls Try.prog 54 #[.agg #[.int .i64 a0_0, .int .i64 a0_1, .int .i64 a0_2, .int .i64 a0_3], .agg #[.int .i64 a1_0, .int .i64 a1_1, .int .i64 a1_2, .int .i64 a1_3]] w fun e w' => e = .returned (.agg #[.int .i64 r1, .int .i64 r2, .int .i64 r3, .int .i64 r4]) ∧ Below w.heap.size w w' := by
  have hu47 := Try.underlying47
  have hu25 := Try.underlying25
  have HB := Aside0.mk (Below.refl w.heap.size w)
  have H : ((cell_May.f a0_0 a0_1 a0_2 a0_3).bind fun t147 => (if t147 = true then ((cell_May.f a1_0 a1_1 a1_2 a1_3).bind fun t148 => (cell_Hull.j0 k (!t148) a0_0 a0_1 a0_2 a0_3 a1_0 a1_1 a1_2 a1_3)) else (cell_Hull.j0 k true a0_0 a0_1 a0_2 a0_3 a1_0 a1_1 a1_2 a1_3))) = some (r1, r2, r3, r4) := h
  clear h
  have HC3 := Aside0.mk H
  clear H
  go_enter Try.func54, Try.ntmps54
  go_upto_region 1 with (first | ((with_reducible refine gate_dst (N := 2) rfl ?_); refine box_event ?hg (N := 2) ?hd (cs := #[.int .i64 a0_0, .int .i64 a0_1, .int .i64 a0_2, .int .i64 a0_3]) (t := 47) ?hr ?_; (case hd => rfl); (case hg => rfl); (case hr => first | (go_simp; done) | (go_simp; rfl)); intro gb144 hg w4 hbox hb; have BK144 := Aside0.mk (hbox); have GW144 := Aside0.mk ((bz HB _ hg : w.heap.size ≤ gb144)); have GE144 := Aside0.mk ((bz HB _ hg : w.heap.size ≤ gb144)); replace HB := Aside0.mk (below_step (bw HB) hb); clear hb hbox hg) | ((with_reducible refine gate_dst (N := 3) rfl ?_); refine box_event ?hg (N := 3) ?hd (cs := #[.int .i64 a1_0, .int .i64 a1_1, .int .i64 a1_2, .int .i64 a1_3]) (t := 47) ?hr ?_; (case hd => rfl); (case hg => rfl); (case hr => first | (go_simp; done) | (go_simp; rfl)); intro gb145 hg w5 hbox hb; have BK145 := Aside0.mk (hbox); have GW145 := Aside0.mk ((bz HB _ hg : w.heap.size ≤ gb145)); have GE145 := Aside0.mk ((bz HB _ hg : w.heap.size ≤ gb145)); have NB144_145 := Aside0.mk ((nl BK144 hg : gb144 ≠ gb145)); have NB145_144 := Aside0.mk ((ng BK144 hg : gb145 ≠ gb144)); replace BK144 := Aside0.mk (kb BK144 hb); replace HB := Aside0.mk (below_step (bw HB) hb); clear hb hbox hg) | ((with_reducible refine gate_dst (N := 4) rfl ?_); refine box_event ?hg (N := 4) ?hd (cs := #[.int .i64 0, .int .i64 0, .int .i64 0, .int .i64 0]) (t := 47) ?hr ?_; (case hd => rfl); (case hg => rfl); (case hr => first | (go_simp; done) | (go_simp; rfl)); intro gb146 hg w6 hbox hb; have BK146 := Aside0.mk (hbox); have GW146 := Aside0.mk ((bz HB _ hg : w.heap.size ≤ gb146)); have GE146 := Aside0.mk ((bz HB _ hg : w.heap.size ≤ gb146)); have NB144_146 := Aside0.mk ((nl BK144 hg : gb144 ≠ gb146)); have NB146_144 := Aside0.mk ((ng BK144 hg : gb146 ≠ gb144)); have NB145_146 := Aside0.mk ((nl BK145 hg : gb145 ≠ gb146)); have NB146_145 := Aside0.mk ((ng BK145 hg : gb146 ≠ gb145)); replace BK144 := Aside0.mk (kb BK144 hb); replace BK145 := Aside0.mk (kb BK145 hb); replace HB := Aside0.mk (below_step (bw HB) hb); clear hb hbox hg))
  (try simp only [Act.put, List.setIfInBounds_toArray, List.set_cons_zero, List.set_cons_succ])
  go_cut [15] (fun v15 wc => ∃ (kq : Nat) (x15_2 : Bool), v15 = .bool x15_2 ∧ Aside0 (cell_Hull.j0 kq x15_2 a0_0 a0_1 a0_2 a0_3 a1_0 a1_1 a1_2 a1_3 = some (r1, r2, r3, r4)) ∧ Aside0 (kq ≤ k) ∧ Aside0 (wc.heap[gb144]? = some (.cells #[.int .i64 a0_0, .int .i64 a0_1, .int .i64 a0_2, .int .i64 a0_3] 47 (0, 0))) ∧ Aside0 (wc.heap[gb145]? = some (.cells #[.int .i64 a1_0, .int .i64 a1_1, .int .i64 a1_2, .int .i64 a1_3] 47 (0, 0))) ∧ Aside0 (wc.heap[gb146]? = some (.cells #[.int .i64 0, .int .i64 0, .int .i64 0, .int .i64 0] 47 (0, 0))) ∧ Aside0 (Below w.heap.size w wc))
  case first =>
    have H := HC3.out
    clear HC3
    replace H := Option.bind_eq_some_iff.mp H
    obtain ⟨t147, A70, H⟩ := H
    replace H : (if t147 = true then ((cell_May.f a1_0 a1_1 a1_2 a1_3).bind fun t148 => (cell_Hull.j0 k (!t148) a0_0 a0_1 a0_2 a0_3 a1_0 a1_1 a1_2 a1_3)) else (cell_Hull.j0 k true a0_0 a0_1 a0_2 a0_3 a1_0 a1_1 a1_2 a1_3)) = some (r1, r2, r3, r4) := H
    have A7 := Aside0.mk A70
    clear A70
    by_cases c8 : t147 = true
    · subst c8
      have H1 : ((cell_May.f a1_0 a1_1 a1_2 a1_3).bind fun t148 => (cell_Hull.j0 k (!t148) a0_0 a0_1 a0_2 a0_3 a1_0 a1_1 a1_2 a1_3)) = some (r1, r2, r3, r4) := by rw [if_pos rfl] at H; exact H
      clear H
      have H := H1
      clear H1
      replace H := Option.bind_eq_some_iff.mp H
      obtain ⟨t148, A90, H⟩ := H
      replace H : (cell_Hull.j0 k (!t148) a0_0 a0_1 a0_2 a0_3 a1_0 a1_1 a1_2 a1_3) = some (r1, r2, r3, r4) := H
      have A9 := Aside0.mk A90
      clear A90
      have H' := Aside0.mk H
      clear H
      have hnb10 := NB144_145.out
      have hnc10 := NB145_144.out
      have hnb11 := NB144_146.out
      have hnc11 := NB146_144.out
      obtain ⟨hcz12_0, hcz12_1, hcz12_2, hcz12_3, hfz12_0, hfz12_1, hfz12_2, hfz12_3⟩ := cz4 BK144
      go_wp2_with (first | ((with_reducible refine gate_callee (f := 58) rfl ?_); refine goesL_ (some 9) rfl rfl Try.func58 (by kernel_rfl) rfl #[.agg #[.int .i64 a0_0, .int .i64 a0_1, .int .i64 a0_2, .int .i64 a0_3]] rfl (by (try simp only [List.map_toArray, List.map_cons, List.map_nil]); first | done | rfl | (simp only [List.length_drop, List.length_take]; rfl)) ?_; (with_reducible refine (cell_May.calls a0_0 a0_1 a0_2 a0_3 true _ A7.out).mono ?_); rintro e w13 ⟨rfl, hb⟩; refine ⟨_, rfl, ?_⟩; replace BK144 := Aside0.mk (kb BK144 hb); replace BK145 := Aside0.mk (kb BK145 hb); replace BK146 := Aside0.mk (kb BK146 hb); replace HB := Aside0.mk (below_step (bw HB) hb); (try clear hb); (try clear hb2); (try clear hk); (try clear hi); have hnb14 := NB145_146.out; have hnc14 := NB146_145.out; obtain ⟨hcz15_0, hcz15_1, hcz15_2, hcz15_3, hfz15_0, hfz15_1, hfz15_2, hfz15_3⟩ := cz4 BK145) | (go_at_call 58; (with_reducible refine (cell_May.calls a1_0 a1_1 a1_2 a1_3 t148 _ A9.out).mono ?_); rintro e w16 ⟨rfl, hb⟩; replace BK144 := Aside0.mk (kb BK144 hb); replace BK145 := Aside0.mk (kb BK145 hb); replace BK146 := Aside0.mk (kb BK146 hb); replace HB := Aside0.mk (below_step (bw HB) hb); (try clear hb); (try clear hb2); (try clear hk); (try clear hi)))
      go_meet
      case rel => exact ⟨_, (!t148), (by first | rfl | (simp; done) | (simp [*]; done)), H', ⟨by first | omega | exact Nat.le_refl _⟩, ⟨kz BK144⟩, ⟨kz BK145⟩, ⟨kz BK146⟩, ⟨bw HB⟩⟩
    · replace c8 := Bool.eq_false_iff.mpr c8
      subst c8
      have H1 : (cell_Hull.j0 k true a0_0 a0_1 a0_2 a0_3 a1_0 a1_1 a1_2 a1_3) = some (r1, r2, r3, r4) := by rw [if_neg (show ¬ (false = true) by decide)] at H; exact H
      clear H
      have H := H1
      clear H1
      have H' := Aside0.mk H
      clear H
      have hnb17 := NB144_145.out
      have hnc17 := NB145_144.out
      have hnb18 := NB144_146.out
      have hnc18 := NB146_144.out
      obtain ⟨hcz19_0, hcz19_1, hcz19_2, hcz19_3, hfz19_0, hfz19_1, hfz19_2, hfz19_3⟩ := cz4 BK144
      go_wp2_with (first | ((with_reducible refine gate_callee (f := 58) rfl ?_); refine goesL_ (some 9) rfl rfl Try.func58 (by kernel_rfl) rfl #[.agg #[.int .i64 a0_0, .int .i64 a0_1, .int .i64 a0_2, .int .i64 a0_3]] rfl (by (try simp only [List.map_toArray, List.map_cons, List.map_nil]); first | done | rfl | (simp only [List.length_drop, List.length_take]; rfl)) ?_; (with_reducible refine (cell_May.calls a0_0 a0_1 a0_2 a0_3 false _ A7.out).mono ?_); rintro e w20 ⟨rfl, hb⟩; refine ⟨_, rfl, ?_⟩; replace BK144 := Aside0.mk (kb BK144 hb); replace BK145 := Aside0.mk (kb BK145 hb); replace BK146 := Aside0.mk (kb BK146 hb); replace HB := Aside0.mk (below_step (bw HB) hb); (try clear hb); (try clear hb2); (try clear hk); (try clear hi)))
      go_meet
      case rel => exact ⟨_, (true), (by first | rfl | (simp; done) | (simp [*]; done)), H', ⟨by first | omega | exact Nat.le_refl _⟩, ⟨kz BK144⟩, ⟨kz BK145⟩, ⟨kz BK146⟩, ⟨bw HB⟩⟩
  case rest =>
    clear HC3
    try clear c1
    try clear p2
    try clear c5
    try clear c8
    try clear c10
    try clear c11
    try clear c14
    try clear c17
    try clear c18
    try clear hcz12_0
    try clear hcz12_1
    try clear hcz12_2
    try clear hcz12_3
    try clear hcz15_0
    try clear hcz15_1
    try clear hcz15_2
    try clear hcz15_3
    try clear hcz19_0
    try clear hcz19_1
    try clear hcz19_2
    try clear hcz19_3
    try clear hfz12_0
    try clear hfz12_1
    try clear hfz12_2
    try clear hfz12_3
    try clear hfz15_0
    try clear hfz15_1
    try clear hfz15_2
    try clear hfz15_3
    try clear hfz19_0
    try clear hfz19_1
    try clear hfz19_2
    try clear hfz19_3
    obtain ⟨kq, x15_2, rfl, HA, HJ2, BK144, BK145, BK146, HB⟩ := hcut
    cases kq with
    | zero => exact absurd HA.out (by simp [cell_Hull.j0])
    | succ kj2 =>
      have H := HA.out
      clear HA
      simp only [cell_Hull.j0] at H
      by_cases c21 : x15_2 = true
      · subst c21
        have H1 : (some (0, 0, 0, 0)) = some (r1, r2, r3, r4) := by rw [if_pos rfl] at H; exact H
        clear H
        have H := H1
        clear H1
        simp only [Option.some.injEq, Prod.mk.injEq] at H
        obtain ⟨rfl, rfl, rfl, rfl⟩ := H
        have hnb22 := NB146_144.out
        have hnc22 := NB144_146.out
        have hnb23 := NB146_145.out
        have hnc23 := NB145_146.out
        obtain ⟨hcz24_0, hcz24_1, hcz24_2, hcz24_3, hfz24_0, hfz24_1, hfz24_2, hfz24_3⟩ := cz4 BK146
        go_wp2
        refine bodyPost_ret (results_cell_row rfl _ _ gb146 47 #[.int .i64 0, .int .i64 0, .int .i64 0, .int .i64 0] (0, 0) _ rfl (by (with_reducible repeat (first | refine blk_drewN ?_ _ | refine blk_drew ?_ | refine blk_alloc ?_ _)); refine blk_put (cs := #[.int .i64 0, .int .i64 0, .int .i64 0, .int .i64 0]) ?_ 3 _ rfl; (with_reducible repeat (first | refine blk_drewN ?_ _ | refine blk_drew ?_ | refine blk_alloc ?_ _)); refine blk_put (cs := #[.int .i64 0, .int .i64 0, .int .i64 0, .int .i64 0]) ?_ 2 _ rfl; (with_reducible repeat (first | refine blk_drewN ?_ _ | refine blk_drew ?_ | refine blk_alloc ?_ _)); refine blk_put (cs := #[.int .i64 0, .int .i64 0, .int .i64 0, .int .i64 0]) ?_ 1 _ rfl; (with_reducible repeat (first | refine blk_drewN ?_ _ | refine blk_drew ?_ | refine blk_alloc ?_ _)); refine blk_put (cs := #[.int .i64 0, .int .i64 0, .int .i64 0, .int .i64 0]) ?_ 0 _ rfl; (with_reducible repeat (first | refine blk_drewN ?_ _ | refine blk_drew ?_ | refine blk_alloc ?_ _)); exact BK146.out) Try.underlying47 rfl (by kernel_rfl)) rfl ?_
        exact ⟨by first | rfl | (simp [errW_none, errW_some] <;> rfl) | (simp [*, errW_none, errW_some] <;> rfl) | (simp [max_mx, min_mn, *, errW_none, errW_some]), by repeat (first | (with_reducible first | exact HB.out | apply below_alloc | apply pw_below_drewN | apply below_drew1 | refine below_set ?_ GE144.out | refine below_set ?_ GE145.out | refine below_set ?_ GE146.out) | exact HB.out)⟩
      · replace c21 := Bool.eq_false_iff.mpr c21
        subst c21
        have H1 : ((cell_last.f a0_0 a0_1 a0_2 a0_3).bind fun bt149 => ((cell_last.f a1_0 a1_1 a1_2 a1_3).bind fun bt151 => ((cell_between.f (mn a0_0 a1_0) (mn a0_1 a1_1) (mx bt149.1 bt151.1) (mx bt149.2 bt151.2)).bind fun bt155 => ((cell_May.f bt155.1 bt155.2.1 bt155.2.2.1 bt155.2.2.2).bind fun t160 => (if t160 = true then (some (bt155.1, bt155.2.1, bt155.2.2.1, bt155.2.2.2)) else (some (0, 0, 0, 0))))))) = some (r1, r2, r3, r4) := by rw [if_neg (show ¬ (false = true) by decide)] at H; exact H
        clear H
        have H := H1
        clear H1
        replace H := Option.bind_eq_some_iff.mp H
        obtain ⟨⟨t149, t150⟩, A250, H⟩ := H
        replace H : ((cell_last.f a1_0 a1_1 a1_2 a1_3).bind fun bt151 => ((cell_between.f (mn a0_0 a1_0) (mn a0_1 a1_1) (mx t149 bt151.1) (mx t150 bt151.2)).bind fun bt155 => ((cell_May.f bt155.1 bt155.2.1 bt155.2.2.1 bt155.2.2.2).bind fun t160 => (if t160 = true then (some (bt155.1, bt155.2.1, bt155.2.2.1, bt155.2.2.2)) else (some (0, 0, 0, 0)))))) = some (r1, r2, r3, r4) := H
        have A25 := Aside0.mk A250
        clear A250
        replace H := Option.bind_eq_some_iff.mp H
        obtain ⟨⟨t151, t152⟩, A260, H⟩ := H
        replace H : ((cell_between.f (mn a0_0 a1_0) (mn a0_1 a1_1) (mx t149 t151) (mx t150 t152)).bind fun bt155 => ((cell_May.f bt155.1 bt155.2.1 bt155.2.2.1 bt155.2.2.2).bind fun t160 => (if t160 = true then (some (bt155.1, bt155.2.1, bt155.2.2.1, bt155.2.2.2)) else (some (0, 0, 0, 0))))) = some (r1, r2, r3, r4) := H
        have A26 := Aside0.mk A260
        clear A260
        obtain ⟨ji27, hji27⟩ : ∃ j_ : Int, (mn a0_0 a1_0) = j_ := ⟨_, rfl⟩
        replace H : ((cell_between.f (ji27) (mn a0_1 a1_1) (mx t149 t151) (mx t150 t152)).bind fun bt155 => ((cell_May.f bt155.1 bt155.2.1 bt155.2.2.1 bt155.2.2.2).bind fun t160 => (if t160 = true then (some (bt155.1, bt155.2.1, bt155.2.2.1, bt155.2.2.2)) else (some (0, 0, 0, 0))))) = some (r1, r2, r3, r4) := by first | (rw [hji27] at H; exact H) | (simp only [hji27] at H ⊢; exact H)
        (try rw [hji27] at A25)
        (try rw [hji27] at A26)
        have hji27_ : (if a1_0 < a0_0 then a1_0 else a0_0) = ji27 := hji27
        obtain ⟨ji28, hji28⟩ : ∃ j_ : Int, (mn a0_1 a1_1) = j_ := ⟨_, rfl⟩
        replace H : ((cell_between.f (ji27) (ji28) (mx t149 t151) (mx t150 t152)).bind fun bt155 => ((cell_May.f bt155.1 bt155.2.1 bt155.2.2.1 bt155.2.2.2).bind fun t160 => (if t160 = true then (some (bt155.1, bt155.2.1, bt155.2.2.1, bt155.2.2.2)) else (some (0, 0, 0, 0))))) = some (r1, r2, r3, r4) := by first | (rw [hji28] at H; exact H) | (simp only [hji28] at H ⊢; exact H)
        (try rw [hji28] at A25)
        (try rw [hji28] at A26)
        have hji28_ : (if a1_1 < a0_1 then a1_1 else a0_1) = ji28 := hji28
        obtain ⟨ji29, hji29⟩ : ∃ j_ : Int, (mx t149 t151) = j_ := ⟨_, rfl⟩
        replace H : ((cell_between.f (ji27) (ji28) (ji29) (mx t150 t152)).bind fun bt155 => ((cell_May.f bt155.1 bt155.2.1 bt155.2.2.1 bt155.2.2.2).bind fun t160 => (if t160 = true then (some (bt155.1, bt155.2.1, bt155.2.2.1, bt155.2.2.2)) else (some (0, 0, 0, 0))))) = some (r1, r2, r3, r4) := by first | (rw [hji29] at H; exact H) | (simp only [hji29] at H ⊢; exact H)
        (try rw [hji29] at A25)
        (try rw [hji29] at A26)
        have hji29_ : (if t149 < t151 then t151 else t149) = ji29 := hji29
        obtain ⟨ji30, hji30⟩ : ∃ j_ : Int, (mx t150 t152) = j_ := ⟨_, rfl⟩
        replace H : ((cell_between.f (ji27) (ji28) (ji29) (ji30)).bind fun bt155 => ((cell_May.f bt155.1 bt155.2.1 bt155.2.2.1 bt155.2.2.2).bind fun t160 => (if t160 = true then (some (bt155.1, bt155.2.1, bt155.2.2.1, bt155.2.2.2)) else (some (0, 0, 0, 0))))) = some (r1, r2, r3, r4) := by first | (rw [hji30] at H; exact H) | (simp only [hji30] at H ⊢; exact H)
        (try rw [hji30] at A25)
        (try rw [hji30] at A26)
        have hji30_ : (if t150 < t152 then t152 else t150) = ji30 := hji30
        replace H := Option.bind_eq_some_iff.mp H
        obtain ⟨⟨t155, t156, t157, t158⟩, A310, H⟩ := H
        replace H : ((cell_May.f t155 t156 t157 t158).bind fun t160 => (if t160 = true then (some (t155, t156, t157, t158)) else (some (0, 0, 0, 0)))) = some (r1, r2, r3, r4) := H
        have A31 := Aside0.mk A310
        clear A310
        replace H := Option.bind_eq_some_iff.mp H
        obtain ⟨t160, A320, H⟩ := H
        replace H : (if t160 = true then (some (t155, t156, t157, t158)) else (some (0, 0, 0, 0))) = some (r1, r2, r3, r4) := H
        have A32 := Aside0.mk A320
        clear A320
        by_cases c33 : t160 = true
        · subst c33
          have H1 : (some (t155, t156, t157, t158)) = some (r1, r2, r3, r4) := by rw [if_pos rfl] at H; exact H
          clear H
          have H := H1
          clear H1
          simp only [Option.some.injEq, Prod.mk.injEq] at H
          obtain ⟨rfl, rfl, rfl, rfl⟩ := H
          try go_wp2
          replace BK144 := Aside0.mk (blk_drew BK144.out)
          replace BK145 := Aside0.mk (blk_drew BK145.out)
          replace BK146 := Aside0.mk (blk_drew BK146.out)
          replace HB := Aside0.mk (below_drew1 HB.out)
          refine start_ (n := 8) (S := fun w' => w'.cell? ⟨gb144, 0, none⟩ = some (.int .i64 a0_0) ∧ w'.cell? ⟨gb144, 1, none⟩ = some (.int .i64 a0_1) ∧ w'.cell? ⟨gb144, 2, none⟩ = some (.int .i64 a0_2) ∧ w'.cell? ⟨gb144, 3, none⟩ = some (.int .i64 a0_3) ∧ w'.cell? ⟨gb145, 0, none⟩ = some (.int .i64 a1_0) ∧ w'.cell? ⟨gb145, 1, none⟩ = some (.int .i64 a1_1) ∧ w'.cell? ⟨gb145, 2, none⟩ = some (.int .i64 a1_2) ∧ w'.cell? ⟨gb145, 3, none⟩ = some (.int .i64 a1_3)) (ds := []) (bm 8 0) (by kernel_rfl) rfl rfl ⟨(blk_cell BK144.out 0).trans rfl, (blk_cell BK144.out 1).trans rfl, (blk_cell BK144.out 2).trans rfl, (blk_cell BK144.out 3).trans rfl, (blk_cell BK145.out 0).trans rfl, (blk_cell BK145.out 1).trans rfl, (blk_cell BK145.out 2).trans rfl, (blk_cell BK145.out 3).trans rfl⟩ (fun hHeld => ?_); refine with_tabW cell_Hull.tab3 cell_Hull.bits3 (fun HT_ HW_ => ?_)
          generalize wc.drew = w34 at BK144 BK145 BK146 HB hHeld ⊢
          refine take_ (i := 0) (N := some 17) (v := ?_) (a' := ?_) (bm 8 1) rfl rfl (take_ofW HT_.out HW_.out (by kernel_rfl)) (fun _ _ _ h => h) (Or.inl ⟨by rfl, ?_⟩) hHeld ?_ ?_
          rotate_left
          · rintro w' ⟨s0, s1, s2, s3, s4, s5, s6, s7⟩
            go_simp
            with_reducible rfl
          rotate_left
          · simp only [Act.put, List.setIfInBounds_toArray, List.set_cons_zero, List.set_cons_succ, i64_w, i32_w]
            rfl
          refine take_ (i := 2) (N := some 19) (v := ?_) (a' := ?_) (bm 8 5) rfl rfl (take_ofW HT_.out HW_.out (by kernel_rfl)) (fun _ _ _ h => h) (Or.inl ⟨by rfl, ?_⟩) hHeld ?_ ?_
          rotate_left
          · rintro w' ⟨s0, s1, s2, s3, s4, s5, s6, s7⟩
            go_simp
            with_reducible rfl
          rotate_left
          · simp only [Act.put, List.setIfInBounds_toArray, List.set_cons_zero, List.set_cons_succ, i64_w, i32_w]
            rfl
          refine join_ (σ := Nat × Nat) 2 (bm 8 63) (fun s_ => [(18, .agg #[.int .i64 t149, .int .i64 t150]), (20, .agg #[.int .i64 t151, .int .i64 t152]), (5, .pointer (some ⟨s_.1, 0, none⟩)), (6, .pointer (some ⟨s_.2, 0, none⟩))]) (fun s_ w' => (w'.cell? ⟨gb144, 0, none⟩ = some (.int .i64 a0_0) ∧ w'.cell? ⟨gb144, 1, none⟩ = some (.int .i64 a0_1) ∧ w'.cell? ⟨gb144, 2, none⟩ = some (.int .i64 a0_2) ∧ w'.cell? ⟨gb144, 3, none⟩ = some (.int .i64 a0_3) ∧ w'.cell? ⟨gb145, 0, none⟩ = some (.int .i64 a1_0) ∧ w'.cell? ⟨gb145, 1, none⟩ = some (.int .i64 a1_1) ∧ w'.cell? ⟨gb145, 2, none⟩ = some (.int .i64 a1_2) ∧ w'.cell? ⟨gb145, 3, none⟩ = some (.int .i64 a1_3)) ∧ (w'.heap[gb144]? = some (.cells #[.int .i64 a0_0, .int .i64 a0_1, .int .i64 a0_2, .int .i64 a0_3] 47 (0, 0))) ∧ (w'.heap[gb145]? = some (.cells #[.int .i64 a1_0, .int .i64 a1_1, .int .i64 a1_2, .int .i64 a1_3] 47 (0, 0))) ∧ (w'.heap[gb146]? = some (.cells #[.int .i64 0, .int .i64 0, .int .i64 0, .int .i64 0] 47 (0, 0))) ∧ (w'.heap[s_.1]? = some (.cells #[.int .i64 0, .int .i64 0] 25 (0, 0))) ∧ (w'.heap[s_.2]? = some (.cells #[.int .i64 0, .int .i64 0] 25 (0, 0))) ∧ (w.heap.size ≤ s_.1) ∧ (w.heap.size ≤ s_.1) ∧ (gb144 ≠ s_.1) ∧ (s_.1 ≠ gb144) ∧ (gb145 ≠ s_.1) ∧ (s_.1 ≠ gb145) ∧ (gb146 ≠ s_.1) ∧ (s_.1 ≠ gb146) ∧ (s_.2 ≠ s_.1) ∧ (s_.1 ≠ s_.2) ∧ (w.heap.size ≤ s_.2) ∧ (w.heap.size ≤ s_.2) ∧ (gb144 ≠ s_.2) ∧ (s_.2 ≠ gb144) ∧ (gb145 ≠ s_.2) ∧ (s_.2 ≠ gb145) ∧ (gb146 ≠ s_.2) ∧ (s_.2 ≠ gb146) ∧ (Below w.heap.size w w')) ?_ ?_
          rotate_left
          · intro hJ1_3_4_5
            refine join_ (σ := Nat) 3 (bm 8 31) (fun s_ => [(18, .agg #[.int .i64 t149, .int .i64 t150]), (20, .agg #[.int .i64 t151, .int .i64 t152]), (5, .pointer (some ⟨s_, 0, none⟩))]) (fun s_ w' => (w'.cell? ⟨gb144, 0, none⟩ = some (.int .i64 a0_0) ∧ w'.cell? ⟨gb144, 1, none⟩ = some (.int .i64 a0_1) ∧ w'.cell? ⟨gb144, 2, none⟩ = some (.int .i64 a0_2) ∧ w'.cell? ⟨gb144, 3, none⟩ = some (.int .i64 a0_3) ∧ w'.cell? ⟨gb145, 0, none⟩ = some (.int .i64 a1_0) ∧ w'.cell? ⟨gb145, 1, none⟩ = some (.int .i64 a1_1) ∧ w'.cell? ⟨gb145, 2, none⟩ = some (.int .i64 a1_2) ∧ w'.cell? ⟨gb145, 3, none⟩ = some (.int .i64 a1_3)) ∧ (w'.heap[gb144]? = some (.cells #[.int .i64 a0_0, .int .i64 a0_1, .int .i64 a0_2, .int .i64 a0_3] 47 (0, 0))) ∧ (w'.heap[gb145]? = some (.cells #[.int .i64 a1_0, .int .i64 a1_1, .int .i64 a1_2, .int .i64 a1_3] 47 (0, 0))) ∧ (w'.heap[gb146]? = some (.cells #[.int .i64 0, .int .i64 0, .int .i64 0, .int .i64 0] 47 (0, 0))) ∧ (w'.heap[s_]? = some (.cells #[.int .i64 0, .int .i64 0] 25 (0, 0))) ∧ (w.heap.size ≤ s_) ∧ (w.heap.size ≤ s_) ∧ (gb144 ≠ s_) ∧ (s_ ≠ gb144) ∧ (gb145 ≠ s_) ∧ (s_ ≠ gb145) ∧ (gb146 ≠ s_) ∧ (s_ ≠ gb146) ∧ (Below w.heap.size w w')) ?_ ?_
            rotate_left
            · intro hJ1_3_4
              refine join_ (σ := Nat) 3 (bm 8 47) (fun s_ => [(18, .agg #[.int .i64 t149, .int .i64 t150]), (20, .agg #[.int .i64 t151, .int .i64 t152]), (6, .pointer (some ⟨s_, 0, none⟩))]) (fun s_ w' => (w'.cell? ⟨gb144, 0, none⟩ = some (.int .i64 a0_0) ∧ w'.cell? ⟨gb144, 1, none⟩ = some (.int .i64 a0_1) ∧ w'.cell? ⟨gb144, 2, none⟩ = some (.int .i64 a0_2) ∧ w'.cell? ⟨gb144, 3, none⟩ = some (.int .i64 a0_3) ∧ w'.cell? ⟨gb145, 0, none⟩ = some (.int .i64 a1_0) ∧ w'.cell? ⟨gb145, 1, none⟩ = some (.int .i64 a1_1) ∧ w'.cell? ⟨gb145, 2, none⟩ = some (.int .i64 a1_2) ∧ w'.cell? ⟨gb145, 3, none⟩ = some (.int .i64 a1_3)) ∧ (w'.heap[gb144]? = some (.cells #[.int .i64 a0_0, .int .i64 a0_1, .int .i64 a0_2, .int .i64 a0_3] 47 (0, 0))) ∧ (w'.heap[gb145]? = some (.cells #[.int .i64 a1_0, .int .i64 a1_1, .int .i64 a1_2, .int .i64 a1_3] 47 (0, 0))) ∧ (w'.heap[gb146]? = some (.cells #[.int .i64 0, .int .i64 0, .int .i64 0, .int .i64 0] 47 (0, 0))) ∧ (w'.heap[s_]? = some (.cells #[.int .i64 0, .int .i64 0] 25 (0, 0))) ∧ (w.heap.size ≤ s_) ∧ (w.heap.size ≤ s_) ∧ (gb144 ≠ s_) ∧ (s_ ≠ gb144) ∧ (gb145 ≠ s_) ∧ (s_ ≠ gb145) ∧ (gb146 ≠ s_) ∧ (s_ ≠ gb146) ∧ (Below w.heap.size w w')) ?_ ?_
              rotate_left
              · intro hJ1_3_5
                refine join_ (σ := Nat × Nat) 3 (bm 8 55) (fun s_ => [(18, .agg #[.int .i64 t149, .int .i64 t150]), (5, .pointer (some ⟨s_.1, 0, none⟩)), (6, .pointer (some ⟨s_.2, 0, none⟩))]) (fun s_ w' => (w'.cell? ⟨gb144, 0, none⟩ = some (.int .i64 a0_0) ∧ w'.cell? ⟨gb144, 1, none⟩ = some (.int .i64 a0_1) ∧ w'.cell? ⟨gb144, 2, none⟩ = some (.int .i64 a0_2) ∧ w'.cell? ⟨gb144, 3, none⟩ = some (.int .i64 a0_3) ∧ w'.cell? ⟨gb145, 0, none⟩ = some (.int .i64 a1_0) ∧ w'.cell? ⟨gb145, 1, none⟩ = some (.int .i64 a1_1) ∧ w'.cell? ⟨gb145, 2, none⟩ = some (.int .i64 a1_2) ∧ w'.cell? ⟨gb145, 3, none⟩ = some (.int .i64 a1_3)) ∧ (w'.heap[gb144]? = some (.cells #[.int .i64 a0_0, .int .i64 a0_1, .int .i64 a0_2, .int .i64 a0_3] 47 (0, 0))) ∧ (w'.heap[gb145]? = some (.cells #[.int .i64 a1_0, .int .i64 a1_1, .int .i64 a1_2, .int .i64 a1_3] 47 (0, 0))) ∧ (w'.heap[gb146]? = some (.cells #[.int .i64 0, .int .i64 0, .int .i64 0, .int .i64 0] 47 (0, 0))) ∧ (w'.heap[s_.1]? = some (.cells #[.int .i64 0, .int .i64 0] 25 (0, 0))) ∧ (w'.heap[s_.2]? = some (.cells #[.int .i64 0, .int .i64 0] 25 (0, 0))) ∧ (w.heap.size ≤ s_.1) ∧ (w.heap.size ≤ s_.1) ∧ (gb144 ≠ s_.1) ∧ (s_.1 ≠ gb144) ∧ (gb145 ≠ s_.1) ∧ (s_.1 ≠ gb145) ∧ (gb146 ≠ s_.1) ∧ (s_.1 ≠ gb146) ∧ (s_.2 ≠ s_.1) ∧ (s_.1 ≠ s_.2) ∧ (w.heap.size ≤ s_.2) ∧ (w.heap.size ≤ s_.2) ∧ (gb144 ≠ s_.2) ∧ (s_.2 ≠ gb144) ∧ (gb145 ≠ s_.2) ∧ (s_.2 ≠ gb145) ∧ (gb146 ≠ s_.2) ∧ (s_.2 ≠ gb146) ∧ (Below w.heap.size w w')) ?_ ?_
                rotate_left
                · intro hJ1_4_5
                  refine join_ (σ := Unit) 4 (bm 8 15) (fun s_ => [(18, .agg #[.int .i64 t149, .int .i64 t150]), (20, .agg #[.int .i64 t151, .int .i64 t152])]) (fun s_ w' => (w'.cell? ⟨gb144, 0, none⟩ = some (.int .i64 a0_0) ∧ w'.cell? ⟨gb144, 1, none⟩ = some (.int .i64 a0_1) ∧ w'.cell? ⟨gb144, 2, none⟩ = some (.int .i64 a0_2) ∧ w'.cell? ⟨gb144, 3, none⟩ = some (.int .i64 a0_3) ∧ w'.cell? ⟨gb145, 0, none⟩ = some (.int .i64 a1_0) ∧ w'.cell? ⟨gb145, 1, none⟩ = some (.int .i64 a1_1) ∧ w'.cell? ⟨gb145, 2, none⟩ = some (.int .i64 a1_2) ∧ w'.cell? ⟨gb145, 3, none⟩ = some (.int .i64 a1_3)) ∧ (w'.heap[gb144]? = some (.cells #[.int .i64 a0_0, .int .i64 a0_1, .int .i64 a0_2, .int .i64 a0_3] 47 (0, 0))) ∧ (w'.heap[gb145]? = some (.cells #[.int .i64 a1_0, .int .i64 a1_1, .int .i64 a1_2, .int .i64 a1_3] 47 (0, 0))) ∧ (w'.heap[gb146]? = some (.cells #[.int .i64 0, .int .i64 0, .int .i64 0, .int .i64 0] 47 (0, 0))) ∧ (Below w.heap.size w w')) ?_ ?_
                  rotate_left
                  · intro hJ1_3
                    refine join_ (σ := Nat) 4 (bm 8 23) (fun s_ => [(18, .agg #[.int .i64 t149, .int .i64 t150]), (5, .pointer (some ⟨s_, 0, none⟩))]) (fun s_ w' => (w'.cell? ⟨gb144, 0, none⟩ = some (.int .i64 a0_0) ∧ w'.cell? ⟨gb144, 1, none⟩ = some (.int .i64 a0_1) ∧ w'.cell? ⟨gb144, 2, none⟩ = some (.int .i64 a0_2) ∧ w'.cell? ⟨gb144, 3, none⟩ = some (.int .i64 a0_3) ∧ w'.cell? ⟨gb145, 0, none⟩ = some (.int .i64 a1_0) ∧ w'.cell? ⟨gb145, 1, none⟩ = some (.int .i64 a1_1) ∧ w'.cell? ⟨gb145, 2, none⟩ = some (.int .i64 a1_2) ∧ w'.cell? ⟨gb145, 3, none⟩ = some (.int .i64 a1_3)) ∧ (w'.heap[gb144]? = some (.cells #[.int .i64 a0_0, .int .i64 a0_1, .int .i64 a0_2, .int .i64 a0_3] 47 (0, 0))) ∧ (w'.heap[gb145]? = some (.cells #[.int .i64 a1_0, .int .i64 a1_1, .int .i64 a1_2, .int .i64 a1_3] 47 (0, 0))) ∧ (w'.heap[gb146]? = some (.cells #[.int .i64 0, .int .i64 0, .int .i64 0, .int .i64 0] 47 (0, 0))) ∧ (w'.heap[s_]? = some (.cells #[.int .i64 0, .int .i64 0] 25 (0, 0))) ∧ (w.heap.size ≤ s_) ∧ (w.heap.size ≤ s_) ∧ (gb144 ≠ s_) ∧ (s_ ≠ gb144) ∧ (gb145 ≠ s_) ∧ (s_ ≠ gb145) ∧ (gb146 ≠ s_) ∧ (s_ ≠ gb146) ∧ (Below w.heap.size w w')) ?_ ?_
                    rotate_left
                    · intro hJ1_4
                      refine join_ (σ := Nat) 4 (bm 8 39) (fun s_ => [(18, .agg #[.int .i64 t149, .int .i64 t150]), (6, .pointer (some ⟨s_, 0, none⟩))]) (fun s_ w' => (w'.cell? ⟨gb144, 0, none⟩ = some (.int .i64 a0_0) ∧ w'.cell? ⟨gb144, 1, none⟩ = some (.int .i64 a0_1) ∧ w'.cell? ⟨gb144, 2, none⟩ = some (.int .i64 a0_2) ∧ w'.cell? ⟨gb144, 3, none⟩ = some (.int .i64 a0_3) ∧ w'.cell? ⟨gb145, 0, none⟩ = some (.int .i64 a1_0) ∧ w'.cell? ⟨gb145, 1, none⟩ = some (.int .i64 a1_1) ∧ w'.cell? ⟨gb145, 2, none⟩ = some (.int .i64 a1_2) ∧ w'.cell? ⟨gb145, 3, none⟩ = some (.int .i64 a1_3)) ∧ (w'.heap[gb144]? = some (.cells #[.int .i64 a0_0, .int .i64 a0_1, .int .i64 a0_2, .int .i64 a0_3] 47 (0, 0))) ∧ (w'.heap[gb145]? = some (.cells #[.int .i64 a1_0, .int .i64 a1_1, .int .i64 a1_2, .int .i64 a1_3] 47 (0, 0))) ∧ (w'.heap[gb146]? = some (.cells #[.int .i64 0, .int .i64 0, .int .i64 0, .int .i64 0] 47 (0, 0))) ∧ (w'.heap[s_]? = some (.cells #[.int .i64 0, .int .i64 0] 25 (0, 0))) ∧ (w.heap.size ≤ s_) ∧ (w.heap.size ≤ s_) ∧ (gb144 ≠ s_) ∧ (s_ ≠ gb144) ∧ (gb145 ≠ s_) ∧ (s_ ≠ gb145) ∧ (gb146 ≠ s_) ∧ (s_ ≠ gb146) ∧ (Below w.heap.size w w')) ?_ ?_
                      rotate_left
                      · intro hJ1_5
                        refine join_ (σ := Nat × Nat) 4 (bm 8 53) (fun s_ => [(5, .pointer (some ⟨s_.1, 0, none⟩)), (6, .pointer (some ⟨s_.2, 0, none⟩))]) (fun s_ w' => (w'.cell? ⟨gb144, 0, none⟩ = some (.int .i64 a0_0) ∧ w'.cell? ⟨gb144, 1, none⟩ = some (.int .i64 a0_1) ∧ w'.cell? ⟨gb144, 2, none⟩ = some (.int .i64 a0_2) ∧ w'.cell? ⟨gb144, 3, none⟩ = some (.int .i64 a0_3) ∧ w'.cell? ⟨gb145, 0, none⟩ = some (.int .i64 a1_0) ∧ w'.cell? ⟨gb145, 1, none⟩ = some (.int .i64 a1_1) ∧ w'.cell? ⟨gb145, 2, none⟩ = some (.int .i64 a1_2) ∧ w'.cell? ⟨gb145, 3, none⟩ = some (.int .i64 a1_3)) ∧ (w'.heap[gb144]? = some (.cells #[.int .i64 a0_0, .int .i64 a0_1, .int .i64 a0_2, .int .i64 a0_3] 47 (0, 0))) ∧ (w'.heap[gb145]? = some (.cells #[.int .i64 a1_0, .int .i64 a1_1, .int .i64 a1_2, .int .i64 a1_3] 47 (0, 0))) ∧ (w'.heap[gb146]? = some (.cells #[.int .i64 0, .int .i64 0, .int .i64 0, .int .i64 0] 47 (0, 0))) ∧ (w'.heap[s_.1]? = some (.cells #[.int .i64 0, .int .i64 0] 25 (0, 0))) ∧ (w'.heap[s_.2]? = some (.cells #[.int .i64 0, .int .i64 0] 25 (0, 0))) ∧ (w.heap.size ≤ s_.1) ∧ (w.heap.size ≤ s_.1) ∧ (gb144 ≠ s_.1) ∧ (s_.1 ≠ gb144) ∧ (gb145 ≠ s_.1) ∧ (s_.1 ≠ gb145) ∧ (gb146 ≠ s_.1) ∧ (s_.1 ≠ gb146) ∧ (s_.2 ≠ s_.1) ∧ (s_.1 ≠ s_.2) ∧ (w.heap.size ≤ s_.2) ∧ (w.heap.size ≤ s_.2) ∧ (gb144 ≠ s_.2) ∧ (s_.2 ≠ gb144) ∧ (gb145 ≠ s_.2) ∧ (s_.2 ≠ gb145) ∧ (gb146 ≠ s_.2) ∧ (s_.2 ≠ gb146) ∧ (Below w.heap.size w w')) ?_ ?_
                        rotate_left
                        · intro hJ4_5
                          refine join_ (σ := Unit) 5 (bm 8 7) (fun s_ => [(18, .agg #[.int .i64 t149, .int .i64 t150])]) (fun s_ w' => (w'.cell? ⟨gb144, 0, none⟩ = some (.int .i64 a0_0) ∧ w'.cell? ⟨gb144, 1, none⟩ = some (.int .i64 a0_1) ∧ w'.cell? ⟨gb144, 2, none⟩ = some (.int .i64 a0_2) ∧ w'.cell? ⟨gb144, 3, none⟩ = some (.int .i64 a0_3) ∧ w'.cell? ⟨gb145, 0, none⟩ = some (.int .i64 a1_0) ∧ w'.cell? ⟨gb145, 1, none⟩ = some (.int .i64 a1_1) ∧ w'.cell? ⟨gb145, 2, none⟩ = some (.int .i64 a1_2) ∧ w'.cell? ⟨gb145, 3, none⟩ = some (.int .i64 a1_3)) ∧ (w'.heap[gb144]? = some (.cells #[.int .i64 a0_0, .int .i64 a0_1, .int .i64 a0_2, .int .i64 a0_3] 47 (0, 0))) ∧ (w'.heap[gb145]? = some (.cells #[.int .i64 a1_0, .int .i64 a1_1, .int .i64 a1_2, .int .i64 a1_3] 47 (0, 0))) ∧ (w'.heap[gb146]? = some (.cells #[.int .i64 0, .int .i64 0, .int .i64 0, .int .i64 0] 47 (0, 0))) ∧ (Below w.heap.size w w')) ?_ ?_
                          rotate_left
                          · intro hJ1
                            refine join_ (σ := Nat) 5 (bm 8 21) (fun s_ => [(5, .pointer (some ⟨s_, 0, none⟩))]) (fun s_ w' => (w'.cell? ⟨gb144, 0, none⟩ = some (.int .i64 a0_0) ∧ w'.cell? ⟨gb144, 1, none⟩ = some (.int .i64 a0_1) ∧ w'.cell? ⟨gb144, 2, none⟩ = some (.int .i64 a0_2) ∧ w'.cell? ⟨gb144, 3, none⟩ = some (.int .i64 a0_3) ∧ w'.cell? ⟨gb145, 0, none⟩ = some (.int .i64 a1_0) ∧ w'.cell? ⟨gb145, 1, none⟩ = some (.int .i64 a1_1) ∧ w'.cell? ⟨gb145, 2, none⟩ = some (.int .i64 a1_2) ∧ w'.cell? ⟨gb145, 3, none⟩ = some (.int .i64 a1_3)) ∧ (w'.heap[gb144]? = some (.cells #[.int .i64 a0_0, .int .i64 a0_1, .int .i64 a0_2, .int .i64 a0_3] 47 (0, 0))) ∧ (w'.heap[gb145]? = some (.cells #[.int .i64 a1_0, .int .i64 a1_1, .int .i64 a1_2, .int .i64 a1_3] 47 (0, 0))) ∧ (w'.heap[gb146]? = some (.cells #[.int .i64 0, .int .i64 0, .int .i64 0, .int .i64 0] 47 (0, 0))) ∧ (w'.heap[s_]? = some (.cells #[.int .i64 0, .int .i64 0] 25 (0, 0))) ∧ (w.heap.size ≤ s_) ∧ (w.heap.size ≤ s_) ∧ (gb144 ≠ s_) ∧ (s_ ≠ gb144) ∧ (gb145 ≠ s_) ∧ (s_ ≠ gb145) ∧ (gb146 ≠ s_) ∧ (s_ ≠ gb146) ∧ (Below w.heap.size w w')) ?_ ?_
                            rotate_left
                            · intro hJ4
                              refine join_ (σ := Nat) 5 (bm 8 37) (fun s_ => [(6, .pointer (some ⟨s_, 0, none⟩))]) (fun s_ w' => (w'.cell? ⟨gb144, 0, none⟩ = some (.int .i64 a0_0) ∧ w'.cell? ⟨gb144, 1, none⟩ = some (.int .i64 a0_1) ∧ w'.cell? ⟨gb144, 2, none⟩ = some (.int .i64 a0_2) ∧ w'.cell? ⟨gb144, 3, none⟩ = some (.int .i64 a0_3) ∧ w'.cell? ⟨gb145, 0, none⟩ = some (.int .i64 a1_0) ∧ w'.cell? ⟨gb145, 1, none⟩ = some (.int .i64 a1_1) ∧ w'.cell? ⟨gb145, 2, none⟩ = some (.int .i64 a1_2) ∧ w'.cell? ⟨gb145, 3, none⟩ = some (.int .i64 a1_3)) ∧ (w'.heap[gb144]? = some (.cells #[.int .i64 a0_0, .int .i64 a0_1, .int .i64 a0_2, .int .i64 a0_3] 47 (0, 0))) ∧ (w'.heap[gb145]? = some (.cells #[.int .i64 a1_0, .int .i64 a1_1, .int .i64 a1_2, .int .i64 a1_3] 47 (0, 0))) ∧ (w'.heap[gb146]? = some (.cells #[.int .i64 0, .int .i64 0, .int .i64 0, .int .i64 0] 47 (0, 0))) ∧ (w'.heap[s_]? = some (.cells #[.int .i64 0, .int .i64 0] 25 (0, 0))) ∧ (w.heap.size ≤ s_) ∧ (w.heap.size ≤ s_) ∧ (gb144 ≠ s_) ∧ (s_ ≠ gb144) ∧ (gb145 ≠ s_) ∧ (s_ ≠ gb145) ∧ (gb146 ≠ s_) ∧ (s_ ≠ gb146) ∧ (Below w.heap.size w w')) ?_ ?_
                              rotate_left
                              · intro hJ5
                                refine three_ (i := 1) (j := 4) (k := 5) (Ni := some 18) (Nj := some 5) (Nk := some 6) (bm 8 7) (bm 8 21) (bm 8 37) rfl rfl rfl rfl rfl rfl (three_of HT_.out (by kernel_rfl)) (by decide) (by decide) (by decide) (fun K hK => ?_) (fun K hK => ?_) (fun K hK => ?_)
                                · skip
                                  refine goes_ Try.func59 (by kernel_rfl) rfl #[.agg #[.int .i64 a0_0, .int .i64 a0_1, .int .i64 a0_2, .int .i64 a0_3]] (by rfl) rfl rfl (by (try simp only [List.map_toArray, List.map_cons, List.map_nil]); first | done | rfl | (simp only [List.length_drop, List.length_take]; rfl)) ?_
                                  with_reducible refine (cell_last.calls a0_0 a0_1 a0_2 a0_3 t149 t150 _ A25.out).mono ?_
                                  rintro e w35 ⟨rfl, hb⟩
                                  refine ⟨_, rfl, ?_⟩
                                  replace BK144 := Aside0.mk (kb BK144 hb)
                                  replace BK145 := Aside0.mk (kb BK145 hb)
                                  replace BK146 := Aside0.mk (kb BK146 hb)
                                  replace HB := Aside0.mk (below_step (bw HB) hb)
                                  (try clear hb)
                                  (try clear hb2)
                                  (try clear hk)
                                  (try clear hi)
                                  refine hK.out _ _ ⟨(blk_cell BK144.out 0).trans rfl, (blk_cell BK144.out 1).trans rfl, (blk_cell BK144.out 2).trans rfl, (blk_cell BK144.out 3).trans rfl, (blk_cell BK145.out 0).trans rfl, (blk_cell BK145.out 1).trans rfl, (blk_cell BK145.out 2).trans rfl, (blk_cell BK145.out 3).trans rfl⟩ (fun hHeld => ?_)
                                  clear hK K
                                  refine norm_ (a' := ?_) ?_ ?_
                                  rotate_left
                                  · show Act.put _ (some 18) _ = _
                                    simp only [Act.put, List.setIfInBounds_toArray, List.set_cons_zero, List.set_cons_succ, i64_w, i32_w]
                                    rfl
                                  exact norm_ (by first | (simp only [putAll, Act.put, List.setIfInBounds_toArray, List.set_cons_zero, List.set_cons_succ]; done) | (simp only [putAll, Act.put, List.setIfInBounds_toArray, List.set_cons_zero, List.set_cons_succ]; rfl)) (hJ1 () _ ⟨hHeld, (kz BK144), (kz BK145), (kz BK146), (bw HB)⟩)
                                · skip
                                  refine box_step ?hg (N := 5) ?hd (cs := #[.int .i64 0, .int .i64 0]) (t := 25) ?hr ?_; (case hd => rfl); (case hg => rfl); (case hr => first | (go_simp; done) | (go_simp; rfl))
                                  intro gb153 hg w35 hbox hb
                                  have BK153 := Aside0.mk (hbox)
                                  have GW153 := Aside0.mk ((bz HB _ hg : w.heap.size ≤ gb153))
                                  have GE153 := Aside0.mk ((bz HB _ hg : w.heap.size ≤ gb153))
                                  have NB144_153 := Aside0.mk ((nl BK144 hg : gb144 ≠ gb153))
                                  have NB153_144 := Aside0.mk ((ng BK144 hg : gb153 ≠ gb144))
                                  have NB145_153 := Aside0.mk ((nl BK145 hg : gb145 ≠ gb153))
                                  have NB153_145 := Aside0.mk ((ng BK145 hg : gb153 ≠ gb145))
                                  have NB146_153 := Aside0.mk ((nl BK146 hg : gb146 ≠ gb153))
                                  have NB153_146 := Aside0.mk ((ng BK146 hg : gb153 ≠ gb146))
                                  replace BK144 := Aside0.mk (kb BK144 hb)
                                  replace BK145 := Aside0.mk (kb BK145 hb)
                                  replace BK146 := Aside0.mk (kb BK146 hb)
                                  replace HB := Aside0.mk (below_step (bw HB) hb)
                                  clear hb hbox hg
                                  refine hK.out _ _ ⟨(blk_cell BK144.out 0).trans rfl, (blk_cell BK144.out 1).trans rfl, (blk_cell BK144.out 2).trans rfl, (blk_cell BK144.out 3).trans rfl, (blk_cell BK145.out 0).trans rfl, (blk_cell BK145.out 1).trans rfl, (blk_cell BK145.out 2).trans rfl, (blk_cell BK145.out 3).trans rfl⟩ (fun hHeld => ?_)
                                  clear hK K
                                  refine norm_ (a' := ?_) ?_ ?_
                                  rotate_left
                                  · show Act.put _ (some 5) _ = _
                                    simp only [Act.put, List.setIfInBounds_toArray, List.set_cons_zero, List.set_cons_succ, i64_w, i32_w]
                                    rfl
                                  exact norm_ (by first | (simp only [putAll, Act.put, List.setIfInBounds_toArray, List.set_cons_zero, List.set_cons_succ]; done) | (simp only [putAll, Act.put, List.setIfInBounds_toArray, List.set_cons_zero, List.set_cons_succ]; rfl)) (hJ4 (gb153) _ ⟨hHeld, (kz BK144), (kz BK145), (kz BK146), (kz BK153), GW153.out, GE153.out, NB144_153.out, NB153_144.out, NB145_153.out, NB153_145.out, NB146_153.out, NB153_146.out, (bw HB)⟩)
                                · skip
                                  refine box_step ?hg (N := 6) ?hd (cs := #[.int .i64 0, .int .i64 0]) (t := 25) ?hr ?_; (case hd => rfl); (case hg => rfl); (case hr => first | (go_simp; done) | (go_simp; rfl))
                                  intro gb154 hg w35 hbox hb
                                  have BK154 := Aside0.mk (hbox)
                                  have GW154 := Aside0.mk ((bz HB _ hg : w.heap.size ≤ gb154))
                                  have GE154 := Aside0.mk ((bz HB _ hg : w.heap.size ≤ gb154))
                                  have NB144_154 := Aside0.mk ((nl BK144 hg : gb144 ≠ gb154))
                                  have NB154_144 := Aside0.mk ((ng BK144 hg : gb154 ≠ gb144))
                                  have NB145_154 := Aside0.mk ((nl BK145 hg : gb145 ≠ gb154))
                                  have NB154_145 := Aside0.mk ((ng BK145 hg : gb154 ≠ gb145))
                                  have NB146_154 := Aside0.mk ((nl BK146 hg : gb146 ≠ gb154))
                                  have NB154_146 := Aside0.mk ((ng BK146 hg : gb154 ≠ gb146))
                                  replace BK144 := Aside0.mk (kb BK144 hb)
                                  replace BK145 := Aside0.mk (kb BK145 hb)
                                  replace BK146 := Aside0.mk (kb BK146 hb)
                                  replace HB := Aside0.mk (below_step (bw HB) hb)
                                  clear hb hbox hg
                                  refine hK.out _ _ ⟨(blk_cell BK144.out 0).trans rfl, (blk_cell BK144.out 1).trans rfl, (blk_cell BK144.out 2).trans rfl, (blk_cell BK144.out 3).trans rfl, (blk_cell BK145.out 0).trans rfl, (blk_cell BK145.out 1).trans rfl, (blk_cell BK145.out 2).trans rfl, (blk_cell BK145.out 3).trans rfl⟩ (fun hHeld => ?_)
                                  clear hK K
                                  refine norm_ (a' := ?_) ?_ ?_
                                  rotate_left
                                  · show Act.put _ (some 6) _ = _
                                    simp only [Act.put, List.setIfInBounds_toArray, List.set_cons_zero, List.set_cons_succ, i64_w, i32_w]
                                    rfl
                                  exact norm_ (by first | (simp only [putAll, Act.put, List.setIfInBounds_toArray, List.set_cons_zero, List.set_cons_succ]; done) | (simp only [putAll, Act.put, List.setIfInBounds_toArray, List.set_cons_zero, List.set_cons_succ]; rfl)) (hJ5 (gb154) _ ⟨hHeld, (kz BK144), (kz BK145), (kz BK146), (kz BK154), GW154.out, GE154.out, NB144_154.out, NB154_144.out, NB145_154.out, NB154_145.out, NB146_154.out, NB154_146.out, (bw HB)⟩)
                              · skip
                                rintro gb154 w36 ⟨hS_, h0_, h1_, h2_, h3_, h4_, h5_, h6_, h7_, h8_, h9_, h10_, h11_, h12_⟩
                                clear BK144 BK145 BK146 HB
                                have BK144 : Aside0 (w36.heap[gb144]? = some (.cells #[.int .i64 a0_0, .int .i64 a0_1, .int .i64 a0_2, .int .i64 a0_3] 47 (0, 0))) := ⟨h0_⟩
                                have BK145 : Aside0 (w36.heap[gb145]? = some (.cells #[.int .i64 a1_0, .int .i64 a1_1, .int .i64 a1_2, .int .i64 a1_3] 47 (0, 0))) := ⟨h1_⟩
                                have BK146 : Aside0 (w36.heap[gb146]? = some (.cells #[.int .i64 0, .int .i64 0, .int .i64 0, .int .i64 0] 47 (0, 0))) := ⟨h2_⟩
                                have BK154 : Aside0 (w36.heap[gb154]? = some (.cells #[.int .i64 0, .int .i64 0] 25 (0, 0))) := ⟨h3_⟩
                                have GW154 : Aside0 (w.heap.size ≤ gb154) := ⟨h4_⟩
                                have GE154 : Aside0 (w.heap.size ≤ gb154) := ⟨h5_⟩
                                have NB144_154 : Aside0 (gb144 ≠ gb154) := ⟨h6_⟩
                                have NB154_144 : Aside0 (gb154 ≠ gb144) := ⟨h7_⟩
                                have NB145_154 : Aside0 (gb145 ≠ gb154) := ⟨h8_⟩
                                have NB154_145 : Aside0 (gb154 ≠ gb145) := ⟨h9_⟩
                                have NB146_154 : Aside0 (gb146 ≠ gb154) := ⟨h10_⟩
                                have NB154_146 : Aside0 (gb154 ≠ gb146) := ⟨h11_⟩
                                have HB : Aside0 (Below w.heap.size w w36) := ⟨h12_⟩
                                clear h0_ h1_ h2_ h3_ h4_ h5_ h6_ h7_ h8_ h9_ h10_ h11_ h12_
                                have hHeld : w36.cell? ⟨gb144, 0, none⟩ = some (.int .i64 a0_0) ∧ w36.cell? ⟨gb144, 1, none⟩ = some (.int .i64 a0_1) ∧ w36.cell? ⟨gb144, 2, none⟩ = some (.int .i64 a0_2) ∧ w36.cell? ⟨gb144, 3, none⟩ = some (.int .i64 a0_3) ∧ w36.cell? ⟨gb145, 0, none⟩ = some (.int .i64 a1_0) ∧ w36.cell? ⟨gb145, 1, none⟩ = some (.int .i64 a1_1) ∧ w36.cell? ⟨gb145, 2, none⟩ = some (.int .i64 a1_2) ∧ w36.cell? ⟨gb145, 3, none⟩ = some (.int .i64 a1_3) := hS_
                                refine norm_ (a' := ?_) ?_ ?_
                                rotate_left
                                · simp only [putAll, Act.put, List.setIfInBounds_toArray, List.set_cons_zero, List.set_cons_succ]
                                  rfl
                                refine two_ (i := 1) (j := 4) (Ni := some 18) (Nj := some 5) (bm 8 39) (bm 8 53) rfl rfl rfl rfl (two_of HT_.out (by kernel_rfl)) (by decide) (by decide) (fun K hK => ?_) (fun K hK => ?_)
                                · skip
                                  refine goes_ Try.func59 (by kernel_rfl) rfl #[.agg #[.int .i64 a0_0, .int .i64 a0_1, .int .i64 a0_2, .int .i64 a0_3]] (by rfl) rfl rfl (by (try simp only [List.map_toArray, List.map_cons, List.map_nil]); first | done | rfl | (simp only [List.length_drop, List.length_take]; rfl)) ?_
                                  with_reducible refine (cell_last.calls a0_0 a0_1 a0_2 a0_3 t149 t150 _ A25.out).mono ?_
                                  rintro e w37 ⟨rfl, hb⟩
                                  refine ⟨_, rfl, ?_⟩
                                  replace BK144 := Aside0.mk (kb BK144 hb)
                                  replace BK145 := Aside0.mk (kb BK145 hb)
                                  replace BK146 := Aside0.mk (kb BK146 hb)
                                  replace BK154 := Aside0.mk (kb BK154 hb)
                                  replace HB := Aside0.mk (below_step (bw HB) hb)
                                  (try clear hb)
                                  (try clear hb2)
                                  (try clear hk)
                                  (try clear hi)
                                  refine hK.out _ _ ⟨(blk_cell BK144.out 0).trans rfl, (blk_cell BK144.out 1).trans rfl, (blk_cell BK144.out 2).trans rfl, (blk_cell BK144.out 3).trans rfl, (blk_cell BK145.out 0).trans rfl, (blk_cell BK145.out 1).trans rfl, (blk_cell BK145.out 2).trans rfl, (blk_cell BK145.out 3).trans rfl⟩ (fun hHeld => ?_)
                                  clear hK K
                                  refine norm_ (a' := ?_) ?_ ?_
                                  rotate_left
                                  · show Act.put _ (some 18) _ = _
                                    simp only [Act.put, List.setIfInBounds_toArray, List.set_cons_zero, List.set_cons_succ, i64_w, i32_w]
                                    rfl
                                  exact norm_ (by first | (simp only [putAll, Act.put, List.setIfInBounds_toArray, List.set_cons_zero, List.set_cons_succ]; done) | (simp only [putAll, Act.put, List.setIfInBounds_toArray, List.set_cons_zero, List.set_cons_succ]; rfl)) (hJ1_5 (gb154) _ ⟨hHeld, (kz BK144), (kz BK145), (kz BK146), (kz BK154), GW154.out, GE154.out, NB144_154.out, NB154_144.out, NB145_154.out, NB154_145.out, NB146_154.out, NB154_146.out, (bw HB)⟩)
                                · skip
                                  refine box_step ?hg (N := 5) ?hd (cs := #[.int .i64 0, .int .i64 0]) (t := 25) ?hr ?_; (case hd => rfl); (case hg => rfl); (case hr => first | (go_simp; done) | (go_simp; rfl))
                                  intro gb153 hg w37 hbox hb
                                  have BK153 := Aside0.mk (hbox)
                                  have GW153 := Aside0.mk ((bz HB _ hg : w.heap.size ≤ gb153))
                                  have GE153 := Aside0.mk ((bz HB _ hg : w.heap.size ≤ gb153))
                                  have NB144_153 := Aside0.mk ((nl BK144 hg : gb144 ≠ gb153))
                                  have NB153_144 := Aside0.mk ((ng BK144 hg : gb153 ≠ gb144))
                                  have NB145_153 := Aside0.mk ((nl BK145 hg : gb145 ≠ gb153))
                                  have NB153_145 := Aside0.mk ((ng BK145 hg : gb153 ≠ gb145))
                                  have NB146_153 := Aside0.mk ((nl BK146 hg : gb146 ≠ gb153))
                                  have NB153_146 := Aside0.mk ((ng BK146 hg : gb153 ≠ gb146))
                                  have NB154_153 := Aside0.mk ((nl BK154 hg : gb154 ≠ gb153))
                                  have NB153_154 := Aside0.mk ((ng BK154 hg : gb153 ≠ gb154))
                                  replace BK144 := Aside0.mk (kb BK144 hb)
                                  replace BK145 := Aside0.mk (kb BK145 hb)
                                  replace BK146 := Aside0.mk (kb BK146 hb)
                                  replace BK154 := Aside0.mk (kb BK154 hb)
                                  replace HB := Aside0.mk (below_step (bw HB) hb)
                                  clear hb hbox hg
                                  refine hK.out _ _ ⟨(blk_cell BK144.out 0).trans rfl, (blk_cell BK144.out 1).trans rfl, (blk_cell BK144.out 2).trans rfl, (blk_cell BK144.out 3).trans rfl, (blk_cell BK145.out 0).trans rfl, (blk_cell BK145.out 1).trans rfl, (blk_cell BK145.out 2).trans rfl, (blk_cell BK145.out 3).trans rfl⟩ (fun hHeld => ?_)
                                  clear hK K
                                  refine norm_ (a' := ?_) ?_ ?_
                                  rotate_left
                                  · show Act.put _ (some 5) _ = _
                                    simp only [Act.put, List.setIfInBounds_toArray, List.set_cons_zero, List.set_cons_succ, i64_w, i32_w]
                                    rfl
                                  exact norm_ (by first | (simp only [putAll, Act.put, List.setIfInBounds_toArray, List.set_cons_zero, List.set_cons_succ]; done) | (simp only [putAll, Act.put, List.setIfInBounds_toArray, List.set_cons_zero, List.set_cons_succ]; rfl)) (hJ4_5 (gb153, gb154) _ ⟨hHeld, (kz BK144), (kz BK145), (kz BK146), (kz BK153), (kz BK154), GW153.out, GE153.out, NB144_153.out, NB153_144.out, NB145_153.out, NB153_145.out, NB146_153.out, NB153_146.out, NB154_153.out, NB153_154.out, GW154.out, GE154.out, NB144_154.out, NB154_144.out, NB145_154.out, NB154_145.out, NB146_154.out, NB154_146.out, (bw HB)⟩)
                            · skip
                              rintro gb153 w36 ⟨hS_, h0_, h1_, h2_, h3_, h4_, h5_, h6_, h7_, h8_, h9_, h10_, h11_, h12_⟩
                              clear BK144 BK145 BK146 HB
                              have BK144 : Aside0 (w36.heap[gb144]? = some (.cells #[.int .i64 a0_0, .int .i64 a0_1, .int .i64 a0_2, .int .i64 a0_3] 47 (0, 0))) := ⟨h0_⟩
                              have BK145 : Aside0 (w36.heap[gb145]? = some (.cells #[.int .i64 a1_0, .int .i64 a1_1, .int .i64 a1_2, .int .i64 a1_3] 47 (0, 0))) := ⟨h1_⟩
                              have BK146 : Aside0 (w36.heap[gb146]? = some (.cells #[.int .i64 0, .int .i64 0, .int .i64 0, .int .i64 0] 47 (0, 0))) := ⟨h2_⟩
                              have BK153 : Aside0 (w36.heap[gb153]? = some (.cells #[.int .i64 0, .int .i64 0] 25 (0, 0))) := ⟨h3_⟩
                              have GW153 : Aside0 (w.heap.size ≤ gb153) := ⟨h4_⟩
                              have GE153 : Aside0 (w.heap.size ≤ gb153) := ⟨h5_⟩
                              have NB144_153 : Aside0 (gb144 ≠ gb153) := ⟨h6_⟩
                              have NB153_144 : Aside0 (gb153 ≠ gb144) := ⟨h7_⟩
                              have NB145_153 : Aside0 (gb145 ≠ gb153) := ⟨h8_⟩
                              have NB153_145 : Aside0 (gb153 ≠ gb145) := ⟨h9_⟩
                              have NB146_153 : Aside0 (gb146 ≠ gb153) := ⟨h10_⟩
                              have NB153_146 : Aside0 (gb153 ≠ gb146) := ⟨h11_⟩
                              have HB : Aside0 (Below w.heap.size w w36) := ⟨h12_⟩
                              clear h0_ h1_ h2_ h3_ h4_ h5_ h6_ h7_ h8_ h9_ h10_ h11_ h12_
                              have hHeld : w36.cell? ⟨gb144, 0, none⟩ = some (.int .i64 a0_0) ∧ w36.cell? ⟨gb144, 1, none⟩ = some (.int .i64 a0_1) ∧ w36.cell? ⟨gb144, 2, none⟩ = some (.int .i64 a0_2) ∧ w36.cell? ⟨gb144, 3, none⟩ = some (.int .i64 a0_3) ∧ w36.cell? ⟨gb145, 0, none⟩ = some (.int .i64 a1_0) ∧ w36.cell? ⟨gb145, 1, none⟩ = some (.int .i64 a1_1) ∧ w36.cell? ⟨gb145, 2, none⟩ = some (.int .i64 a1_2) ∧ w36.cell? ⟨gb145, 3, none⟩ = some (.int .i64 a1_3) := hS_
                              refine norm_ (a' := ?_) ?_ ?_
                              rotate_left
                              · simp only [putAll, Act.put, List.setIfInBounds_toArray, List.set_cons_zero, List.set_cons_succ]
                                rfl
                              refine two_ (i := 1) (j := 5) (Ni := some 18) (Nj := some 6) (bm 8 23) (bm 8 53) rfl rfl rfl rfl (two_of HT_.out (by kernel_rfl)) (by decide) (by decide) (fun K hK => ?_) (fun K hK => ?_)
                              · skip
                                refine goes_ Try.func59 (by kernel_rfl) rfl #[.agg #[.int .i64 a0_0, .int .i64 a0_1, .int .i64 a0_2, .int .i64 a0_3]] (by rfl) rfl rfl (by (try simp only [List.map_toArray, List.map_cons, List.map_nil]); first | done | rfl | (simp only [List.length_drop, List.length_take]; rfl)) ?_
                                with_reducible refine (cell_last.calls a0_0 a0_1 a0_2 a0_3 t149 t150 _ A25.out).mono ?_
                                rintro e w37 ⟨rfl, hb⟩
                                refine ⟨_, rfl, ?_⟩
                                replace BK144 := Aside0.mk (kb BK144 hb)
                                replace BK145 := Aside0.mk (kb BK145 hb)
                                replace BK146 := Aside0.mk (kb BK146 hb)
                                replace BK153 := Aside0.mk (kb BK153 hb)
                                replace HB := Aside0.mk (below_step (bw HB) hb)
                                (try clear hb)
                                (try clear hb2)
                                (try clear hk)
                                (try clear hi)
                                refine hK.out _ _ ⟨(blk_cell BK144.out 0).trans rfl, (blk_cell BK144.out 1).trans rfl, (blk_cell BK144.out 2).trans rfl, (blk_cell BK144.out 3).trans rfl, (blk_cell BK145.out 0).trans rfl, (blk_cell BK145.out 1).trans rfl, (blk_cell BK145.out 2).trans rfl, (blk_cell BK145.out 3).trans rfl⟩ (fun hHeld => ?_)
                                clear hK K
                                refine norm_ (a' := ?_) ?_ ?_
                                rotate_left
                                · show Act.put _ (some 18) _ = _
                                  simp only [Act.put, List.setIfInBounds_toArray, List.set_cons_zero, List.set_cons_succ, i64_w, i32_w]
                                  rfl
                                exact norm_ (by first | (simp only [putAll, Act.put, List.setIfInBounds_toArray, List.set_cons_zero, List.set_cons_succ]; done) | (simp only [putAll, Act.put, List.setIfInBounds_toArray, List.set_cons_zero, List.set_cons_succ]; rfl)) (hJ1_4 (gb153) _ ⟨hHeld, (kz BK144), (kz BK145), (kz BK146), (kz BK153), GW153.out, GE153.out, NB144_153.out, NB153_144.out, NB145_153.out, NB153_145.out, NB146_153.out, NB153_146.out, (bw HB)⟩)
                              · skip
                                refine box_step ?hg (N := 6) ?hd (cs := #[.int .i64 0, .int .i64 0]) (t := 25) ?hr ?_; (case hd => rfl); (case hg => rfl); (case hr => first | (go_simp; done) | (go_simp; rfl))
                                intro gb154 hg w37 hbox hb
                                have BK154 := Aside0.mk (hbox)
                                have GW154 := Aside0.mk ((bz HB _ hg : w.heap.size ≤ gb154))
                                have GE154 := Aside0.mk ((bz HB _ hg : w.heap.size ≤ gb154))
                                have NB144_154 := Aside0.mk ((nl BK144 hg : gb144 ≠ gb154))
                                have NB154_144 := Aside0.mk ((ng BK144 hg : gb154 ≠ gb144))
                                have NB145_154 := Aside0.mk ((nl BK145 hg : gb145 ≠ gb154))
                                have NB154_145 := Aside0.mk ((ng BK145 hg : gb154 ≠ gb145))
                                have NB146_154 := Aside0.mk ((nl BK146 hg : gb146 ≠ gb154))
                                have NB154_146 := Aside0.mk ((ng BK146 hg : gb154 ≠ gb146))
                                have NB153_154 := Aside0.mk ((nl BK153 hg : gb153 ≠ gb154))
                                have NB154_153 := Aside0.mk ((ng BK153 hg : gb154 ≠ gb153))
                                replace BK144 := Aside0.mk (kb BK144 hb)
                                replace BK145 := Aside0.mk (kb BK145 hb)
                                replace BK146 := Aside0.mk (kb BK146 hb)
                                replace BK153 := Aside0.mk (kb BK153 hb)
                                replace HB := Aside0.mk (below_step (bw HB) hb)
                                clear hb hbox hg
                                refine hK.out _ _ ⟨(blk_cell BK144.out 0).trans rfl, (blk_cell BK144.out 1).trans rfl, (blk_cell BK144.out 2).trans rfl, (blk_cell BK144.out 3).trans rfl, (blk_cell BK145.out 0).trans rfl, (blk_cell BK145.out 1).trans rfl, (blk_cell BK145.out 2).trans rfl, (blk_cell BK145.out 3).trans rfl⟩ (fun hHeld => ?_)
                                clear hK K
                                refine norm_ (a' := ?_) ?_ ?_
                                rotate_left
                                · show Act.put _ (some 6) _ = _
                                  simp only [Act.put, List.setIfInBounds_toArray, List.set_cons_zero, List.set_cons_succ, i64_w, i32_w]
                                  rfl
                                exact norm_ (by first | (simp only [putAll, Act.put, List.setIfInBounds_toArray, List.set_cons_zero, List.set_cons_succ]; done) | (simp only [putAll, Act.put, List.setIfInBounds_toArray, List.set_cons_zero, List.set_cons_succ]; rfl)) (hJ4_5 (gb153, gb154) _ ⟨hHeld, (kz BK144), (kz BK145), (kz BK146), (kz BK153), (kz BK154), GW153.out, GE153.out, NB144_153.out, NB153_144.out, NB145_153.out, NB153_145.out, NB146_153.out, NB153_146.out, NB154_153.out, NB153_154.out, GW154.out, GE154.out, NB144_154.out, NB154_144.out, NB145_154.out, NB154_145.out, NB146_154.out, NB154_146.out, (bw HB)⟩)
                          · skip
                            rintro _ w36 ⟨hS_, h0_, h1_, h2_, h3_⟩
                            clear BK144 BK145 BK146 HB
                            have BK144 : Aside0 (w36.heap[gb144]? = some (.cells #[.int .i64 a0_0, .int .i64 a0_1, .int .i64 a0_2, .int .i64 a0_3] 47 (0, 0))) := ⟨h0_⟩
                            have BK145 : Aside0 (w36.heap[gb145]? = some (.cells #[.int .i64 a1_0, .int .i64 a1_1, .int .i64 a1_2, .int .i64 a1_3] 47 (0, 0))) := ⟨h1_⟩
                            have BK146 : Aside0 (w36.heap[gb146]? = some (.cells #[.int .i64 0, .int .i64 0, .int .i64 0, .int .i64 0] 47 (0, 0))) := ⟨h2_⟩
                            have HB : Aside0 (Below w.heap.size w w36) := ⟨h3_⟩
                            clear h0_ h1_ h2_ h3_
                            have hHeld : w36.cell? ⟨gb144, 0, none⟩ = some (.int .i64 a0_0) ∧ w36.cell? ⟨gb144, 1, none⟩ = some (.int .i64 a0_1) ∧ w36.cell? ⟨gb144, 2, none⟩ = some (.int .i64 a0_2) ∧ w36.cell? ⟨gb144, 3, none⟩ = some (.int .i64 a0_3) ∧ w36.cell? ⟨gb145, 0, none⟩ = some (.int .i64 a1_0) ∧ w36.cell? ⟨gb145, 1, none⟩ = some (.int .i64 a1_1) ∧ w36.cell? ⟨gb145, 2, none⟩ = some (.int .i64 a1_2) ∧ w36.cell? ⟨gb145, 3, none⟩ = some (.int .i64 a1_3) := hS_
                            refine norm_ (a' := ?_) ?_ ?_
                            rotate_left
                            · simp only [putAll, Act.put, List.setIfInBounds_toArray, List.set_cons_zero, List.set_cons_succ]
                              rfl
                            refine three_ (i := 3) (j := 4) (k := 5) (Ni := some 20) (Nj := some 5) (Nk := some 6) (bm 8 15) (bm 8 23) (bm 8 39) rfl rfl rfl rfl rfl rfl (three_of HT_.out (by kernel_rfl)) (by decide) (by decide) (by decide) (fun K hK => ?_) (fun K hK => ?_) (fun K hK => ?_)
                            · skip
                              refine goes_ Try.func59 (by kernel_rfl) rfl #[.agg #[.int .i64 a1_0, .int .i64 a1_1, .int .i64 a1_2, .int .i64 a1_3]] (by rfl) rfl rfl (by (try simp only [List.map_toArray, List.map_cons, List.map_nil]); first | done | rfl | (simp only [List.length_drop, List.length_take]; rfl)) ?_
                              with_reducible refine (cell_last.calls a1_0 a1_1 a1_2 a1_3 t151 t152 _ A26.out).mono ?_
                              rintro e w37 ⟨rfl, hb⟩
                              refine ⟨_, rfl, ?_⟩
                              replace BK144 := Aside0.mk (kb BK144 hb)
                              replace BK145 := Aside0.mk (kb BK145 hb)
                              replace BK146 := Aside0.mk (kb BK146 hb)
                              replace HB := Aside0.mk (below_step (bw HB) hb)
                              (try clear hb)
                              (try clear hb2)
                              (try clear hk)
                              (try clear hi)
                              refine hK.out _ _ ⟨(blk_cell BK144.out 0).trans rfl, (blk_cell BK144.out 1).trans rfl, (blk_cell BK144.out 2).trans rfl, (blk_cell BK144.out 3).trans rfl, (blk_cell BK145.out 0).trans rfl, (blk_cell BK145.out 1).trans rfl, (blk_cell BK145.out 2).trans rfl, (blk_cell BK145.out 3).trans rfl⟩ (fun hHeld => ?_)
                              clear hK K
                              refine norm_ (a' := ?_) ?_ ?_
                              rotate_left
                              · show Act.put _ (some 20) _ = _
                                simp only [Act.put, List.setIfInBounds_toArray, List.set_cons_zero, List.set_cons_succ, i64_w, i32_w]
                                rfl
                              exact norm_ (by first | (simp only [putAll, Act.put, List.setIfInBounds_toArray, List.set_cons_zero, List.set_cons_succ]; done) | (simp only [putAll, Act.put, List.setIfInBounds_toArray, List.set_cons_zero, List.set_cons_succ]; rfl)) (hJ1_3 () _ ⟨hHeld, (kz BK144), (kz BK145), (kz BK146), (bw HB)⟩)
                            · skip
                              refine box_step ?hg (N := 5) ?hd (cs := #[.int .i64 0, .int .i64 0]) (t := 25) ?hr ?_; (case hd => rfl); (case hg => rfl); (case hr => first | (go_simp; done) | (go_simp; rfl))
                              intro gb153 hg w37 hbox hb
                              have BK153 := Aside0.mk (hbox)
                              have GW153 := Aside0.mk ((bz HB _ hg : w.heap.size ≤ gb153))
                              have GE153 := Aside0.mk ((bz HB _ hg : w.heap.size ≤ gb153))
                              have NB144_153 := Aside0.mk ((nl BK144 hg : gb144 ≠ gb153))
                              have NB153_144 := Aside0.mk ((ng BK144 hg : gb153 ≠ gb144))
                              have NB145_153 := Aside0.mk ((nl BK145 hg : gb145 ≠ gb153))
                              have NB153_145 := Aside0.mk ((ng BK145 hg : gb153 ≠ gb145))
                              have NB146_153 := Aside0.mk ((nl BK146 hg : gb146 ≠ gb153))
                              have NB153_146 := Aside0.mk ((ng BK146 hg : gb153 ≠ gb146))
                              replace BK144 := Aside0.mk (kb BK144 hb)
                              replace BK145 := Aside0.mk (kb BK145 hb)
                              replace BK146 := Aside0.mk (kb BK146 hb)
                              replace HB := Aside0.mk (below_step (bw HB) hb)
                              clear hb hbox hg
                              refine hK.out _ _ ⟨(blk_cell BK144.out 0).trans rfl, (blk_cell BK144.out 1).trans rfl, (blk_cell BK144.out 2).trans rfl, (blk_cell BK144.out 3).trans rfl, (blk_cell BK145.out 0).trans rfl, (blk_cell BK145.out 1).trans rfl, (blk_cell BK145.out 2).trans rfl, (blk_cell BK145.out 3).trans rfl⟩ (fun hHeld => ?_)
                              clear hK K
                              refine norm_ (a' := ?_) ?_ ?_
                              rotate_left
                              · show Act.put _ (some 5) _ = _
                                simp only [Act.put, List.setIfInBounds_toArray, List.set_cons_zero, List.set_cons_succ, i64_w, i32_w]
                                rfl
                              exact norm_ (by first | (simp only [putAll, Act.put, List.setIfInBounds_toArray, List.set_cons_zero, List.set_cons_succ]; done) | (simp only [putAll, Act.put, List.setIfInBounds_toArray, List.set_cons_zero, List.set_cons_succ]; rfl)) (hJ1_4 (gb153) _ ⟨hHeld, (kz BK144), (kz BK145), (kz BK146), (kz BK153), GW153.out, GE153.out, NB144_153.out, NB153_144.out, NB145_153.out, NB153_145.out, NB146_153.out, NB153_146.out, (bw HB)⟩)
                            · skip
                              refine box_step ?hg (N := 6) ?hd (cs := #[.int .i64 0, .int .i64 0]) (t := 25) ?hr ?_; (case hd => rfl); (case hg => rfl); (case hr => first | (go_simp; done) | (go_simp; rfl))
                              intro gb154 hg w37 hbox hb
                              have BK154 := Aside0.mk (hbox)
                              have GW154 := Aside0.mk ((bz HB _ hg : w.heap.size ≤ gb154))
                              have GE154 := Aside0.mk ((bz HB _ hg : w.heap.size ≤ gb154))
                              have NB144_154 := Aside0.mk ((nl BK144 hg : gb144 ≠ gb154))
                              have NB154_144 := Aside0.mk ((ng BK144 hg : gb154 ≠ gb144))
                              have NB145_154 := Aside0.mk ((nl BK145 hg : gb145 ≠ gb154))
                              have NB154_145 := Aside0.mk ((ng BK145 hg : gb154 ≠ gb145))
                              have NB146_154 := Aside0.mk ((nl BK146 hg : gb146 ≠ gb154))
                              have NB154_146 := Aside0.mk ((ng BK146 hg : gb154 ≠ gb146))
                              replace BK144 := Aside0.mk (kb BK144 hb)
                              replace BK145 := Aside0.mk (kb BK145 hb)
                              replace BK146 := Aside0.mk (kb BK146 hb)
                              replace HB := Aside0.mk (below_step (bw HB) hb)
                              clear hb hbox hg
                              refine hK.out _ _ ⟨(blk_cell BK144.out 0).trans rfl, (blk_cell BK144.out 1).trans rfl, (blk_cell BK144.out 2).trans rfl, (blk_cell BK144.out 3).trans rfl, (blk_cell BK145.out 0).trans rfl, (blk_cell BK145.out 1).trans rfl, (blk_cell BK145.out 2).trans rfl, (blk_cell BK145.out 3).trans rfl⟩ (fun hHeld => ?_)
                              clear hK K
                              refine norm_ (a' := ?_) ?_ ?_
                              rotate_left
                              · show Act.put _ (some 6) _ = _
                                simp only [Act.put, List.setIfInBounds_toArray, List.set_cons_zero, List.set_cons_succ, i64_w, i32_w]
                                rfl
                              exact norm_ (by first | (simp only [putAll, Act.put, List.setIfInBounds_toArray, List.set_cons_zero, List.set_cons_succ]; done) | (simp only [putAll, Act.put, List.setIfInBounds_toArray, List.set_cons_zero, List.set_cons_succ]; rfl)) (hJ1_5 (gb154) _ ⟨hHeld, (kz BK144), (kz BK145), (kz BK146), (kz BK154), GW154.out, GE154.out, NB144_154.out, NB154_144.out, NB145_154.out, NB154_145.out, NB146_154.out, NB154_146.out, (bw HB)⟩)
                        · skip
                          rintro ⟨gb153, gb154⟩ w37 ⟨hS_, h0_, h1_, h2_, h3_, h4_, h5_, h6_, h7_, h8_, h9_, h10_, h11_, h12_, h13_, h14_, h15_, h16_, h17_, h18_, h19_, h20_, h21_, h22_, h23_⟩
                          clear BK144 BK145 BK146 HB
                          have BK144 : Aside0 (w37.heap[gb144]? = some (.cells #[.int .i64 a0_0, .int .i64 a0_1, .int .i64 a0_2, .int .i64 a0_3] 47 (0, 0))) := ⟨h0_⟩
                          have BK145 : Aside0 (w37.heap[gb145]? = some (.cells #[.int .i64 a1_0, .int .i64 a1_1, .int .i64 a1_2, .int .i64 a1_3] 47 (0, 0))) := ⟨h1_⟩
                          have BK146 : Aside0 (w37.heap[gb146]? = some (.cells #[.int .i64 0, .int .i64 0, .int .i64 0, .int .i64 0] 47 (0, 0))) := ⟨h2_⟩
                          have BK153 : Aside0 (w37.heap[gb153]? = some (.cells #[.int .i64 0, .int .i64 0] 25 (0, 0))) := ⟨h3_⟩
                          have BK154 : Aside0 (w37.heap[gb154]? = some (.cells #[.int .i64 0, .int .i64 0] 25 (0, 0))) := ⟨h4_⟩
                          have GW153 : Aside0 (w.heap.size ≤ gb153) := ⟨h5_⟩
                          have GE153 : Aside0 (w.heap.size ≤ gb153) := ⟨h6_⟩
                          have NB144_153 : Aside0 (gb144 ≠ gb153) := ⟨h7_⟩
                          have NB153_144 : Aside0 (gb153 ≠ gb144) := ⟨h8_⟩
                          have NB145_153 : Aside0 (gb145 ≠ gb153) := ⟨h9_⟩
                          have NB153_145 : Aside0 (gb153 ≠ gb145) := ⟨h10_⟩
                          have NB146_153 : Aside0 (gb146 ≠ gb153) := ⟨h11_⟩
                          have NB153_146 : Aside0 (gb153 ≠ gb146) := ⟨h12_⟩
                          have NB154_153 : Aside0 (gb154 ≠ gb153) := ⟨h13_⟩
                          have NB153_154 : Aside0 (gb153 ≠ gb154) := ⟨h14_⟩
                          have GW154 : Aside0 (w.heap.size ≤ gb154) := ⟨h15_⟩
                          have GE154 : Aside0 (w.heap.size ≤ gb154) := ⟨h16_⟩
                          have NB144_154 : Aside0 (gb144 ≠ gb154) := ⟨h17_⟩
                          have NB154_144 : Aside0 (gb154 ≠ gb144) := ⟨h18_⟩
                          have NB145_154 : Aside0 (gb145 ≠ gb154) := ⟨h19_⟩
                          have NB154_145 : Aside0 (gb154 ≠ gb145) := ⟨h20_⟩
                          have NB146_154 : Aside0 (gb146 ≠ gb154) := ⟨h21_⟩
                          have NB154_146 : Aside0 (gb154 ≠ gb146) := ⟨h22_⟩
                          have HB : Aside0 (Below w.heap.size w w37) := ⟨h23_⟩
                          clear h0_ h1_ h2_ h3_ h4_ h5_ h6_ h7_ h8_ h9_ h10_ h11_ h12_ h13_ h14_ h15_ h16_ h17_ h18_ h19_ h20_ h21_ h22_ h23_
                          have hHeld : w37.cell? ⟨gb144, 0, none⟩ = some (.int .i64 a0_0) ∧ w37.cell? ⟨gb144, 1, none⟩ = some (.int .i64 a0_1) ∧ w37.cell? ⟨gb144, 2, none⟩ = some (.int .i64 a0_2) ∧ w37.cell? ⟨gb144, 3, none⟩ = some (.int .i64 a0_3) ∧ w37.cell? ⟨gb145, 0, none⟩ = some (.int .i64 a1_0) ∧ w37.cell? ⟨gb145, 1, none⟩ = some (.int .i64 a1_1) ∧ w37.cell? ⟨gb145, 2, none⟩ = some (.int .i64 a1_2) ∧ w37.cell? ⟨gb145, 3, none⟩ = some (.int .i64 a1_3) := hS_
                          refine norm_ (a' := ?_) ?_ ?_
                          rotate_left
                          · simp only [putAll, Act.put, List.setIfInBounds_toArray, List.set_cons_zero, List.set_cons_succ]
                            rfl
                          refine one_ (i := 1) (N := some 18) (bm 8 55) rfl rfl (one_of HT_.out (by kernel_rfl)) (by decide) (fun K hK => ?_)
                          refine goes_ Try.func59 (by kernel_rfl) rfl #[.agg #[.int .i64 a0_0, .int .i64 a0_1, .int .i64 a0_2, .int .i64 a0_3]] (by rfl) rfl rfl (by (try simp only [List.map_toArray, List.map_cons, List.map_nil]); first | done | rfl | (simp only [List.length_drop, List.length_take]; rfl)) ?_
                          with_reducible refine (cell_last.calls a0_0 a0_1 a0_2 a0_3 t149 t150 _ A25.out).mono ?_
                          rintro e w38 ⟨rfl, hb⟩
                          refine ⟨_, rfl, ?_⟩
                          replace BK144 := Aside0.mk (kb BK144 hb)
                          replace BK145 := Aside0.mk (kb BK145 hb)
                          replace BK146 := Aside0.mk (kb BK146 hb)
                          replace BK153 := Aside0.mk (kb BK153 hb)
                          replace BK154 := Aside0.mk (kb BK154 hb)
                          replace HB := Aside0.mk (below_step (bw HB) hb)
                          (try clear hb)
                          (try clear hb2)
                          (try clear hk)
                          (try clear hi)
                          refine hK.out _ _ ⟨(blk_cell BK144.out 0).trans rfl, (blk_cell BK144.out 1).trans rfl, (blk_cell BK144.out 2).trans rfl, (blk_cell BK144.out 3).trans rfl, (blk_cell BK145.out 0).trans rfl, (blk_cell BK145.out 1).trans rfl, (blk_cell BK145.out 2).trans rfl, (blk_cell BK145.out 3).trans rfl⟩ (fun hHeld => ?_)
                          clear hK K
                          refine norm_ (a' := ?_) ?_ ?_
                          rotate_left
                          · show Act.put _ (some 18) _ = _
                            simp only [Act.put, List.setIfInBounds_toArray, List.set_cons_zero, List.set_cons_succ, i64_w, i32_w]
                            rfl
                          exact norm_ (by first | (simp only [putAll, Act.put, List.setIfInBounds_toArray, List.set_cons_zero, List.set_cons_succ]; done) | (simp only [putAll, Act.put, List.setIfInBounds_toArray, List.set_cons_zero, List.set_cons_succ]; rfl)) (hJ1_4_5 (gb153, gb154) _ ⟨hHeld, (kz BK144), (kz BK145), (kz BK146), (kz BK153), (kz BK154), GW153.out, GE153.out, NB144_153.out, NB153_144.out, NB145_153.out, NB153_145.out, NB146_153.out, NB153_146.out, NB154_153.out, NB153_154.out, GW154.out, GE154.out, NB144_154.out, NB154_144.out, NB145_154.out, NB154_145.out, NB146_154.out, NB154_146.out, (bw HB)⟩)
                      · skip
                        rintro gb154 w37 ⟨hS_, h0_, h1_, h2_, h3_, h4_, h5_, h6_, h7_, h8_, h9_, h10_, h11_, h12_⟩
                        clear BK144 BK145 BK146 HB
                        have BK144 : Aside0 (w37.heap[gb144]? = some (.cells #[.int .i64 a0_0, .int .i64 a0_1, .int .i64 a0_2, .int .i64 a0_3] 47 (0, 0))) := ⟨h0_⟩
                        have BK145 : Aside0 (w37.heap[gb145]? = some (.cells #[.int .i64 a1_0, .int .i64 a1_1, .int .i64 a1_2, .int .i64 a1_3] 47 (0, 0))) := ⟨h1_⟩
                        have BK146 : Aside0 (w37.heap[gb146]? = some (.cells #[.int .i64 0, .int .i64 0, .int .i64 0, .int .i64 0] 47 (0, 0))) := ⟨h2_⟩
                        have BK154 : Aside0 (w37.heap[gb154]? = some (.cells #[.int .i64 0, .int .i64 0] 25 (0, 0))) := ⟨h3_⟩
                        have GW154 : Aside0 (w.heap.size ≤ gb154) := ⟨h4_⟩
                        have GE154 : Aside0 (w.heap.size ≤ gb154) := ⟨h5_⟩
                        have NB144_154 : Aside0 (gb144 ≠ gb154) := ⟨h6_⟩
                        have NB154_144 : Aside0 (gb154 ≠ gb144) := ⟨h7_⟩
                        have NB145_154 : Aside0 (gb145 ≠ gb154) := ⟨h8_⟩
                        have NB154_145 : Aside0 (gb154 ≠ gb145) := ⟨h9_⟩
                        have NB146_154 : Aside0 (gb146 ≠ gb154) := ⟨h10_⟩
                        have NB154_146 : Aside0 (gb154 ≠ gb146) := ⟨h11_⟩
                        have HB : Aside0 (Below w.heap.size w w37) := ⟨h12_⟩
                        clear h0_ h1_ h2_ h3_ h4_ h5_ h6_ h7_ h8_ h9_ h10_ h11_ h12_
                        have hHeld : w37.cell? ⟨gb144, 0, none⟩ = some (.int .i64 a0_0) ∧ w37.cell? ⟨gb144, 1, none⟩ = some (.int .i64 a0_1) ∧ w37.cell? ⟨gb144, 2, none⟩ = some (.int .i64 a0_2) ∧ w37.cell? ⟨gb144, 3, none⟩ = some (.int .i64 a0_3) ∧ w37.cell? ⟨gb145, 0, none⟩ = some (.int .i64 a1_0) ∧ w37.cell? ⟨gb145, 1, none⟩ = some (.int .i64 a1_1) ∧ w37.cell? ⟨gb145, 2, none⟩ = some (.int .i64 a1_2) ∧ w37.cell? ⟨gb145, 3, none⟩ = some (.int .i64 a1_3) := hS_
                        refine norm_ (a' := ?_) ?_ ?_
                        rotate_left
                        · simp only [putAll, Act.put, List.setIfInBounds_toArray, List.set_cons_zero, List.set_cons_succ]
                          rfl
                        refine two_ (i := 3) (j := 4) (Ni := some 20) (Nj := some 5) (bm 8 47) (bm 8 55) rfl rfl rfl rfl (two_of HT_.out (by kernel_rfl)) (by decide) (by decide) (fun K hK => ?_) (fun K hK => ?_)
                        · skip
                          refine goes_ Try.func59 (by kernel_rfl) rfl #[.agg #[.int .i64 a1_0, .int .i64 a1_1, .int .i64 a1_2, .int .i64 a1_3]] (by rfl) rfl rfl (by (try simp only [List.map_toArray, List.map_cons, List.map_nil]); first | done | rfl | (simp only [List.length_drop, List.length_take]; rfl)) ?_
                          with_reducible refine (cell_last.calls a1_0 a1_1 a1_2 a1_3 t151 t152 _ A26.out).mono ?_
                          rintro e w38 ⟨rfl, hb⟩
                          refine ⟨_, rfl, ?_⟩
                          replace BK144 := Aside0.mk (kb BK144 hb)
                          replace BK145 := Aside0.mk (kb BK145 hb)
                          replace BK146 := Aside0.mk (kb BK146 hb)
                          replace BK154 := Aside0.mk (kb BK154 hb)
                          replace HB := Aside0.mk (below_step (bw HB) hb)
                          (try clear hb)
                          (try clear hb2)
                          (try clear hk)
                          (try clear hi)
                          refine hK.out _ _ ⟨(blk_cell BK144.out 0).trans rfl, (blk_cell BK144.out 1).trans rfl, (blk_cell BK144.out 2).trans rfl, (blk_cell BK144.out 3).trans rfl, (blk_cell BK145.out 0).trans rfl, (blk_cell BK145.out 1).trans rfl, (blk_cell BK145.out 2).trans rfl, (blk_cell BK145.out 3).trans rfl⟩ (fun hHeld => ?_)
                          clear hK K
                          refine norm_ (a' := ?_) ?_ ?_
                          rotate_left
                          · show Act.put _ (some 20) _ = _
                            simp only [Act.put, List.setIfInBounds_toArray, List.set_cons_zero, List.set_cons_succ, i64_w, i32_w]
                            rfl
                          exact norm_ (by first | (simp only [putAll, Act.put, List.setIfInBounds_toArray, List.set_cons_zero, List.set_cons_succ]; done) | (simp only [putAll, Act.put, List.setIfInBounds_toArray, List.set_cons_zero, List.set_cons_succ]; rfl)) (hJ1_3_5 (gb154) _ ⟨hHeld, (kz BK144), (kz BK145), (kz BK146), (kz BK154), GW154.out, GE154.out, NB144_154.out, NB154_144.out, NB145_154.out, NB154_145.out, NB146_154.out, NB154_146.out, (bw HB)⟩)
                        · skip
                          refine box_step ?hg (N := 5) ?hd (cs := #[.int .i64 0, .int .i64 0]) (t := 25) ?hr ?_; (case hd => rfl); (case hg => rfl); (case hr => first | (go_simp; done) | (go_simp; rfl))
                          intro gb153 hg w38 hbox hb
                          have BK153 := Aside0.mk (hbox)
                          have GW153 := Aside0.mk ((bz HB _ hg : w.heap.size ≤ gb153))
                          have GE153 := Aside0.mk ((bz HB _ hg : w.heap.size ≤ gb153))
                          have NB144_153 := Aside0.mk ((nl BK144 hg : gb144 ≠ gb153))
                          have NB153_144 := Aside0.mk ((ng BK144 hg : gb153 ≠ gb144))
                          have NB145_153 := Aside0.mk ((nl BK145 hg : gb145 ≠ gb153))
                          have NB153_145 := Aside0.mk ((ng BK145 hg : gb153 ≠ gb145))
                          have NB146_153 := Aside0.mk ((nl BK146 hg : gb146 ≠ gb153))
                          have NB153_146 := Aside0.mk ((ng BK146 hg : gb153 ≠ gb146))
                          have NB154_153 := Aside0.mk ((nl BK154 hg : gb154 ≠ gb153))
                          have NB153_154 := Aside0.mk ((ng BK154 hg : gb153 ≠ gb154))
                          replace BK144 := Aside0.mk (kb BK144 hb)
                          replace BK145 := Aside0.mk (kb BK145 hb)
                          replace BK146 := Aside0.mk (kb BK146 hb)
                          replace BK154 := Aside0.mk (kb BK154 hb)
                          replace HB := Aside0.mk (below_step (bw HB) hb)
                          clear hb hbox hg
                          refine hK.out _ _ ⟨(blk_cell BK144.out 0).trans rfl, (blk_cell BK144.out 1).trans rfl, (blk_cell BK144.out 2).trans rfl, (blk_cell BK144.out 3).trans rfl, (blk_cell BK145.out 0).trans rfl, (blk_cell BK145.out 1).trans rfl, (blk_cell BK145.out 2).trans rfl, (blk_cell BK145.out 3).trans rfl⟩ (fun hHeld => ?_)
                          clear hK K
                          refine norm_ (a' := ?_) ?_ ?_
                          rotate_left
                          · show Act.put _ (some 5) _ = _
                            simp only [Act.put, List.setIfInBounds_toArray, List.set_cons_zero, List.set_cons_succ, i64_w, i32_w]
                            rfl
                          exact norm_ (by first | (simp only [putAll, Act.put, List.setIfInBounds_toArray, List.set_cons_zero, List.set_cons_succ]; done) | (simp only [putAll, Act.put, List.setIfInBounds_toArray, List.set_cons_zero, List.set_cons_succ]; rfl)) (hJ1_4_5 (gb153, gb154) _ ⟨hHeld, (kz BK144), (kz BK145), (kz BK146), (kz BK153), (kz BK154), GW153.out, GE153.out, NB144_153.out, NB153_144.out, NB145_153.out, NB153_145.out, NB146_153.out, NB153_146.out, NB154_153.out, NB153_154.out, GW154.out, GE154.out, NB144_154.out, NB154_144.out, NB145_154.out, NB154_145.out, NB146_154.out, NB154_146.out, (bw HB)⟩)
                    · skip
                      rintro gb153 w37 ⟨hS_, h0_, h1_, h2_, h3_, h4_, h5_, h6_, h7_, h8_, h9_, h10_, h11_, h12_⟩
                      clear BK144 BK145 BK146 HB
                      have BK144 : Aside0 (w37.heap[gb144]? = some (.cells #[.int .i64 a0_0, .int .i64 a0_1, .int .i64 a0_2, .int .i64 a0_3] 47 (0, 0))) := ⟨h0_⟩
                      have BK145 : Aside0 (w37.heap[gb145]? = some (.cells #[.int .i64 a1_0, .int .i64 a1_1, .int .i64 a1_2, .int .i64 a1_3] 47 (0, 0))) := ⟨h1_⟩
                      have BK146 : Aside0 (w37.heap[gb146]? = some (.cells #[.int .i64 0, .int .i64 0, .int .i64 0, .int .i64 0] 47 (0, 0))) := ⟨h2_⟩
                      have BK153 : Aside0 (w37.heap[gb153]? = some (.cells #[.int .i64 0, .int .i64 0] 25 (0, 0))) := ⟨h3_⟩
                      have GW153 : Aside0 (w.heap.size ≤ gb153) := ⟨h4_⟩
                      have GE153 : Aside0 (w.heap.size ≤ gb153) := ⟨h5_⟩
                      have NB144_153 : Aside0 (gb144 ≠ gb153) := ⟨h6_⟩
                      have NB153_144 : Aside0 (gb153 ≠ gb144) := ⟨h7_⟩
                      have NB145_153 : Aside0 (gb145 ≠ gb153) := ⟨h8_⟩
                      have NB153_145 : Aside0 (gb153 ≠ gb145) := ⟨h9_⟩
                      have NB146_153 : Aside0 (gb146 ≠ gb153) := ⟨h10_⟩
                      have NB153_146 : Aside0 (gb153 ≠ gb146) := ⟨h11_⟩
                      have HB : Aside0 (Below w.heap.size w w37) := ⟨h12_⟩
                      clear h0_ h1_ h2_ h3_ h4_ h5_ h6_ h7_ h8_ h9_ h10_ h11_ h12_
                      have hHeld : w37.cell? ⟨gb144, 0, none⟩ = some (.int .i64 a0_0) ∧ w37.cell? ⟨gb144, 1, none⟩ = some (.int .i64 a0_1) ∧ w37.cell? ⟨gb144, 2, none⟩ = some (.int .i64 a0_2) ∧ w37.cell? ⟨gb144, 3, none⟩ = some (.int .i64 a0_3) ∧ w37.cell? ⟨gb145, 0, none⟩ = some (.int .i64 a1_0) ∧ w37.cell? ⟨gb145, 1, none⟩ = some (.int .i64 a1_1) ∧ w37.cell? ⟨gb145, 2, none⟩ = some (.int .i64 a1_2) ∧ w37.cell? ⟨gb145, 3, none⟩ = some (.int .i64 a1_3) := hS_
                      refine norm_ (a' := ?_) ?_ ?_
                      rotate_left
                      · simp only [putAll, Act.put, List.setIfInBounds_toArray, List.set_cons_zero, List.set_cons_succ]
                        rfl
                      refine two_ (i := 3) (j := 5) (Ni := some 20) (Nj := some 6) (bm 8 31) (bm 8 55) rfl rfl rfl rfl (two_of HT_.out (by kernel_rfl)) (by decide) (by decide) (fun K hK => ?_) (fun K hK => ?_)
                      · skip
                        refine goes_ Try.func59 (by kernel_rfl) rfl #[.agg #[.int .i64 a1_0, .int .i64 a1_1, .int .i64 a1_2, .int .i64 a1_3]] (by rfl) rfl rfl (by (try simp only [List.map_toArray, List.map_cons, List.map_nil]); first | done | rfl | (simp only [List.length_drop, List.length_take]; rfl)) ?_
                        with_reducible refine (cell_last.calls a1_0 a1_1 a1_2 a1_3 t151 t152 _ A26.out).mono ?_
                        rintro e w38 ⟨rfl, hb⟩
                        refine ⟨_, rfl, ?_⟩
                        replace BK144 := Aside0.mk (kb BK144 hb)
                        replace BK145 := Aside0.mk (kb BK145 hb)
                        replace BK146 := Aside0.mk (kb BK146 hb)
                        replace BK153 := Aside0.mk (kb BK153 hb)
                        replace HB := Aside0.mk (below_step (bw HB) hb)
                        (try clear hb)
                        (try clear hb2)
                        (try clear hk)
                        (try clear hi)
                        refine hK.out _ _ ⟨(blk_cell BK144.out 0).trans rfl, (blk_cell BK144.out 1).trans rfl, (blk_cell BK144.out 2).trans rfl, (blk_cell BK144.out 3).trans rfl, (blk_cell BK145.out 0).trans rfl, (blk_cell BK145.out 1).trans rfl, (blk_cell BK145.out 2).trans rfl, (blk_cell BK145.out 3).trans rfl⟩ (fun hHeld => ?_)
                        clear hK K
                        refine norm_ (a' := ?_) ?_ ?_
                        rotate_left
                        · show Act.put _ (some 20) _ = _
                          simp only [Act.put, List.setIfInBounds_toArray, List.set_cons_zero, List.set_cons_succ, i64_w, i32_w]
                          rfl
                        exact norm_ (by first | (simp only [putAll, Act.put, List.setIfInBounds_toArray, List.set_cons_zero, List.set_cons_succ]; done) | (simp only [putAll, Act.put, List.setIfInBounds_toArray, List.set_cons_zero, List.set_cons_succ]; rfl)) (hJ1_3_4 (gb153) _ ⟨hHeld, (kz BK144), (kz BK145), (kz BK146), (kz BK153), GW153.out, GE153.out, NB144_153.out, NB153_144.out, NB145_153.out, NB153_145.out, NB146_153.out, NB153_146.out, (bw HB)⟩)
                      · skip
                        refine box_step ?hg (N := 6) ?hd (cs := #[.int .i64 0, .int .i64 0]) (t := 25) ?hr ?_; (case hd => rfl); (case hg => rfl); (case hr => first | (go_simp; done) | (go_simp; rfl))
                        intro gb154 hg w38 hbox hb
                        have BK154 := Aside0.mk (hbox)
                        have GW154 := Aside0.mk ((bz HB _ hg : w.heap.size ≤ gb154))
                        have GE154 := Aside0.mk ((bz HB _ hg : w.heap.size ≤ gb154))
                        have NB144_154 := Aside0.mk ((nl BK144 hg : gb144 ≠ gb154))
                        have NB154_144 := Aside0.mk ((ng BK144 hg : gb154 ≠ gb144))
                        have NB145_154 := Aside0.mk ((nl BK145 hg : gb145 ≠ gb154))
                        have NB154_145 := Aside0.mk ((ng BK145 hg : gb154 ≠ gb145))
                        have NB146_154 := Aside0.mk ((nl BK146 hg : gb146 ≠ gb154))
                        have NB154_146 := Aside0.mk ((ng BK146 hg : gb154 ≠ gb146))
                        have NB153_154 := Aside0.mk ((nl BK153 hg : gb153 ≠ gb154))
                        have NB154_153 := Aside0.mk ((ng BK153 hg : gb154 ≠ gb153))
                        replace BK144 := Aside0.mk (kb BK144 hb)
                        replace BK145 := Aside0.mk (kb BK145 hb)
                        replace BK146 := Aside0.mk (kb BK146 hb)
                        replace BK153 := Aside0.mk (kb BK153 hb)
                        replace HB := Aside0.mk (below_step (bw HB) hb)
                        clear hb hbox hg
                        refine hK.out _ _ ⟨(blk_cell BK144.out 0).trans rfl, (blk_cell BK144.out 1).trans rfl, (blk_cell BK144.out 2).trans rfl, (blk_cell BK144.out 3).trans rfl, (blk_cell BK145.out 0).trans rfl, (blk_cell BK145.out 1).trans rfl, (blk_cell BK145.out 2).trans rfl, (blk_cell BK145.out 3).trans rfl⟩ (fun hHeld => ?_)
                        clear hK K
                        refine norm_ (a' := ?_) ?_ ?_
                        rotate_left
                        · show Act.put _ (some 6) _ = _
                          simp only [Act.put, List.setIfInBounds_toArray, List.set_cons_zero, List.set_cons_succ, i64_w, i32_w]
                          rfl
                        exact norm_ (by first | (simp only [putAll, Act.put, List.setIfInBounds_toArray, List.set_cons_zero, List.set_cons_succ]; done) | (simp only [putAll, Act.put, List.setIfInBounds_toArray, List.set_cons_zero, List.set_cons_succ]; rfl)) (hJ1_4_5 (gb153, gb154) _ ⟨hHeld, (kz BK144), (kz BK145), (kz BK146), (kz BK153), (kz BK154), GW153.out, GE153.out, NB144_153.out, NB153_144.out, NB145_153.out, NB153_145.out, NB146_153.out, NB153_146.out, NB154_153.out, NB153_154.out, GW154.out, GE154.out, NB144_154.out, NB154_144.out, NB145_154.out, NB154_145.out, NB146_154.out, NB154_146.out, (bw HB)⟩)
                  · skip
                    rintro _ w37 ⟨hS_, h0_, h1_, h2_, h3_⟩
                    clear BK144 BK145 BK146 HB
                    have BK144 : Aside0 (w37.heap[gb144]? = some (.cells #[.int .i64 a0_0, .int .i64 a0_1, .int .i64 a0_2, .int .i64 a0_3] 47 (0, 0))) := ⟨h0_⟩
                    have BK145 : Aside0 (w37.heap[gb145]? = some (.cells #[.int .i64 a1_0, .int .i64 a1_1, .int .i64 a1_2, .int .i64 a1_3] 47 (0, 0))) := ⟨h1_⟩
                    have BK146 : Aside0 (w37.heap[gb146]? = some (.cells #[.int .i64 0, .int .i64 0, .int .i64 0, .int .i64 0] 47 (0, 0))) := ⟨h2_⟩
                    have HB : Aside0 (Below w.heap.size w w37) := ⟨h3_⟩
                    clear h0_ h1_ h2_ h3_
                    have hHeld : w37.cell? ⟨gb144, 0, none⟩ = some (.int .i64 a0_0) ∧ w37.cell? ⟨gb144, 1, none⟩ = some (.int .i64 a0_1) ∧ w37.cell? ⟨gb144, 2, none⟩ = some (.int .i64 a0_2) ∧ w37.cell? ⟨gb144, 3, none⟩ = some (.int .i64 a0_3) ∧ w37.cell? ⟨gb145, 0, none⟩ = some (.int .i64 a1_0) ∧ w37.cell? ⟨gb145, 1, none⟩ = some (.int .i64 a1_1) ∧ w37.cell? ⟨gb145, 2, none⟩ = some (.int .i64 a1_2) ∧ w37.cell? ⟨gb145, 3, none⟩ = some (.int .i64 a1_3) := hS_
                    refine norm_ (a' := ?_) ?_ ?_
                    rotate_left
                    · simp only [putAll, Act.put, List.setIfInBounds_toArray, List.set_cons_zero, List.set_cons_succ]
                      rfl
                    refine two_ (i := 4) (j := 5) (Ni := some 5) (Nj := some 6) (bm 8 31) (bm 8 47) rfl rfl rfl rfl (two_of HT_.out (by kernel_rfl)) (by decide) (by decide) (fun K hK => ?_) (fun K hK => ?_)
                    · skip
                      refine box_step ?hg (N := 5) ?hd (cs := #[.int .i64 0, .int .i64 0]) (t := 25) ?hr ?_; (case hd => rfl); (case hg => rfl); (case hr => first | (go_simp; done) | (go_simp; rfl))
                      intro gb153 hg w38 hbox hb
                      have BK153 := Aside0.mk (hbox)
                      have GW153 := Aside0.mk ((bz HB _ hg : w.heap.size ≤ gb153))
                      have GE153 := Aside0.mk ((bz HB _ hg : w.heap.size ≤ gb153))
                      have NB144_153 := Aside0.mk ((nl BK144 hg : gb144 ≠ gb153))
                      have NB153_144 := Aside0.mk ((ng BK144 hg : gb153 ≠ gb144))
                      have NB145_153 := Aside0.mk ((nl BK145 hg : gb145 ≠ gb153))
                      have NB153_145 := Aside0.mk ((ng BK145 hg : gb153 ≠ gb145))
                      have NB146_153 := Aside0.mk ((nl BK146 hg : gb146 ≠ gb153))
                      have NB153_146 := Aside0.mk ((ng BK146 hg : gb153 ≠ gb146))
                      replace BK144 := Aside0.mk (kb BK144 hb)
                      replace BK145 := Aside0.mk (kb BK145 hb)
                      replace BK146 := Aside0.mk (kb BK146 hb)
                      replace HB := Aside0.mk (below_step (bw HB) hb)
                      clear hb hbox hg
                      refine hK.out _ _ ⟨(blk_cell BK144.out 0).trans rfl, (blk_cell BK144.out 1).trans rfl, (blk_cell BK144.out 2).trans rfl, (blk_cell BK144.out 3).trans rfl, (blk_cell BK145.out 0).trans rfl, (blk_cell BK145.out 1).trans rfl, (blk_cell BK145.out 2).trans rfl, (blk_cell BK145.out 3).trans rfl⟩ (fun hHeld => ?_)
                      clear hK K
                      refine norm_ (a' := ?_) ?_ ?_
                      rotate_left
                      · show Act.put _ (some 5) _ = _
                        simp only [Act.put, List.setIfInBounds_toArray, List.set_cons_zero, List.set_cons_succ, i64_w, i32_w]
                        rfl
                      exact norm_ (by first | (simp only [putAll, Act.put, List.setIfInBounds_toArray, List.set_cons_zero, List.set_cons_succ]; done) | (simp only [putAll, Act.put, List.setIfInBounds_toArray, List.set_cons_zero, List.set_cons_succ]; rfl)) (hJ1_3_4 (gb153) _ ⟨hHeld, (kz BK144), (kz BK145), (kz BK146), (kz BK153), GW153.out, GE153.out, NB144_153.out, NB153_144.out, NB145_153.out, NB153_145.out, NB146_153.out, NB153_146.out, (bw HB)⟩)
                    · skip
                      refine box_step ?hg (N := 6) ?hd (cs := #[.int .i64 0, .int .i64 0]) (t := 25) ?hr ?_; (case hd => rfl); (case hg => rfl); (case hr => first | (go_simp; done) | (go_simp; rfl))
                      intro gb154 hg w38 hbox hb
                      have BK154 := Aside0.mk (hbox)
                      have GW154 := Aside0.mk ((bz HB _ hg : w.heap.size ≤ gb154))
                      have GE154 := Aside0.mk ((bz HB _ hg : w.heap.size ≤ gb154))
                      have NB144_154 := Aside0.mk ((nl BK144 hg : gb144 ≠ gb154))
                      have NB154_144 := Aside0.mk ((ng BK144 hg : gb154 ≠ gb144))
                      have NB145_154 := Aside0.mk ((nl BK145 hg : gb145 ≠ gb154))
                      have NB154_145 := Aside0.mk ((ng BK145 hg : gb154 ≠ gb145))
                      have NB146_154 := Aside0.mk ((nl BK146 hg : gb146 ≠ gb154))
                      have NB154_146 := Aside0.mk ((ng BK146 hg : gb154 ≠ gb146))
                      replace BK144 := Aside0.mk (kb BK144 hb)
                      replace BK145 := Aside0.mk (kb BK145 hb)
                      replace BK146 := Aside0.mk (kb BK146 hb)
                      replace HB := Aside0.mk (below_step (bw HB) hb)
                      clear hb hbox hg
                      refine hK.out _ _ ⟨(blk_cell BK144.out 0).trans rfl, (blk_cell BK144.out 1).trans rfl, (blk_cell BK144.out 2).trans rfl, (blk_cell BK144.out 3).trans rfl, (blk_cell BK145.out 0).trans rfl, (blk_cell BK145.out 1).trans rfl, (blk_cell BK145.out 2).trans rfl, (blk_cell BK145.out 3).trans rfl⟩ (fun hHeld => ?_)
                      clear hK K
                      refine norm_ (a' := ?_) ?_ ?_
                      rotate_left
                      · show Act.put _ (some 6) _ = _
                        simp only [Act.put, List.setIfInBounds_toArray, List.set_cons_zero, List.set_cons_succ, i64_w, i32_w]
                        rfl
                      exact norm_ (by first | (simp only [putAll, Act.put, List.setIfInBounds_toArray, List.set_cons_zero, List.set_cons_succ]; done) | (simp only [putAll, Act.put, List.setIfInBounds_toArray, List.set_cons_zero, List.set_cons_succ]; rfl)) (hJ1_3_5 (gb154) _ ⟨hHeld, (kz BK144), (kz BK145), (kz BK146), (kz BK154), GW154.out, GE154.out, NB144_154.out, NB154_144.out, NB145_154.out, NB154_145.out, NB146_154.out, NB154_146.out, (bw HB)⟩)
                · skip
                  rintro ⟨gb153, gb154⟩ w38 ⟨hS_, h0_, h1_, h2_, h3_, h4_, h5_, h6_, h7_, h8_, h9_, h10_, h11_, h12_, h13_, h14_, h15_, h16_, h17_, h18_, h19_, h20_, h21_, h22_, h23_⟩
                  clear BK144 BK145 BK146 HB
                  have BK144 : Aside0 (w38.heap[gb144]? = some (.cells #[.int .i64 a0_0, .int .i64 a0_1, .int .i64 a0_2, .int .i64 a0_3] 47 (0, 0))) := ⟨h0_⟩
                  have BK145 : Aside0 (w38.heap[gb145]? = some (.cells #[.int .i64 a1_0, .int .i64 a1_1, .int .i64 a1_2, .int .i64 a1_3] 47 (0, 0))) := ⟨h1_⟩
                  have BK146 : Aside0 (w38.heap[gb146]? = some (.cells #[.int .i64 0, .int .i64 0, .int .i64 0, .int .i64 0] 47 (0, 0))) := ⟨h2_⟩
                  have BK153 : Aside0 (w38.heap[gb153]? = some (.cells #[.int .i64 0, .int .i64 0] 25 (0, 0))) := ⟨h3_⟩
                  have BK154 : Aside0 (w38.heap[gb154]? = some (.cells #[.int .i64 0, .int .i64 0] 25 (0, 0))) := ⟨h4_⟩
                  have GW153 : Aside0 (w.heap.size ≤ gb153) := ⟨h5_⟩
                  have GE153 : Aside0 (w.heap.size ≤ gb153) := ⟨h6_⟩
                  have NB144_153 : Aside0 (gb144 ≠ gb153) := ⟨h7_⟩
                  have NB153_144 : Aside0 (gb153 ≠ gb144) := ⟨h8_⟩
                  have NB145_153 : Aside0 (gb145 ≠ gb153) := ⟨h9_⟩
                  have NB153_145 : Aside0 (gb153 ≠ gb145) := ⟨h10_⟩
                  have NB146_153 : Aside0 (gb146 ≠ gb153) := ⟨h11_⟩
                  have NB153_146 : Aside0 (gb153 ≠ gb146) := ⟨h12_⟩
                  have NB154_153 : Aside0 (gb154 ≠ gb153) := ⟨h13_⟩
                  have NB153_154 : Aside0 (gb153 ≠ gb154) := ⟨h14_⟩
                  have GW154 : Aside0 (w.heap.size ≤ gb154) := ⟨h15_⟩
                  have GE154 : Aside0 (w.heap.size ≤ gb154) := ⟨h16_⟩
                  have NB144_154 : Aside0 (gb144 ≠ gb154) := ⟨h17_⟩
                  have NB154_144 : Aside0 (gb154 ≠ gb144) := ⟨h18_⟩
                  have NB145_154 : Aside0 (gb145 ≠ gb154) := ⟨h19_⟩
                  have NB154_145 : Aside0 (gb154 ≠ gb145) := ⟨h20_⟩
                  have NB146_154 : Aside0 (gb146 ≠ gb154) := ⟨h21_⟩
                  have NB154_146 : Aside0 (gb154 ≠ gb146) := ⟨h22_⟩
                  have HB : Aside0 (Below w.heap.size w w38) := ⟨h23_⟩
                  clear h0_ h1_ h2_ h3_ h4_ h5_ h6_ h7_ h8_ h9_ h10_ h11_ h12_ h13_ h14_ h15_ h16_ h17_ h18_ h19_ h20_ h21_ h22_ h23_
                  have hHeld : w38.cell? ⟨gb144, 0, none⟩ = some (.int .i64 a0_0) ∧ w38.cell? ⟨gb144, 1, none⟩ = some (.int .i64 a0_1) ∧ w38.cell? ⟨gb144, 2, none⟩ = some (.int .i64 a0_2) ∧ w38.cell? ⟨gb144, 3, none⟩ = some (.int .i64 a0_3) ∧ w38.cell? ⟨gb145, 0, none⟩ = some (.int .i64 a1_0) ∧ w38.cell? ⟨gb145, 1, none⟩ = some (.int .i64 a1_1) ∧ w38.cell? ⟨gb145, 2, none⟩ = some (.int .i64 a1_2) ∧ w38.cell? ⟨gb145, 3, none⟩ = some (.int .i64 a1_3) := hS_
                  refine norm_ (a' := ?_) ?_ ?_
                  rotate_left
                  · simp only [putAll, Act.put, List.setIfInBounds_toArray, List.set_cons_zero, List.set_cons_succ]
                    rfl
                  refine one_ (i := 3) (N := some 20) (bm 8 63) rfl rfl (one_of HT_.out (by kernel_rfl)) (by decide) (fun K hK => ?_)
                  refine goes_ Try.func59 (by kernel_rfl) rfl #[.agg #[.int .i64 a1_0, .int .i64 a1_1, .int .i64 a1_2, .int .i64 a1_3]] (by rfl) rfl rfl (by (try simp only [List.map_toArray, List.map_cons, List.map_nil]); first | done | rfl | (simp only [List.length_drop, List.length_take]; rfl)) ?_
                  with_reducible refine (cell_last.calls a1_0 a1_1 a1_2 a1_3 t151 t152 _ A26.out).mono ?_
                  rintro e w39 ⟨rfl, hb⟩
                  refine ⟨_, rfl, ?_⟩
                  replace BK144 := Aside0.mk (kb BK144 hb)
                  replace BK145 := Aside0.mk (kb BK145 hb)
                  replace BK146 := Aside0.mk (kb BK146 hb)
                  replace BK153 := Aside0.mk (kb BK153 hb)
                  replace BK154 := Aside0.mk (kb BK154 hb)
                  replace HB := Aside0.mk (below_step (bw HB) hb)
                  (try clear hb)
                  (try clear hb2)
                  (try clear hk)
                  (try clear hi)
                  refine hK.out _ _ ⟨(blk_cell BK144.out 0).trans rfl, (blk_cell BK144.out 1).trans rfl, (blk_cell BK144.out 2).trans rfl, (blk_cell BK144.out 3).trans rfl, (blk_cell BK145.out 0).trans rfl, (blk_cell BK145.out 1).trans rfl, (blk_cell BK145.out 2).trans rfl, (blk_cell BK145.out 3).trans rfl⟩ (fun hHeld => ?_)
                  clear hK K
                  refine norm_ (a' := ?_) ?_ ?_
                  rotate_left
                  · show Act.put _ (some 20) _ = _
                    simp only [Act.put, List.setIfInBounds_toArray, List.set_cons_zero, List.set_cons_succ, i64_w, i32_w]
                    rfl
                  exact norm_ (by first | (simp only [putAll, Act.put, List.setIfInBounds_toArray, List.set_cons_zero, List.set_cons_succ]; done) | (simp only [putAll, Act.put, List.setIfInBounds_toArray, List.set_cons_zero, List.set_cons_succ]; rfl)) (hJ1_3_4_5 (gb153, gb154) _ ⟨hHeld, (kz BK144), (kz BK145), (kz BK146), (kz BK153), (kz BK154), GW153.out, GE153.out, NB144_153.out, NB153_144.out, NB145_153.out, NB153_145.out, NB146_153.out, NB153_146.out, NB154_153.out, NB153_154.out, GW154.out, GE154.out, NB144_154.out, NB154_144.out, NB145_154.out, NB154_145.out, NB146_154.out, NB154_146.out, (bw HB)⟩)
              · skip
                rintro gb154 w38 ⟨hS_, h0_, h1_, h2_, h3_, h4_, h5_, h6_, h7_, h8_, h9_, h10_, h11_, h12_⟩
                clear BK144 BK145 BK146 HB
                have BK144 : Aside0 (w38.heap[gb144]? = some (.cells #[.int .i64 a0_0, .int .i64 a0_1, .int .i64 a0_2, .int .i64 a0_3] 47 (0, 0))) := ⟨h0_⟩
                have BK145 : Aside0 (w38.heap[gb145]? = some (.cells #[.int .i64 a1_0, .int .i64 a1_1, .int .i64 a1_2, .int .i64 a1_3] 47 (0, 0))) := ⟨h1_⟩
                have BK146 : Aside0 (w38.heap[gb146]? = some (.cells #[.int .i64 0, .int .i64 0, .int .i64 0, .int .i64 0] 47 (0, 0))) := ⟨h2_⟩
                have BK154 : Aside0 (w38.heap[gb154]? = some (.cells #[.int .i64 0, .int .i64 0] 25 (0, 0))) := ⟨h3_⟩
                have GW154 : Aside0 (w.heap.size ≤ gb154) := ⟨h4_⟩
                have GE154 : Aside0 (w.heap.size ≤ gb154) := ⟨h5_⟩
                have NB144_154 : Aside0 (gb144 ≠ gb154) := ⟨h6_⟩
                have NB154_144 : Aside0 (gb154 ≠ gb144) := ⟨h7_⟩
                have NB145_154 : Aside0 (gb145 ≠ gb154) := ⟨h8_⟩
                have NB154_145 : Aside0 (gb154 ≠ gb145) := ⟨h9_⟩
                have NB146_154 : Aside0 (gb146 ≠ gb154) := ⟨h10_⟩
                have NB154_146 : Aside0 (gb154 ≠ gb146) := ⟨h11_⟩
                have HB : Aside0 (Below w.heap.size w w38) := ⟨h12_⟩
                clear h0_ h1_ h2_ h3_ h4_ h5_ h6_ h7_ h8_ h9_ h10_ h11_ h12_
                have hHeld : w38.cell? ⟨gb144, 0, none⟩ = some (.int .i64 a0_0) ∧ w38.cell? ⟨gb144, 1, none⟩ = some (.int .i64 a0_1) ∧ w38.cell? ⟨gb144, 2, none⟩ = some (.int .i64 a0_2) ∧ w38.cell? ⟨gb144, 3, none⟩ = some (.int .i64 a0_3) ∧ w38.cell? ⟨gb145, 0, none⟩ = some (.int .i64 a1_0) ∧ w38.cell? ⟨gb145, 1, none⟩ = some (.int .i64 a1_1) ∧ w38.cell? ⟨gb145, 2, none⟩ = some (.int .i64 a1_2) ∧ w38.cell? ⟨gb145, 3, none⟩ = some (.int .i64 a1_3) := hS_
                refine norm_ (a' := ?_) ?_ ?_
                rotate_left
                · simp only [putAll, Act.put, List.setIfInBounds_toArray, List.set_cons_zero, List.set_cons_succ]
                  rfl
                refine one_ (i := 4) (N := some 5) (bm 8 63) rfl rfl (one_of HT_.out (by kernel_rfl)) (by decide) (fun K hK => ?_)
                refine box_step ?hg (N := 5) ?hd (cs := #[.int .i64 0, .int .i64 0]) (t := 25) ?hr ?_; (case hd => rfl); (case hg => rfl); (case hr => first | (go_simp; done) | (go_simp; rfl))
                intro gb153 hg w39 hbox hb
                have BK153 := Aside0.mk (hbox)
                have GW153 := Aside0.mk ((bz HB _ hg : w.heap.size ≤ gb153))
                have GE153 := Aside0.mk ((bz HB _ hg : w.heap.size ≤ gb153))
                have NB144_153 := Aside0.mk ((nl BK144 hg : gb144 ≠ gb153))
                have NB153_144 := Aside0.mk ((ng BK144 hg : gb153 ≠ gb144))
                have NB145_153 := Aside0.mk ((nl BK145 hg : gb145 ≠ gb153))
                have NB153_145 := Aside0.mk ((ng BK145 hg : gb153 ≠ gb145))
                have NB146_153 := Aside0.mk ((nl BK146 hg : gb146 ≠ gb153))
                have NB153_146 := Aside0.mk ((ng BK146 hg : gb153 ≠ gb146))
                have NB154_153 := Aside0.mk ((nl BK154 hg : gb154 ≠ gb153))
                have NB153_154 := Aside0.mk ((ng BK154 hg : gb153 ≠ gb154))
                replace BK144 := Aside0.mk (kb BK144 hb)
                replace BK145 := Aside0.mk (kb BK145 hb)
                replace BK146 := Aside0.mk (kb BK146 hb)
                replace BK154 := Aside0.mk (kb BK154 hb)
                replace HB := Aside0.mk (below_step (bw HB) hb)
                clear hb hbox hg
                refine hK.out _ _ ⟨(blk_cell BK144.out 0).trans rfl, (blk_cell BK144.out 1).trans rfl, (blk_cell BK144.out 2).trans rfl, (blk_cell BK144.out 3).trans rfl, (blk_cell BK145.out 0).trans rfl, (blk_cell BK145.out 1).trans rfl, (blk_cell BK145.out 2).trans rfl, (blk_cell BK145.out 3).trans rfl⟩ (fun hHeld => ?_)
                clear hK K
                refine norm_ (a' := ?_) ?_ ?_
                rotate_left
                · show Act.put _ (some 5) _ = _
                  simp only [Act.put, List.setIfInBounds_toArray, List.set_cons_zero, List.set_cons_succ, i64_w, i32_w]
                  rfl
                exact norm_ (by first | (simp only [putAll, Act.put, List.setIfInBounds_toArray, List.set_cons_zero, List.set_cons_succ]; done) | (simp only [putAll, Act.put, List.setIfInBounds_toArray, List.set_cons_zero, List.set_cons_succ]; rfl)) (hJ1_3_4_5 (gb153, gb154) _ ⟨hHeld, (kz BK144), (kz BK145), (kz BK146), (kz BK153), (kz BK154), GW153.out, GE153.out, NB144_153.out, NB153_144.out, NB145_153.out, NB153_145.out, NB146_153.out, NB153_146.out, NB154_153.out, NB153_154.out, GW154.out, GE154.out, NB144_154.out, NB154_144.out, NB145_154.out, NB154_145.out, NB146_154.out, NB154_146.out, (bw HB)⟩)
            · skip
              rintro gb153 w38 ⟨hS_, h0_, h1_, h2_, h3_, h4_, h5_, h6_, h7_, h8_, h9_, h10_, h11_, h12_⟩
              clear BK144 BK145 BK146 HB
              have BK144 : Aside0 (w38.heap[gb144]? = some (.cells #[.int .i64 a0_0, .int .i64 a0_1, .int .i64 a0_2, .int .i64 a0_3] 47 (0, 0))) := ⟨h0_⟩
              have BK145 : Aside0 (w38.heap[gb145]? = some (.cells #[.int .i64 a1_0, .int .i64 a1_1, .int .i64 a1_2, .int .i64 a1_3] 47 (0, 0))) := ⟨h1_⟩
              have BK146 : Aside0 (w38.heap[gb146]? = some (.cells #[.int .i64 0, .int .i64 0, .int .i64 0, .int .i64 0] 47 (0, 0))) := ⟨h2_⟩
              have BK153 : Aside0 (w38.heap[gb153]? = some (.cells #[.int .i64 0, .int .i64 0] 25 (0, 0))) := ⟨h3_⟩
              have GW153 : Aside0 (w.heap.size ≤ gb153) := ⟨h4_⟩
              have GE153 : Aside0 (w.heap.size ≤ gb153) := ⟨h5_⟩
              have NB144_153 : Aside0 (gb144 ≠ gb153) := ⟨h6_⟩
              have NB153_144 : Aside0 (gb153 ≠ gb144) := ⟨h7_⟩
              have NB145_153 : Aside0 (gb145 ≠ gb153) := ⟨h8_⟩
              have NB153_145 : Aside0 (gb153 ≠ gb145) := ⟨h9_⟩
              have NB146_153 : Aside0 (gb146 ≠ gb153) := ⟨h10_⟩
              have NB153_146 : Aside0 (gb153 ≠ gb146) := ⟨h11_⟩
              have HB : Aside0 (Below w.heap.size w w38) := ⟨h12_⟩
              clear h0_ h1_ h2_ h3_ h4_ h5_ h6_ h7_ h8_ h9_ h10_ h11_ h12_
              have hHeld : w38.cell? ⟨gb144, 0, none⟩ = some (.int .i64 a0_0) ∧ w38.cell? ⟨gb144, 1, none⟩ = some (.int .i64 a0_1) ∧ w38.cell? ⟨gb144, 2, none⟩ = some (.int .i64 a0_2) ∧ w38.cell? ⟨gb144, 3, none⟩ = some (.int .i64 a0_3) ∧ w38.cell? ⟨gb145, 0, none⟩ = some (.int .i64 a1_0) ∧ w38.cell? ⟨gb145, 1, none⟩ = some (.int .i64 a1_1) ∧ w38.cell? ⟨gb145, 2, none⟩ = some (.int .i64 a1_2) ∧ w38.cell? ⟨gb145, 3, none⟩ = some (.int .i64 a1_3) := hS_
              refine norm_ (a' := ?_) ?_ ?_
              rotate_left
              · simp only [putAll, Act.put, List.setIfInBounds_toArray, List.set_cons_zero, List.set_cons_succ]
                rfl
              refine one_ (i := 5) (N := some 6) (bm 8 63) rfl rfl (one_of HT_.out (by kernel_rfl)) (by decide) (fun K hK => ?_)
              refine box_step ?hg (N := 6) ?hd (cs := #[.int .i64 0, .int .i64 0]) (t := 25) ?hr ?_; (case hd => rfl); (case hg => rfl); (case hr => first | (go_simp; done) | (go_simp; rfl))
              intro gb154 hg w39 hbox hb
              have BK154 := Aside0.mk (hbox)
              have GW154 := Aside0.mk ((bz HB _ hg : w.heap.size ≤ gb154))
              have GE154 := Aside0.mk ((bz HB _ hg : w.heap.size ≤ gb154))
              have NB144_154 := Aside0.mk ((nl BK144 hg : gb144 ≠ gb154))
              have NB154_144 := Aside0.mk ((ng BK144 hg : gb154 ≠ gb144))
              have NB145_154 := Aside0.mk ((nl BK145 hg : gb145 ≠ gb154))
              have NB154_145 := Aside0.mk ((ng BK145 hg : gb154 ≠ gb145))
              have NB146_154 := Aside0.mk ((nl BK146 hg : gb146 ≠ gb154))
              have NB154_146 := Aside0.mk ((ng BK146 hg : gb154 ≠ gb146))
              have NB153_154 := Aside0.mk ((nl BK153 hg : gb153 ≠ gb154))
              have NB154_153 := Aside0.mk ((ng BK153 hg : gb154 ≠ gb153))
              replace BK144 := Aside0.mk (kb BK144 hb)
              replace BK145 := Aside0.mk (kb BK145 hb)
              replace BK146 := Aside0.mk (kb BK146 hb)
              replace BK153 := Aside0.mk (kb BK153 hb)
              replace HB := Aside0.mk (below_step (bw HB) hb)
              clear hb hbox hg
              refine hK.out _ _ ⟨(blk_cell BK144.out 0).trans rfl, (blk_cell BK144.out 1).trans rfl, (blk_cell BK144.out 2).trans rfl, (blk_cell BK144.out 3).trans rfl, (blk_cell BK145.out 0).trans rfl, (blk_cell BK145.out 1).trans rfl, (blk_cell BK145.out 2).trans rfl, (blk_cell BK145.out 3).trans rfl⟩ (fun hHeld => ?_)
              clear hK K
              refine norm_ (a' := ?_) ?_ ?_
              rotate_left
              · show Act.put _ (some 6) _ = _
                simp only [Act.put, List.setIfInBounds_toArray, List.set_cons_zero, List.set_cons_succ, i64_w, i32_w]
                rfl
              exact norm_ (by first | (simp only [putAll, Act.put, List.setIfInBounds_toArray, List.set_cons_zero, List.set_cons_succ]; done) | (simp only [putAll, Act.put, List.setIfInBounds_toArray, List.set_cons_zero, List.set_cons_succ]; rfl)) (hJ1_3_4_5 (gb153, gb154) _ ⟨hHeld, (kz BK144), (kz BK145), (kz BK146), (kz BK153), (kz BK154), GW153.out, GE153.out, NB144_153.out, NB153_144.out, NB145_153.out, NB153_145.out, NB146_153.out, NB153_146.out, NB154_153.out, NB153_154.out, GW154.out, GE154.out, NB144_154.out, NB154_144.out, NB145_154.out, NB154_145.out, NB146_154.out, NB154_146.out, (bw HB)⟩)
          rintro ⟨gb153, gb154⟩ w39 ⟨hS_, h0_, h1_, h2_, h3_, h4_, h5_, h6_, h7_, h8_, h9_, h10_, h11_, h12_, h13_, h14_, h15_, h16_, h17_, h18_, h19_, h20_, h21_, h22_, h23_⟩
          clear BK144 BK145 BK146 HB
          have BK144 : Aside0 (w39.heap[gb144]? = some (.cells #[.int .i64 a0_0, .int .i64 a0_1, .int .i64 a0_2, .int .i64 a0_3] 47 (0, 0))) := ⟨h0_⟩
          have BK145 : Aside0 (w39.heap[gb145]? = some (.cells #[.int .i64 a1_0, .int .i64 a1_1, .int .i64 a1_2, .int .i64 a1_3] 47 (0, 0))) := ⟨h1_⟩
          have BK146 : Aside0 (w39.heap[gb146]? = some (.cells #[.int .i64 0, .int .i64 0, .int .i64 0, .int .i64 0] 47 (0, 0))) := ⟨h2_⟩
          have BK153 : Aside0 (w39.heap[gb153]? = some (.cells #[.int .i64 0, .int .i64 0] 25 (0, 0))) := ⟨h3_⟩
          have BK154 : Aside0 (w39.heap[gb154]? = some (.cells #[.int .i64 0, .int .i64 0] 25 (0, 0))) := ⟨h4_⟩
          have GW153 : Aside0 (w.heap.size ≤ gb153) := ⟨h5_⟩
          have GE153 : Aside0 (w.heap.size ≤ gb153) := ⟨h6_⟩
          have NB144_153 : Aside0 (gb144 ≠ gb153) := ⟨h7_⟩
          have NB153_144 : Aside0 (gb153 ≠ gb144) := ⟨h8_⟩
          have NB145_153 : Aside0 (gb145 ≠ gb153) := ⟨h9_⟩
          have NB153_145 : Aside0 (gb153 ≠ gb145) := ⟨h10_⟩
          have NB146_153 : Aside0 (gb146 ≠ gb153) := ⟨h11_⟩
          have NB153_146 : Aside0 (gb153 ≠ gb146) := ⟨h12_⟩
          have NB154_153 : Aside0 (gb154 ≠ gb153) := ⟨h13_⟩
          have NB153_154 : Aside0 (gb153 ≠ gb154) := ⟨h14_⟩
          have GW154 : Aside0 (w.heap.size ≤ gb154) := ⟨h15_⟩
          have GE154 : Aside0 (w.heap.size ≤ gb154) := ⟨h16_⟩
          have NB144_154 : Aside0 (gb144 ≠ gb154) := ⟨h17_⟩
          have NB154_144 : Aside0 (gb154 ≠ gb144) := ⟨h18_⟩
          have NB145_154 : Aside0 (gb145 ≠ gb154) := ⟨h19_⟩
          have NB154_145 : Aside0 (gb154 ≠ gb145) := ⟨h20_⟩
          have NB146_154 : Aside0 (gb146 ≠ gb154) := ⟨h21_⟩
          have NB154_146 : Aside0 (gb154 ≠ gb146) := ⟨h22_⟩
          have HB : Aside0 (Below w.heap.size w w39) := ⟨h23_⟩
          clear h0_ h1_ h2_ h3_ h4_ h5_ h6_ h7_ h8_ h9_ h10_ h11_ h12_ h13_ h14_ h15_ h16_ h17_ h18_ h19_ h20_ h21_ h22_ h23_
          have hHeld : w39.cell? ⟨gb144, 0, none⟩ = some (.int .i64 a0_0) ∧ w39.cell? ⟨gb144, 1, none⟩ = some (.int .i64 a0_1) ∧ w39.cell? ⟨gb144, 2, none⟩ = some (.int .i64 a0_2) ∧ w39.cell? ⟨gb144, 3, none⟩ = some (.int .i64 a0_3) ∧ w39.cell? ⟨gb145, 0, none⟩ = some (.int .i64 a1_0) ∧ w39.cell? ⟨gb145, 1, none⟩ = some (.int .i64 a1_1) ∧ w39.cell? ⟨gb145, 2, none⟩ = some (.int .i64 a1_2) ∧ w39.cell? ⟨gb145, 3, none⟩ = some (.int .i64 a1_3) := hS_
          refine norm_ (a' := ?_) ?_ ?_
          rotate_left
          · simp only [putAll, Act.put, List.setIfInBounds_toArray, List.set_cons_zero, List.set_cons_succ]
            rfl
          refine one_ (i := 6) (N := none) (bm 8 127) rfl rfl (one_of HT_.out (by kernel_rfl)) (by decide) (fun K hK => ?_)
          have hs40 : w39.cell? ⟨gb153, 0, none⟩ = some (.int .i64 0) := (blk_cell BK153.out 0).trans rfl
          have hfs40 := blk_frozen BK153.out 0
          have hns40_0 := NB144_153.out
          have hns40_1 := NB145_153.out
          have hns40_2 := NB146_153.out
          have hns40_4 := NB154_153.out
          have hms40_0 := NB153_144.out
          have hms40_1 := NB153_145.out
          have hms40_2 := NB153_146.out
          have hms40_4 := NB153_154.out
          have hs41 : w39.cell? ⟨gb153, 1, none⟩ = some (.int .i64 0) := (blk_cell BK153.out 1).trans rfl
          have hfs41 := blk_frozen BK153.out 1
          have hns41_0 := NB144_153.out
          have hns41_1 := NB145_153.out
          have hns41_2 := NB146_153.out
          have hns41_4 := NB154_153.out
          have hms41_0 := NB153_144.out
          have hms41_1 := NB153_145.out
          have hms41_2 := NB153_146.out
          have hms41_4 := NB153_154.out
          refine skip_ (w1 := ?_) (by rfl) rfl ?_ ?_
          rotate_left
          · go_simp
            rfl
          refine hK.out _ _ ⟨((cell_far (p := ⟨gb153, _, none⟩) NB144_153.out _).trans (((cell_far (p := ⟨gb153, _, none⟩) NB144_153.out _).trans (hHeld.1)))), ((cell_far (p := ⟨gb153, _, none⟩) NB144_153.out _).trans (((cell_far (p := ⟨gb153, _, none⟩) NB144_153.out _).trans (hHeld.2.1)))), ((cell_far (p := ⟨gb153, _, none⟩) NB144_153.out _).trans (((cell_far (p := ⟨gb153, _, none⟩) NB144_153.out _).trans (hHeld.2.2.1)))), ((cell_far (p := ⟨gb153, _, none⟩) NB144_153.out _).trans (((cell_far (p := ⟨gb153, _, none⟩) NB144_153.out _).trans (hHeld.2.2.2.1)))), ((cell_far (p := ⟨gb153, _, none⟩) NB145_153.out _).trans (((cell_far (p := ⟨gb153, _, none⟩) NB145_153.out _).trans (hHeld.2.2.2.2.1)))), ((cell_far (p := ⟨gb153, _, none⟩) NB145_153.out _).trans (((cell_far (p := ⟨gb153, _, none⟩) NB145_153.out _).trans (hHeld.2.2.2.2.2.1)))), ((cell_far (p := ⟨gb153, _, none⟩) NB145_153.out _).trans (((cell_far (p := ⟨gb153, _, none⟩) NB145_153.out _).trans (hHeld.2.2.2.2.2.2.1)))), ((cell_far (p := ⟨gb153, _, none⟩) NB145_153.out _).trans (((cell_far (p := ⟨gb153, _, none⟩) NB145_153.out _).trans (hHeld.2.2.2.2.2.2.2))))⟩ (fun hHeld => ?_)
          clear hK K
          refine one_ (i := 7) (N := none) (bm 8 255) rfl rfl (one_of HT_.out (by kernel_rfl)) (by decide) (fun K hK => ?_)
          have hs42 : w39.cell? ⟨gb154, 0, none⟩ = some (.int .i64 0) := (blk_cell BK154.out 0).trans rfl
          have hfs42 := blk_frozen BK154.out 0
          have hns42_0 := NB144_154.out
          have hns42_1 := NB145_154.out
          have hns42_2 := NB146_154.out
          have hns42_3 := NB153_154.out
          have hms42_0 := NB154_144.out
          have hms42_1 := NB154_145.out
          have hms42_2 := NB154_146.out
          have hms42_3 := NB154_153.out
          have hs43 : w39.cell? ⟨gb154, 1, none⟩ = some (.int .i64 0) := (blk_cell BK154.out 1).trans rfl
          have hfs43 := blk_frozen BK154.out 1
          have hns43_0 := NB144_154.out
          have hns43_1 := NB145_154.out
          have hns43_2 := NB146_154.out
          have hns43_3 := NB153_154.out
          have hms43_0 := NB154_144.out
          have hms43_1 := NB154_145.out
          have hms43_2 := NB154_146.out
          have hms43_3 := NB154_153.out
          refine skip_ (w1 := ?_) (by rfl) rfl ?_ ?_
          rotate_left
          · go_simp
            rfl
          refine hK.out _ _ ⟨((cell_far (p := ⟨gb154, _, none⟩) NB144_154.out _).trans (((cell_far (p := ⟨gb154, _, none⟩) NB144_154.out _).trans (hHeld.1)))), ((cell_far (p := ⟨gb154, _, none⟩) NB144_154.out _).trans (((cell_far (p := ⟨gb154, _, none⟩) NB144_154.out _).trans (hHeld.2.1)))), ((cell_far (p := ⟨gb154, _, none⟩) NB144_154.out _).trans (((cell_far (p := ⟨gb154, _, none⟩) NB144_154.out _).trans (hHeld.2.2.1)))), ((cell_far (p := ⟨gb154, _, none⟩) NB144_154.out _).trans (((cell_far (p := ⟨gb154, _, none⟩) NB144_154.out _).trans (hHeld.2.2.2.1)))), ((cell_far (p := ⟨gb154, _, none⟩) NB145_154.out _).trans (((cell_far (p := ⟨gb154, _, none⟩) NB145_154.out _).trans (hHeld.2.2.2.2.1)))), ((cell_far (p := ⟨gb154, _, none⟩) NB145_154.out _).trans (((cell_far (p := ⟨gb154, _, none⟩) NB145_154.out _).trans (hHeld.2.2.2.2.2.1)))), ((cell_far (p := ⟨gb154, _, none⟩) NB145_154.out _).trans (((cell_far (p := ⟨gb154, _, none⟩) NB145_154.out _).trans (hHeld.2.2.2.2.2.2.1)))), ((cell_far (p := ⟨gb154, _, none⟩) NB145_154.out _).trans (((cell_far (p := ⟨gb154, _, none⟩) NB145_154.out _).trans (hHeld.2.2.2.2.2.2.2))))⟩ (fun hHeld => ?_)
          clear hK K
          refine done_ (done_of HT_.out (by kernel_rfl)) ?_
          have hnb44 := NB144_145.out
          have hnc44 := NB145_144.out
          have hnb45 := NB144_146.out
          have hnc45 := NB146_144.out
          have hnb46 := NB144_153.out
          have hnc46 := NB153_144.out
          have hnb47 := NB144_154.out
          have hnc47 := NB154_144.out
          obtain ⟨hcz48_0, hcz48_1, hcz48_2, hcz48_3, hfz48_0, hfz48_1, hfz48_2, hfz48_3⟩ := cz4 BK144
          have hnb49 := NB145_146.out
          have hnc49 := NB146_145.out
          have hnb50 := NB145_153.out
          have hnc50 := NB153_145.out
          have hnb51 := NB145_154.out
          have hnc51 := NB154_145.out
          obtain ⟨hcz52_0, hcz52_1, hcz52_2, hcz52_3, hfz52_0, hfz52_1, hfz52_2, hfz52_3⟩ := cz4 BK145
          have hnb53 := NB153_146.out
          have hnc53 := NB146_153.out
          have hnb54 := NB153_154.out
          have hnc54 := NB154_153.out
          obtain ⟨hcz55_0, hcz55_1, hfz55_0, hfz55_1⟩ := cz2 BK153
          have hnb56 := NB154_146.out
          have hnc56 := NB146_154.out
          obtain ⟨hcz57_0, hcz57_1, hfz57_0, hfz57_1⟩ := cz2 BK154
          try go_wp2_with (first | ((with_reducible refine gate_callee (f := 60) rfl ?_); refine goesL_ (some 47) rfl rfl Try.func60 (by kernel_rfl) rfl #[.agg #[.int .i64 ji27, .int .i64 ji28], .agg #[.int .i64 ji29, .int .i64 ji30]] rfl (by (try simp only [List.map_toArray, List.map_cons, List.map_nil]); first | done | (simp only [hji27, hji28, hji29, hji30]; rfl) | rfl | (simp only [List.length_drop, List.length_take]; rfl)) ?_; (with_reducible refine (cell_between.calls ji27 ji28 ji29 ji30 t155 t156 t157 t158 _ A31.out).mono ?_); rintro e w58 ⟨rfl, hb⟩; refine ⟨_, rfl, ?_⟩; replace BK144 := Aside0.mk (blk_below (g := gb144) (o := .cells #[.int .i64 a0_0, .int .i64 a0_1, .int .i64 a0_2, .int .i64 a0_3] 47 (0, 0)) (by (with_reducible repeat (first | refine blk_drewN ?_ _ | refine blk_drew ?_ | refine blk_alloc ?_ _)); refine blk_far ?_ NB144_154.out _; (with_reducible repeat (first | refine blk_drewN ?_ _ | refine blk_drew ?_ | refine blk_alloc ?_ _)); refine blk_far ?_ NB144_154.out _; (with_reducible repeat (first | refine blk_drewN ?_ _ | refine blk_drew ?_ | refine blk_alloc ?_ _)); refine blk_far ?_ NB144_153.out _; (with_reducible repeat (first | refine blk_drewN ?_ _ | refine blk_drew ?_ | refine blk_alloc ?_ _)); refine blk_far ?_ NB144_153.out _; (with_reducible repeat (first | refine blk_drewN ?_ _ | refine blk_drew ?_ | refine blk_alloc ?_ _)); exact BK144.out) hb); replace BK145 := Aside0.mk (blk_below (g := gb145) (o := .cells #[.int .i64 a1_0, .int .i64 a1_1, .int .i64 a1_2, .int .i64 a1_3] 47 (0, 0)) (by (with_reducible repeat (first | refine blk_drewN ?_ _ | refine blk_drew ?_ | refine blk_alloc ?_ _)); refine blk_far ?_ NB145_154.out _; (with_reducible repeat (first | refine blk_drewN ?_ _ | refine blk_drew ?_ | refine blk_alloc ?_ _)); refine blk_far ?_ NB145_154.out _; (with_reducible repeat (first | refine blk_drewN ?_ _ | refine blk_drew ?_ | refine blk_alloc ?_ _)); refine blk_far ?_ NB145_153.out _; (with_reducible repeat (first | refine blk_drewN ?_ _ | refine blk_drew ?_ | refine blk_alloc ?_ _)); refine blk_far ?_ NB145_153.out _; (with_reducible repeat (first | refine blk_drewN ?_ _ | refine blk_drew ?_ | refine blk_alloc ?_ _)); exact BK145.out) hb); replace BK146 := Aside0.mk (blk_below (g := gb146) (o := .cells #[.int .i64 0, .int .i64 0, .int .i64 0, .int .i64 0] 47 (0, 0)) (by (with_reducible repeat (first | refine blk_drewN ?_ _ | refine blk_drew ?_ | refine blk_alloc ?_ _)); refine blk_far ?_ NB146_154.out _; (with_reducible repeat (first | refine blk_drewN ?_ _ | refine blk_drew ?_ | refine blk_alloc ?_ _)); refine blk_far ?_ NB146_154.out _; (with_reducible repeat (first | refine blk_drewN ?_ _ | refine blk_drew ?_ | refine blk_alloc ?_ _)); refine blk_far ?_ NB146_153.out _; (with_reducible repeat (first | refine blk_drewN ?_ _ | refine blk_drew ?_ | refine blk_alloc ?_ _)); refine blk_far ?_ NB146_153.out _; (with_reducible repeat (first | refine blk_drewN ?_ _ | refine blk_drew ?_ | refine blk_alloc ?_ _)); exact BK146.out) hb); replace BK153 := Aside0.mk (blk_below (g := gb153) (o := .cells #[.int .i64 t149, .int .i64 t150] 25 (0, 0)) (by (with_reducible repeat (first | refine blk_drewN ?_ _ | refine blk_drew ?_ | refine blk_alloc ?_ _)); refine blk_far ?_ NB153_154.out _; (with_reducible repeat (first | refine blk_drewN ?_ _ | refine blk_drew ?_ | refine blk_alloc ?_ _)); refine blk_far ?_ NB153_154.out _; (with_reducible repeat (first | refine blk_drewN ?_ _ | refine blk_drew ?_ | refine blk_alloc ?_ _)); refine blk_put (cs := #[.int .i64 t149, .int .i64 0]) ?_ 1 _ rfl; (with_reducible repeat (first | refine blk_drewN ?_ _ | refine blk_drew ?_ | refine blk_alloc ?_ _)); refine blk_put (cs := #[.int .i64 0, .int .i64 0]) ?_ 0 _ rfl; (with_reducible repeat (first | refine blk_drewN ?_ _ | refine blk_drew ?_ | refine blk_alloc ?_ _)); exact BK153.out) hb); replace BK154 := Aside0.mk (blk_below (g := gb154) (o := .cells #[.int .i64 t151, .int .i64 t152] 25 (0, 0)) (by (with_reducible repeat (first | refine blk_drewN ?_ _ | refine blk_drew ?_ | refine blk_alloc ?_ _)); refine blk_put (cs := #[.int .i64 t151, .int .i64 0]) ?_ 1 _ rfl; (with_reducible repeat (first | refine blk_drewN ?_ _ | refine blk_drew ?_ | refine blk_alloc ?_ _)); refine blk_put (cs := #[.int .i64 0, .int .i64 0]) ?_ 0 _ rfl; (with_reducible repeat (first | refine blk_drewN ?_ _ | refine blk_drew ?_ | refine blk_alloc ?_ _)); refine blk_far ?_ NB154_153.out _; (with_reducible repeat (first | refine blk_drewN ?_ _ | refine blk_drew ?_ | refine blk_alloc ?_ _)); refine blk_far ?_ NB154_153.out _; (with_reducible repeat (first | refine blk_drewN ?_ _ | refine blk_drew ?_ | refine blk_alloc ?_ _)); exact BK154.out) hb); replace HB := Aside0.mk (below_step (bw HB) hb); (try clear hb); (try clear hb2); (try clear hk); (try clear hi)) | ((with_reducible refine gate_dst (N := 7) rfl ?_); refine box_event ?hg (N := 7) ?hd (cs := #[.int .i64 0, .int .i64 0, .int .i64 0, .int .i64 0]) (t := 47) ?hr ?_; (case hd => rfl); (case hg => rfl); (case hr => first | (go_simp; done) | (go_simp; rfl)); intro gb159 hg w59 hbox hb; have BK159 := Aside0.mk (hbox); have GW159 := Aside0.mk ((bz HB _ hg : w.heap.size ≤ gb159)); have GE159 := Aside0.mk ((bz HB _ hg : w.heap.size ≤ gb159)); have NB144_159 := Aside0.mk ((nl BK144 hg : gb144 ≠ gb159)); have NB159_144 := Aside0.mk ((ng BK144 hg : gb159 ≠ gb144)); have NB145_159 := Aside0.mk ((nl BK145 hg : gb145 ≠ gb159)); have NB159_145 := Aside0.mk ((ng BK145 hg : gb159 ≠ gb145)); have NB146_159 := Aside0.mk ((nl BK146 hg : gb146 ≠ gb159)); have NB159_146 := Aside0.mk ((ng BK146 hg : gb159 ≠ gb146)); have NB153_159 := Aside0.mk ((nl BK153 hg : gb153 ≠ gb159)); have NB159_153 := Aside0.mk ((ng BK153 hg : gb159 ≠ gb153)); have NB154_159 := Aside0.mk ((nl BK154 hg : gb154 ≠ gb159)); have NB159_154 := Aside0.mk ((ng BK154 hg : gb159 ≠ gb154)); replace BK144 := Aside0.mk (kb BK144 hb); replace BK145 := Aside0.mk (kb BK145 hb); replace BK146 := Aside0.mk (kb BK146 hb); replace BK153 := Aside0.mk (kb BK153 hb); replace BK154 := Aside0.mk (kb BK154 hb); replace HB := Aside0.mk (below_step (bw HB) hb); clear hb hbox hg; have hnb60 := NB159_144.out; have hnc60 := NB144_159.out; have hnb61 := NB159_145.out; have hnc61 := NB145_159.out; have hnb62 := NB159_146.out; have hnc62 := NB146_159.out; have hnb63 := NB159_153.out; have hnc63 := NB153_159.out; have hnb64 := NB159_154.out; have hnc64 := NB154_159.out; obtain ⟨hcz65_0, hcz65_1, hcz65_2, hcz65_3, hfz65_0, hfz65_1, hfz65_2, hfz65_3⟩ := cz4 BK159) | ((with_reducible refine gate_callee (f := 58) rfl ?_); refine goesL_ (some 49) rfl rfl Try.func58 (by kernel_rfl) rfl #[.agg #[.int .i64 t155, .int .i64 t156, .int .i64 t157, .int .i64 t158]] rfl (by (try simp only [List.map_toArray, List.map_cons, List.map_nil]); first | done | rfl | (simp only [List.length_drop, List.length_take]; rfl)) ?_; (with_reducible refine (cell_May.calls t155 t156 t157 t158 true _ A32.out).mono ?_); rintro e w66 ⟨rfl, hb⟩; refine ⟨_, rfl, ?_⟩; replace BK144 := Aside0.mk (blk_below (g := gb144) (o := .cells #[.int .i64 a0_0, .int .i64 a0_1, .int .i64 a0_2, .int .i64 a0_3] 47 (0, 0)) (by (with_reducible repeat (first | refine blk_drewN ?_ _ | refine blk_drew ?_ | refine blk_alloc ?_ _)); refine blk_far ?_ NB144_159.out _; (with_reducible repeat (first | refine blk_drewN ?_ _ | refine blk_drew ?_ | refine blk_alloc ?_ _)); refine blk_far ?_ NB144_159.out _; (with_reducible repeat (first | refine blk_drewN ?_ _ | refine blk_drew ?_ | refine blk_alloc ?_ _)); refine blk_far ?_ NB144_159.out _; (with_reducible repeat (first | refine blk_drewN ?_ _ | refine blk_drew ?_ | refine blk_alloc ?_ _)); refine blk_far ?_ NB144_159.out _; (with_reducible repeat (first | refine blk_drewN ?_ _ | refine blk_drew ?_ | refine blk_alloc ?_ _)); exact BK144.out) hb); replace BK145 := Aside0.mk (blk_below (g := gb145) (o := .cells #[.int .i64 a1_0, .int .i64 a1_1, .int .i64 a1_2, .int .i64 a1_3] 47 (0, 0)) (by (with_reducible repeat (first | refine blk_drewN ?_ _ | refine blk_drew ?_ | refine blk_alloc ?_ _)); refine blk_far ?_ NB145_159.out _; (with_reducible repeat (first | refine blk_drewN ?_ _ | refine blk_drew ?_ | refine blk_alloc ?_ _)); refine blk_far ?_ NB145_159.out _; (with_reducible repeat (first | refine blk_drewN ?_ _ | refine blk_drew ?_ | refine blk_alloc ?_ _)); refine blk_far ?_ NB145_159.out _; (with_reducible repeat (first | refine blk_drewN ?_ _ | refine blk_drew ?_ | refine blk_alloc ?_ _)); refine blk_far ?_ NB145_159.out _; (with_reducible repeat (first | refine blk_drewN ?_ _ | refine blk_drew ?_ | refine blk_alloc ?_ _)); exact BK145.out) hb); replace BK146 := Aside0.mk (blk_below (g := gb146) (o := .cells #[.int .i64 0, .int .i64 0, .int .i64 0, .int .i64 0] 47 (0, 0)) (by (with_reducible repeat (first | refine blk_drewN ?_ _ | refine blk_drew ?_ | refine blk_alloc ?_ _)); refine blk_far ?_ NB146_159.out _; (with_reducible repeat (first | refine blk_drewN ?_ _ | refine blk_drew ?_ | refine blk_alloc ?_ _)); refine blk_far ?_ NB146_159.out _; (with_reducible repeat (first | refine blk_drewN ?_ _ | refine blk_drew ?_ | refine blk_alloc ?_ _)); refine blk_far ?_ NB146_159.out _; (with_reducible repeat (first | refine blk_drewN ?_ _ | refine blk_drew ?_ | refine blk_alloc ?_ _)); refine blk_far ?_ NB146_159.out _; (with_reducible repeat (first | refine blk_drewN ?_ _ | refine blk_drew ?_ | refine blk_alloc ?_ _)); exact BK146.out) hb); replace BK153 := Aside0.mk (blk_below (g := gb153) (o := .cells #[.int .i64 t149, .int .i64 t150] 25 (0, 0)) (by (with_reducible repeat (first | refine blk_drewN ?_ _ | refine blk_drew ?_ | refine blk_alloc ?_ _)); refine blk_far ?_ NB153_159.out _; (with_reducible repeat (first | refine blk_drewN ?_ _ | refine blk_drew ?_ | refine blk_alloc ?_ _)); refine blk_far ?_ NB153_159.out _; (with_reducible repeat (first | refine blk_drewN ?_ _ | refine blk_drew ?_ | refine blk_alloc ?_ _)); refine blk_far ?_ NB153_159.out _; (with_reducible repeat (first | refine blk_drewN ?_ _ | refine blk_drew ?_ | refine blk_alloc ?_ _)); refine blk_far ?_ NB153_159.out _; (with_reducible repeat (first | refine blk_drewN ?_ _ | refine blk_drew ?_ | refine blk_alloc ?_ _)); exact BK153.out) hb); replace BK154 := Aside0.mk (blk_below (g := gb154) (o := .cells #[.int .i64 t151, .int .i64 t152] 25 (0, 0)) (by (with_reducible repeat (first | refine blk_drewN ?_ _ | refine blk_drew ?_ | refine blk_alloc ?_ _)); refine blk_far ?_ NB154_159.out _; (with_reducible repeat (first | refine blk_drewN ?_ _ | refine blk_drew ?_ | refine blk_alloc ?_ _)); refine blk_far ?_ NB154_159.out _; (with_reducible repeat (first | refine blk_drewN ?_ _ | refine blk_drew ?_ | refine blk_alloc ?_ _)); refine blk_far ?_ NB154_159.out _; (with_reducible repeat (first | refine blk_drewN ?_ _ | refine blk_drew ?_ | refine blk_alloc ?_ _)); refine blk_far ?_ NB154_159.out _; (with_reducible repeat (first | refine blk_drewN ?_ _ | refine blk_drew ?_ | refine blk_alloc ?_ _)); exact BK154.out) hb); replace BK159 := Aside0.mk (blk_below (g := gb159) (o := .cells #[.int .i64 t155, .int .i64 t156, .int .i64 t157, .int .i64 t158] 47 (0, 0)) (by (with_reducible repeat (first | refine blk_drewN ?_ _ | refine blk_drew ?_ | refine blk_alloc ?_ _)); refine blk_put (cs := #[.int .i64 t155, .int .i64 t156, .int .i64 t157, .int .i64 0]) ?_ 3 _ rfl; (with_reducible repeat (first | refine blk_drewN ?_ _ | refine blk_drew ?_ | refine blk_alloc ?_ _)); refine blk_put (cs := #[.int .i64 t155, .int .i64 t156, .int .i64 0, .int .i64 0]) ?_ 2 _ rfl; (with_reducible repeat (first | refine blk_drewN ?_ _ | refine blk_drew ?_ | refine blk_alloc ?_ _)); refine blk_put (cs := #[.int .i64 t155, .int .i64 0, .int .i64 0, .int .i64 0]) ?_ 1 _ rfl; (with_reducible repeat (first | refine blk_drewN ?_ _ | refine blk_drew ?_ | refine blk_alloc ?_ _)); refine blk_put (cs := #[.int .i64 0, .int .i64 0, .int .i64 0, .int .i64 0]) ?_ 0 _ rfl; (with_reducible repeat (first | refine blk_drewN ?_ _ | refine blk_drew ?_ | refine blk_alloc ?_ _)); exact BK159.out) hb); replace HB := Aside0.mk (below_step (bw HB) hb); (try clear hb); (try clear hb2); (try clear hk); (try clear hi); obtain ⟨hcz67_0, hcz67_1, hcz67_2, hcz67_3, hfz67_0, hfz67_1, hfz67_2, hfz67_3⟩ := cz4 BK159; obtain ⟨hcz68_0, hcz68_1, hcz68_2, hcz68_3, hfz68_0, hfz68_1, hfz68_2, hfz68_3⟩ := cz4 BK146))
          refine bodyPost_ret (results_cell_row rfl _ _ gb146 47 #[.int .i64 t155, .int .i64 t156, .int .i64 t157, .int .i64 t158] (0, 0) _ rfl (by (with_reducible repeat (first | refine blk_drewN ?_ _ | refine blk_drew ?_ | refine blk_alloc ?_ _)); refine blk_put (cs := #[.int .i64 t155, .int .i64 t156, .int .i64 t157, .int .i64 0]) ?_ 3 _ rfl; (with_reducible repeat (first | refine blk_drewN ?_ _ | refine blk_drew ?_ | refine blk_alloc ?_ _)); refine blk_put (cs := #[.int .i64 t155, .int .i64 t156, .int .i64 0, .int .i64 0]) ?_ 2 _ rfl; (with_reducible repeat (first | refine blk_drewN ?_ _ | refine blk_drew ?_ | refine blk_alloc ?_ _)); refine blk_put (cs := #[.int .i64 t155, .int .i64 0, .int .i64 0, .int .i64 0]) ?_ 1 _ rfl; (with_reducible repeat (first | refine blk_drewN ?_ _ | refine blk_drew ?_ | refine blk_alloc ?_ _)); refine blk_put (cs := #[.int .i64 0, .int .i64 0, .int .i64 0, .int .i64 0]) ?_ 0 _ rfl; (with_reducible repeat (first | refine blk_drewN ?_ _ | refine blk_drew ?_ | refine blk_alloc ?_ _)); exact BK146.out) Try.underlying47 rfl (by kernel_rfl)) rfl ?_
          exact ⟨by first | rfl | (simp [errW_none, errW_some] <;> rfl) | (simp only [← hji27, ← hji28, ← hji29, ← hji30]; first | rfl | (simp [errW_none, errW_some] <;> rfl)) | (simp [*, errW_none, errW_some] <;> rfl) | (simp [max_mx, min_mn, *, errW_none, errW_some]), by repeat (first | (with_reducible first | exact HB.out | apply below_alloc | apply pw_below_drewN | apply below_drew1 | refine below_set ?_ GE144.out | refine below_set ?_ GE145.out | refine below_set ?_ GE146.out | refine below_set ?_ GE153.out | refine below_set ?_ GE154.out | refine below_set ?_ GE159.out) | exact HB.out)⟩
        · replace c33 := Bool.eq_false_iff.mpr c33
          subst c33
          have H1 : (some (0, 0, 0, 0)) = some (r1, r2, r3, r4) := by rw [if_neg (show ¬ (false = true) by decide)] at H; exact H
          clear H
          have H := H1
          clear H1
          simp only [Option.some.injEq, Prod.mk.injEq] at H
          obtain ⟨rfl, rfl, rfl, rfl⟩ := H
          try go_wp2
          replace BK144 := Aside0.mk (blk_drew BK144.out)
          replace BK145 := Aside0.mk (blk_drew BK145.out)
          replace BK146 := Aside0.mk (blk_drew BK146.out)
          replace HB := Aside0.mk (below_drew1 HB.out)
          refine start_ (n := 8) (S := fun w' => w'.cell? ⟨gb144, 0, none⟩ = some (.int .i64 a0_0) ∧ w'.cell? ⟨gb144, 1, none⟩ = some (.int .i64 a0_1) ∧ w'.cell? ⟨gb144, 2, none⟩ = some (.int .i64 a0_2) ∧ w'.cell? ⟨gb144, 3, none⟩ = some (.int .i64 a0_3) ∧ w'.cell? ⟨gb145, 0, none⟩ = some (.int .i64 a1_0) ∧ w'.cell? ⟨gb145, 1, none⟩ = some (.int .i64 a1_1) ∧ w'.cell? ⟨gb145, 2, none⟩ = some (.int .i64 a1_2) ∧ w'.cell? ⟨gb145, 3, none⟩ = some (.int .i64 a1_3)) (ds := []) (bm 8 0) (by kernel_rfl) rfl rfl ⟨(blk_cell BK144.out 0).trans rfl, (blk_cell BK144.out 1).trans rfl, (blk_cell BK144.out 2).trans rfl, (blk_cell BK144.out 3).trans rfl, (blk_cell BK145.out 0).trans rfl, (blk_cell BK145.out 1).trans rfl, (blk_cell BK145.out 2).trans rfl, (blk_cell BK145.out 3).trans rfl⟩ (fun hHeld => ?_); refine with_tabW cell_Hull.tab3 cell_Hull.bits3 (fun HT_ HW_ => ?_)
          generalize wc.drew = w69 at BK144 BK145 BK146 HB hHeld ⊢
          refine take_ (i := 0) (N := some 17) (v := ?_) (a' := ?_) (bm 8 1) rfl rfl (take_ofW HT_.out HW_.out (by kernel_rfl)) (fun _ _ _ h => h) (Or.inl ⟨by rfl, ?_⟩) hHeld ?_ ?_
          rotate_left
          · rintro w' ⟨s0, s1, s2, s3, s4, s5, s6, s7⟩
            go_simp
            with_reducible rfl
          rotate_left
          · simp only [Act.put, List.setIfInBounds_toArray, List.set_cons_zero, List.set_cons_succ, i64_w, i32_w]
            rfl
          refine take_ (i := 2) (N := some 19) (v := ?_) (a' := ?_) (bm 8 5) rfl rfl (take_ofW HT_.out HW_.out (by kernel_rfl)) (fun _ _ _ h => h) (Or.inl ⟨by rfl, ?_⟩) hHeld ?_ ?_
          rotate_left
          · rintro w' ⟨s0, s1, s2, s3, s4, s5, s6, s7⟩
            go_simp
            with_reducible rfl
          rotate_left
          · simp only [Act.put, List.setIfInBounds_toArray, List.set_cons_zero, List.set_cons_succ, i64_w, i32_w]
            rfl
          refine join_ (σ := Nat × Nat) 2 (bm 8 63) (fun s_ => [(18, .agg #[.int .i64 t149, .int .i64 t150]), (20, .agg #[.int .i64 t151, .int .i64 t152]), (5, .pointer (some ⟨s_.1, 0, none⟩)), (6, .pointer (some ⟨s_.2, 0, none⟩))]) (fun s_ w' => (w'.cell? ⟨gb144, 0, none⟩ = some (.int .i64 a0_0) ∧ w'.cell? ⟨gb144, 1, none⟩ = some (.int .i64 a0_1) ∧ w'.cell? ⟨gb144, 2, none⟩ = some (.int .i64 a0_2) ∧ w'.cell? ⟨gb144, 3, none⟩ = some (.int .i64 a0_3) ∧ w'.cell? ⟨gb145, 0, none⟩ = some (.int .i64 a1_0) ∧ w'.cell? ⟨gb145, 1, none⟩ = some (.int .i64 a1_1) ∧ w'.cell? ⟨gb145, 2, none⟩ = some (.int .i64 a1_2) ∧ w'.cell? ⟨gb145, 3, none⟩ = some (.int .i64 a1_3)) ∧ (w'.heap[gb144]? = some (.cells #[.int .i64 a0_0, .int .i64 a0_1, .int .i64 a0_2, .int .i64 a0_3] 47 (0, 0))) ∧ (w'.heap[gb145]? = some (.cells #[.int .i64 a1_0, .int .i64 a1_1, .int .i64 a1_2, .int .i64 a1_3] 47 (0, 0))) ∧ (w'.heap[gb146]? = some (.cells #[.int .i64 0, .int .i64 0, .int .i64 0, .int .i64 0] 47 (0, 0))) ∧ (w'.heap[s_.1]? = some (.cells #[.int .i64 0, .int .i64 0] 25 (0, 0))) ∧ (w'.heap[s_.2]? = some (.cells #[.int .i64 0, .int .i64 0] 25 (0, 0))) ∧ (w.heap.size ≤ s_.1) ∧ (w.heap.size ≤ s_.1) ∧ (gb144 ≠ s_.1) ∧ (s_.1 ≠ gb144) ∧ (gb145 ≠ s_.1) ∧ (s_.1 ≠ gb145) ∧ (gb146 ≠ s_.1) ∧ (s_.1 ≠ gb146) ∧ (s_.2 ≠ s_.1) ∧ (s_.1 ≠ s_.2) ∧ (w.heap.size ≤ s_.2) ∧ (w.heap.size ≤ s_.2) ∧ (gb144 ≠ s_.2) ∧ (s_.2 ≠ gb144) ∧ (gb145 ≠ s_.2) ∧ (s_.2 ≠ gb145) ∧ (gb146 ≠ s_.2) ∧ (s_.2 ≠ gb146) ∧ (Below w.heap.size w w')) ?_ ?_
          rotate_left
          · intro hJ1_3_4_5
            refine join_ (σ := Nat) 3 (bm 8 31) (fun s_ => [(18, .agg #[.int .i64 t149, .int .i64 t150]), (20, .agg #[.int .i64 t151, .int .i64 t152]), (5, .pointer (some ⟨s_, 0, none⟩))]) (fun s_ w' => (w'.cell? ⟨gb144, 0, none⟩ = some (.int .i64 a0_0) ∧ w'.cell? ⟨gb144, 1, none⟩ = some (.int .i64 a0_1) ∧ w'.cell? ⟨gb144, 2, none⟩ = some (.int .i64 a0_2) ∧ w'.cell? ⟨gb144, 3, none⟩ = some (.int .i64 a0_3) ∧ w'.cell? ⟨gb145, 0, none⟩ = some (.int .i64 a1_0) ∧ w'.cell? ⟨gb145, 1, none⟩ = some (.int .i64 a1_1) ∧ w'.cell? ⟨gb145, 2, none⟩ = some (.int .i64 a1_2) ∧ w'.cell? ⟨gb145, 3, none⟩ = some (.int .i64 a1_3)) ∧ (w'.heap[gb144]? = some (.cells #[.int .i64 a0_0, .int .i64 a0_1, .int .i64 a0_2, .int .i64 a0_3] 47 (0, 0))) ∧ (w'.heap[gb145]? = some (.cells #[.int .i64 a1_0, .int .i64 a1_1, .int .i64 a1_2, .int .i64 a1_3] 47 (0, 0))) ∧ (w'.heap[gb146]? = some (.cells #[.int .i64 0, .int .i64 0, .int .i64 0, .int .i64 0] 47 (0, 0))) ∧ (w'.heap[s_]? = some (.cells #[.int .i64 0, .int .i64 0] 25 (0, 0))) ∧ (w.heap.size ≤ s_) ∧ (w.heap.size ≤ s_) ∧ (gb144 ≠ s_) ∧ (s_ ≠ gb144) ∧ (gb145 ≠ s_) ∧ (s_ ≠ gb145) ∧ (gb146 ≠ s_) ∧ (s_ ≠ gb146) ∧ (Below w.heap.size w w')) ?_ ?_
            rotate_left
            · intro hJ1_3_4
              refine join_ (σ := Nat) 3 (bm 8 47) (fun s_ => [(18, .agg #[.int .i64 t149, .int .i64 t150]), (20, .agg #[.int .i64 t151, .int .i64 t152]), (6, .pointer (some ⟨s_, 0, none⟩))]) (fun s_ w' => (w'.cell? ⟨gb144, 0, none⟩ = some (.int .i64 a0_0) ∧ w'.cell? ⟨gb144, 1, none⟩ = some (.int .i64 a0_1) ∧ w'.cell? ⟨gb144, 2, none⟩ = some (.int .i64 a0_2) ∧ w'.cell? ⟨gb144, 3, none⟩ = some (.int .i64 a0_3) ∧ w'.cell? ⟨gb145, 0, none⟩ = some (.int .i64 a1_0) ∧ w'.cell? ⟨gb145, 1, none⟩ = some (.int .i64 a1_1) ∧ w'.cell? ⟨gb145, 2, none⟩ = some (.int .i64 a1_2) ∧ w'.cell? ⟨gb145, 3, none⟩ = some (.int .i64 a1_3)) ∧ (w'.heap[gb144]? = some (.cells #[.int .i64 a0_0, .int .i64 a0_1, .int .i64 a0_2, .int .i64 a0_3] 47 (0, 0))) ∧ (w'.heap[gb145]? = some (.cells #[.int .i64 a1_0, .int .i64 a1_1, .int .i64 a1_2, .int .i64 a1_3] 47 (0, 0))) ∧ (w'.heap[gb146]? = some (.cells #[.int .i64 0, .int .i64 0, .int .i64 0, .int .i64 0] 47 (0, 0))) ∧ (w'.heap[s_]? = some (.cells #[.int .i64 0, .int .i64 0] 25 (0, 0))) ∧ (w.heap.size ≤ s_) ∧ (w.heap.size ≤ s_) ∧ (gb144 ≠ s_) ∧ (s_ ≠ gb144) ∧ (gb145 ≠ s_) ∧ (s_ ≠ gb145) ∧ (gb146 ≠ s_) ∧ (s_ ≠ gb146) ∧ (Below w.heap.size w w')) ?_ ?_
              rotate_left
              · intro hJ1_3_5
                refine join_ (σ := Nat × Nat) 3 (bm 8 55) (fun s_ => [(18, .agg #[.int .i64 t149, .int .i64 t150]), (5, .pointer (some ⟨s_.1, 0, none⟩)), (6, .pointer (some ⟨s_.2, 0, none⟩))]) (fun s_ w' => (w'.cell? ⟨gb144, 0, none⟩ = some (.int .i64 a0_0) ∧ w'.cell? ⟨gb144, 1, none⟩ = some (.int .i64 a0_1) ∧ w'.cell? ⟨gb144, 2, none⟩ = some (.int .i64 a0_2) ∧ w'.cell? ⟨gb144, 3, none⟩ = some (.int .i64 a0_3) ∧ w'.cell? ⟨gb145, 0, none⟩ = some (.int .i64 a1_0) ∧ w'.cell? ⟨gb145, 1, none⟩ = some (.int .i64 a1_1) ∧ w'.cell? ⟨gb145, 2, none⟩ = some (.int .i64 a1_2) ∧ w'.cell? ⟨gb145, 3, none⟩ = some (.int .i64 a1_3)) ∧ (w'.heap[gb144]? = some (.cells #[.int .i64 a0_0, .int .i64 a0_1, .int .i64 a0_2, .int .i64 a0_3] 47 (0, 0))) ∧ (w'.heap[gb145]? = some (.cells #[.int .i64 a1_0, .int .i64 a1_1, .int .i64 a1_2, .int .i64 a1_3] 47 (0, 0))) ∧ (w'.heap[gb146]? = some (.cells #[.int .i64 0, .int .i64 0, .int .i64 0, .int .i64 0] 47 (0, 0))) ∧ (w'.heap[s_.1]? = some (.cells #[.int .i64 0, .int .i64 0] 25 (0, 0))) ∧ (w'.heap[s_.2]? = some (.cells #[.int .i64 0, .int .i64 0] 25 (0, 0))) ∧ (w.heap.size ≤ s_.1) ∧ (w.heap.size ≤ s_.1) ∧ (gb144 ≠ s_.1) ∧ (s_.1 ≠ gb144) ∧ (gb145 ≠ s_.1) ∧ (s_.1 ≠ gb145) ∧ (gb146 ≠ s_.1) ∧ (s_.1 ≠ gb146) ∧ (s_.2 ≠ s_.1) ∧ (s_.1 ≠ s_.2) ∧ (w.heap.size ≤ s_.2) ∧ (w.heap.size ≤ s_.2) ∧ (gb144 ≠ s_.2) ∧ (s_.2 ≠ gb144) ∧ (gb145 ≠ s_.2) ∧ (s_.2 ≠ gb145) ∧ (gb146 ≠ s_.2) ∧ (s_.2 ≠ gb146) ∧ (Below w.heap.size w w')) ?_ ?_
                rotate_left
                · intro hJ1_4_5
                  refine join_ (σ := Unit) 4 (bm 8 15) (fun s_ => [(18, .agg #[.int .i64 t149, .int .i64 t150]), (20, .agg #[.int .i64 t151, .int .i64 t152])]) (fun s_ w' => (w'.cell? ⟨gb144, 0, none⟩ = some (.int .i64 a0_0) ∧ w'.cell? ⟨gb144, 1, none⟩ = some (.int .i64 a0_1) ∧ w'.cell? ⟨gb144, 2, none⟩ = some (.int .i64 a0_2) ∧ w'.cell? ⟨gb144, 3, none⟩ = some (.int .i64 a0_3) ∧ w'.cell? ⟨gb145, 0, none⟩ = some (.int .i64 a1_0) ∧ w'.cell? ⟨gb145, 1, none⟩ = some (.int .i64 a1_1) ∧ w'.cell? ⟨gb145, 2, none⟩ = some (.int .i64 a1_2) ∧ w'.cell? ⟨gb145, 3, none⟩ = some (.int .i64 a1_3)) ∧ (w'.heap[gb144]? = some (.cells #[.int .i64 a0_0, .int .i64 a0_1, .int .i64 a0_2, .int .i64 a0_3] 47 (0, 0))) ∧ (w'.heap[gb145]? = some (.cells #[.int .i64 a1_0, .int .i64 a1_1, .int .i64 a1_2, .int .i64 a1_3] 47 (0, 0))) ∧ (w'.heap[gb146]? = some (.cells #[.int .i64 0, .int .i64 0, .int .i64 0, .int .i64 0] 47 (0, 0))) ∧ (Below w.heap.size w w')) ?_ ?_
                  rotate_left
                  · intro hJ1_3
                    refine join_ (σ := Nat) 4 (bm 8 23) (fun s_ => [(18, .agg #[.int .i64 t149, .int .i64 t150]), (5, .pointer (some ⟨s_, 0, none⟩))]) (fun s_ w' => (w'.cell? ⟨gb144, 0, none⟩ = some (.int .i64 a0_0) ∧ w'.cell? ⟨gb144, 1, none⟩ = some (.int .i64 a0_1) ∧ w'.cell? ⟨gb144, 2, none⟩ = some (.int .i64 a0_2) ∧ w'.cell? ⟨gb144, 3, none⟩ = some (.int .i64 a0_3) ∧ w'.cell? ⟨gb145, 0, none⟩ = some (.int .i64 a1_0) ∧ w'.cell? ⟨gb145, 1, none⟩ = some (.int .i64 a1_1) ∧ w'.cell? ⟨gb145, 2, none⟩ = some (.int .i64 a1_2) ∧ w'.cell? ⟨gb145, 3, none⟩ = some (.int .i64 a1_3)) ∧ (w'.heap[gb144]? = some (.cells #[.int .i64 a0_0, .int .i64 a0_1, .int .i64 a0_2, .int .i64 a0_3] 47 (0, 0))) ∧ (w'.heap[gb145]? = some (.cells #[.int .i64 a1_0, .int .i64 a1_1, .int .i64 a1_2, .int .i64 a1_3] 47 (0, 0))) ∧ (w'.heap[gb146]? = some (.cells #[.int .i64 0, .int .i64 0, .int .i64 0, .int .i64 0] 47 (0, 0))) ∧ (w'.heap[s_]? = some (.cells #[.int .i64 0, .int .i64 0] 25 (0, 0))) ∧ (w.heap.size ≤ s_) ∧ (w.heap.size ≤ s_) ∧ (gb144 ≠ s_) ∧ (s_ ≠ gb144) ∧ (gb145 ≠ s_) ∧ (s_ ≠ gb145) ∧ (gb146 ≠ s_) ∧ (s_ ≠ gb146) ∧ (Below w.heap.size w w')) ?_ ?_
                    rotate_left
                    · intro hJ1_4
                      refine join_ (σ := Nat) 4 (bm 8 39) (fun s_ => [(18, .agg #[.int .i64 t149, .int .i64 t150]), (6, .pointer (some ⟨s_, 0, none⟩))]) (fun s_ w' => (w'.cell? ⟨gb144, 0, none⟩ = some (.int .i64 a0_0) ∧ w'.cell? ⟨gb144, 1, none⟩ = some (.int .i64 a0_1) ∧ w'.cell? ⟨gb144, 2, none⟩ = some (.int .i64 a0_2) ∧ w'.cell? ⟨gb144, 3, none⟩ = some (.int .i64 a0_3) ∧ w'.cell? ⟨gb145, 0, none⟩ = some (.int .i64 a1_0) ∧ w'.cell? ⟨gb145, 1, none⟩ = some (.int .i64 a1_1) ∧ w'.cell? ⟨gb145, 2, none⟩ = some (.int .i64 a1_2) ∧ w'.cell? ⟨gb145, 3, none⟩ = some (.int .i64 a1_3)) ∧ (w'.heap[gb144]? = some (.cells #[.int .i64 a0_0, .int .i64 a0_1, .int .i64 a0_2, .int .i64 a0_3] 47 (0, 0))) ∧ (w'.heap[gb145]? = some (.cells #[.int .i64 a1_0, .int .i64 a1_1, .int .i64 a1_2, .int .i64 a1_3] 47 (0, 0))) ∧ (w'.heap[gb146]? = some (.cells #[.int .i64 0, .int .i64 0, .int .i64 0, .int .i64 0] 47 (0, 0))) ∧ (w'.heap[s_]? = some (.cells #[.int .i64 0, .int .i64 0] 25 (0, 0))) ∧ (w.heap.size ≤ s_) ∧ (w.heap.size ≤ s_) ∧ (gb144 ≠ s_) ∧ (s_ ≠ gb144) ∧ (gb145 ≠ s_) ∧ (s_ ≠ gb145) ∧ (gb146 ≠ s_) ∧ (s_ ≠ gb146) ∧ (Below w.heap.size w w')) ?_ ?_
                      rotate_left
                      · intro hJ1_5
                        refine join_ (σ := Nat × Nat) 4 (bm 8 53) (fun s_ => [(5, .pointer (some ⟨s_.1, 0, none⟩)), (6, .pointer (some ⟨s_.2, 0, none⟩))]) (fun s_ w' => (w'.cell? ⟨gb144, 0, none⟩ = some (.int .i64 a0_0) ∧ w'.cell? ⟨gb144, 1, none⟩ = some (.int .i64 a0_1) ∧ w'.cell? ⟨gb144, 2, none⟩ = some (.int .i64 a0_2) ∧ w'.cell? ⟨gb144, 3, none⟩ = some (.int .i64 a0_3) ∧ w'.cell? ⟨gb145, 0, none⟩ = some (.int .i64 a1_0) ∧ w'.cell? ⟨gb145, 1, none⟩ = some (.int .i64 a1_1) ∧ w'.cell? ⟨gb145, 2, none⟩ = some (.int .i64 a1_2) ∧ w'.cell? ⟨gb145, 3, none⟩ = some (.int .i64 a1_3)) ∧ (w'.heap[gb144]? = some (.cells #[.int .i64 a0_0, .int .i64 a0_1, .int .i64 a0_2, .int .i64 a0_3] 47 (0, 0))) ∧ (w'.heap[gb145]? = some (.cells #[.int .i64 a1_0, .int .i64 a1_1, .int .i64 a1_2, .int .i64 a1_3] 47 (0, 0))) ∧ (w'.heap[gb146]? = some (.cells #[.int .i64 0, .int .i64 0, .int .i64 0, .int .i64 0] 47 (0, 0))) ∧ (w'.heap[s_.1]? = some (.cells #[.int .i64 0, .int .i64 0] 25 (0, 0))) ∧ (w'.heap[s_.2]? = some (.cells #[.int .i64 0, .int .i64 0] 25 (0, 0))) ∧ (w.heap.size ≤ s_.1) ∧ (w.heap.size ≤ s_.1) ∧ (gb144 ≠ s_.1) ∧ (s_.1 ≠ gb144) ∧ (gb145 ≠ s_.1) ∧ (s_.1 ≠ gb145) ∧ (gb146 ≠ s_.1) ∧ (s_.1 ≠ gb146) ∧ (s_.2 ≠ s_.1) ∧ (s_.1 ≠ s_.2) ∧ (w.heap.size ≤ s_.2) ∧ (w.heap.size ≤ s_.2) ∧ (gb144 ≠ s_.2) ∧ (s_.2 ≠ gb144) ∧ (gb145 ≠ s_.2) ∧ (s_.2 ≠ gb145) ∧ (gb146 ≠ s_.2) ∧ (s_.2 ≠ gb146) ∧ (Below w.heap.size w w')) ?_ ?_
                        rotate_left
                        · intro hJ4_5
                          refine join_ (σ := Unit) 5 (bm 8 7) (fun s_ => [(18, .agg #[.int .i64 t149, .int .i64 t150])]) (fun s_ w' => (w'.cell? ⟨gb144, 0, none⟩ = some (.int .i64 a0_0) ∧ w'.cell? ⟨gb144, 1, none⟩ = some (.int .i64 a0_1) ∧ w'.cell? ⟨gb144, 2, none⟩ = some (.int .i64 a0_2) ∧ w'.cell? ⟨gb144, 3, none⟩ = some (.int .i64 a0_3) ∧ w'.cell? ⟨gb145, 0, none⟩ = some (.int .i64 a1_0) ∧ w'.cell? ⟨gb145, 1, none⟩ = some (.int .i64 a1_1) ∧ w'.cell? ⟨gb145, 2, none⟩ = some (.int .i64 a1_2) ∧ w'.cell? ⟨gb145, 3, none⟩ = some (.int .i64 a1_3)) ∧ (w'.heap[gb144]? = some (.cells #[.int .i64 a0_0, .int .i64 a0_1, .int .i64 a0_2, .int .i64 a0_3] 47 (0, 0))) ∧ (w'.heap[gb145]? = some (.cells #[.int .i64 a1_0, .int .i64 a1_1, .int .i64 a1_2, .int .i64 a1_3] 47 (0, 0))) ∧ (w'.heap[gb146]? = some (.cells #[.int .i64 0, .int .i64 0, .int .i64 0, .int .i64 0] 47 (0, 0))) ∧ (Below w.heap.size w w')) ?_ ?_
                          rotate_left
                          · intro hJ1
                            refine join_ (σ := Nat) 5 (bm 8 21) (fun s_ => [(5, .pointer (some ⟨s_, 0, none⟩))]) (fun s_ w' => (w'.cell? ⟨gb144, 0, none⟩ = some (.int .i64 a0_0) ∧ w'.cell? ⟨gb144, 1, none⟩ = some (.int .i64 a0_1) ∧ w'.cell? ⟨gb144, 2, none⟩ = some (.int .i64 a0_2) ∧ w'.cell? ⟨gb144, 3, none⟩ = some (.int .i64 a0_3) ∧ w'.cell? ⟨gb145, 0, none⟩ = some (.int .i64 a1_0) ∧ w'.cell? ⟨gb145, 1, none⟩ = some (.int .i64 a1_1) ∧ w'.cell? ⟨gb145, 2, none⟩ = some (.int .i64 a1_2) ∧ w'.cell? ⟨gb145, 3, none⟩ = some (.int .i64 a1_3)) ∧ (w'.heap[gb144]? = some (.cells #[.int .i64 a0_0, .int .i64 a0_1, .int .i64 a0_2, .int .i64 a0_3] 47 (0, 0))) ∧ (w'.heap[gb145]? = some (.cells #[.int .i64 a1_0, .int .i64 a1_1, .int .i64 a1_2, .int .i64 a1_3] 47 (0, 0))) ∧ (w'.heap[gb146]? = some (.cells #[.int .i64 0, .int .i64 0, .int .i64 0, .int .i64 0] 47 (0, 0))) ∧ (w'.heap[s_]? = some (.cells #[.int .i64 0, .int .i64 0] 25 (0, 0))) ∧ (w.heap.size ≤ s_) ∧ (w.heap.size ≤ s_) ∧ (gb144 ≠ s_) ∧ (s_ ≠ gb144) ∧ (gb145 ≠ s_) ∧ (s_ ≠ gb145) ∧ (gb146 ≠ s_) ∧ (s_ ≠ gb146) ∧ (Below w.heap.size w w')) ?_ ?_
                            rotate_left
                            · intro hJ4
                              refine join_ (σ := Nat) 5 (bm 8 37) (fun s_ => [(6, .pointer (some ⟨s_, 0, none⟩))]) (fun s_ w' => (w'.cell? ⟨gb144, 0, none⟩ = some (.int .i64 a0_0) ∧ w'.cell? ⟨gb144, 1, none⟩ = some (.int .i64 a0_1) ∧ w'.cell? ⟨gb144, 2, none⟩ = some (.int .i64 a0_2) ∧ w'.cell? ⟨gb144, 3, none⟩ = some (.int .i64 a0_3) ∧ w'.cell? ⟨gb145, 0, none⟩ = some (.int .i64 a1_0) ∧ w'.cell? ⟨gb145, 1, none⟩ = some (.int .i64 a1_1) ∧ w'.cell? ⟨gb145, 2, none⟩ = some (.int .i64 a1_2) ∧ w'.cell? ⟨gb145, 3, none⟩ = some (.int .i64 a1_3)) ∧ (w'.heap[gb144]? = some (.cells #[.int .i64 a0_0, .int .i64 a0_1, .int .i64 a0_2, .int .i64 a0_3] 47 (0, 0))) ∧ (w'.heap[gb145]? = some (.cells #[.int .i64 a1_0, .int .i64 a1_1, .int .i64 a1_2, .int .i64 a1_3] 47 (0, 0))) ∧ (w'.heap[gb146]? = some (.cells #[.int .i64 0, .int .i64 0, .int .i64 0, .int .i64 0] 47 (0, 0))) ∧ (w'.heap[s_]? = some (.cells #[.int .i64 0, .int .i64 0] 25 (0, 0))) ∧ (w.heap.size ≤ s_) ∧ (w.heap.size ≤ s_) ∧ (gb144 ≠ s_) ∧ (s_ ≠ gb144) ∧ (gb145 ≠ s_) ∧ (s_ ≠ gb145) ∧ (gb146 ≠ s_) ∧ (s_ ≠ gb146) ∧ (Below w.heap.size w w')) ?_ ?_
                              rotate_left
                              · intro hJ5
                                refine three_ (i := 1) (j := 4) (k := 5) (Ni := some 18) (Nj := some 5) (Nk := some 6) (bm 8 7) (bm 8 21) (bm 8 37) rfl rfl rfl rfl rfl rfl (three_of HT_.out (by kernel_rfl)) (by decide) (by decide) (by decide) (fun K hK => ?_) (fun K hK => ?_) (fun K hK => ?_)
                                · skip
                                  refine goes_ Try.func59 (by kernel_rfl) rfl #[.agg #[.int .i64 a0_0, .int .i64 a0_1, .int .i64 a0_2, .int .i64 a0_3]] (by rfl) rfl rfl (by (try simp only [List.map_toArray, List.map_cons, List.map_nil]); first | done | rfl | (simp only [List.length_drop, List.length_take]; rfl)) ?_
                                  with_reducible refine (cell_last.calls a0_0 a0_1 a0_2 a0_3 t149 t150 _ A25.out).mono ?_
                                  rintro e w70 ⟨rfl, hb⟩
                                  refine ⟨_, rfl, ?_⟩
                                  replace BK144 := Aside0.mk (kb BK144 hb)
                                  replace BK145 := Aside0.mk (kb BK145 hb)
                                  replace BK146 := Aside0.mk (kb BK146 hb)
                                  replace HB := Aside0.mk (below_step (bw HB) hb)
                                  (try clear hb)
                                  (try clear hb2)
                                  (try clear hk)
                                  (try clear hi)
                                  refine hK.out _ _ ⟨(blk_cell BK144.out 0).trans rfl, (blk_cell BK144.out 1).trans rfl, (blk_cell BK144.out 2).trans rfl, (blk_cell BK144.out 3).trans rfl, (blk_cell BK145.out 0).trans rfl, (blk_cell BK145.out 1).trans rfl, (blk_cell BK145.out 2).trans rfl, (blk_cell BK145.out 3).trans rfl⟩ (fun hHeld => ?_)
                                  clear hK K
                                  refine norm_ (a' := ?_) ?_ ?_
                                  rotate_left
                                  · show Act.put _ (some 18) _ = _
                                    simp only [Act.put, List.setIfInBounds_toArray, List.set_cons_zero, List.set_cons_succ, i64_w, i32_w]
                                    rfl
                                  exact norm_ (by first | (simp only [putAll, Act.put, List.setIfInBounds_toArray, List.set_cons_zero, List.set_cons_succ]; done) | (simp only [putAll, Act.put, List.setIfInBounds_toArray, List.set_cons_zero, List.set_cons_succ]; rfl)) (hJ1 () _ ⟨hHeld, (kz BK144), (kz BK145), (kz BK146), (bw HB)⟩)
                                · skip
                                  refine box_step ?hg (N := 5) ?hd (cs := #[.int .i64 0, .int .i64 0]) (t := 25) ?hr ?_; (case hd => rfl); (case hg => rfl); (case hr => first | (go_simp; done) | (go_simp; rfl))
                                  intro gb153 hg w70 hbox hb
                                  have BK153 := Aside0.mk (hbox)
                                  have GW153 := Aside0.mk ((bz HB _ hg : w.heap.size ≤ gb153))
                                  have GE153 := Aside0.mk ((bz HB _ hg : w.heap.size ≤ gb153))
                                  have NB144_153 := Aside0.mk ((nl BK144 hg : gb144 ≠ gb153))
                                  have NB153_144 := Aside0.mk ((ng BK144 hg : gb153 ≠ gb144))
                                  have NB145_153 := Aside0.mk ((nl BK145 hg : gb145 ≠ gb153))
                                  have NB153_145 := Aside0.mk ((ng BK145 hg : gb153 ≠ gb145))
                                  have NB146_153 := Aside0.mk ((nl BK146 hg : gb146 ≠ gb153))
                                  have NB153_146 := Aside0.mk ((ng BK146 hg : gb153 ≠ gb146))
                                  replace BK144 := Aside0.mk (kb BK144 hb)
                                  replace BK145 := Aside0.mk (kb BK145 hb)
                                  replace BK146 := Aside0.mk (kb BK146 hb)
                                  replace HB := Aside0.mk (below_step (bw HB) hb)
                                  clear hb hbox hg
                                  refine hK.out _ _ ⟨(blk_cell BK144.out 0).trans rfl, (blk_cell BK144.out 1).trans rfl, (blk_cell BK144.out 2).trans rfl, (blk_cell BK144.out 3).trans rfl, (blk_cell BK145.out 0).trans rfl, (blk_cell BK145.out 1).trans rfl, (blk_cell BK145.out 2).trans rfl, (blk_cell BK145.out 3).trans rfl⟩ (fun hHeld => ?_)
                                  clear hK K
                                  refine norm_ (a' := ?_) ?_ ?_
                                  rotate_left
                                  · show Act.put _ (some 5) _ = _
                                    simp only [Act.put, List.setIfInBounds_toArray, List.set_cons_zero, List.set_cons_succ, i64_w, i32_w]
                                    rfl
                                  exact norm_ (by first | (simp only [putAll, Act.put, List.setIfInBounds_toArray, List.set_cons_zero, List.set_cons_succ]; done) | (simp only [putAll, Act.put, List.setIfInBounds_toArray, List.set_cons_zero, List.set_cons_succ]; rfl)) (hJ4 (gb153) _ ⟨hHeld, (kz BK144), (kz BK145), (kz BK146), (kz BK153), GW153.out, GE153.out, NB144_153.out, NB153_144.out, NB145_153.out, NB153_145.out, NB146_153.out, NB153_146.out, (bw HB)⟩)
                                · skip
                                  refine box_step ?hg (N := 6) ?hd (cs := #[.int .i64 0, .int .i64 0]) (t := 25) ?hr ?_; (case hd => rfl); (case hg => rfl); (case hr => first | (go_simp; done) | (go_simp; rfl))
                                  intro gb154 hg w70 hbox hb
                                  have BK154 := Aside0.mk (hbox)
                                  have GW154 := Aside0.mk ((bz HB _ hg : w.heap.size ≤ gb154))
                                  have GE154 := Aside0.mk ((bz HB _ hg : w.heap.size ≤ gb154))
                                  have NB144_154 := Aside0.mk ((nl BK144 hg : gb144 ≠ gb154))
                                  have NB154_144 := Aside0.mk ((ng BK144 hg : gb154 ≠ gb144))
                                  have NB145_154 := Aside0.mk ((nl BK145 hg : gb145 ≠ gb154))
                                  have NB154_145 := Aside0.mk ((ng BK145 hg : gb154 ≠ gb145))
                                  have NB146_154 := Aside0.mk ((nl BK146 hg : gb146 ≠ gb154))
                                  have NB154_146 := Aside0.mk ((ng BK146 hg : gb154 ≠ gb146))
                                  replace BK144 := Aside0.mk (kb BK144 hb)
                                  replace BK145 := Aside0.mk (kb BK145 hb)
                                  replace BK146 := Aside0.mk (kb BK146 hb)
                                  replace HB := Aside0.mk (below_step (bw HB) hb)
                                  clear hb hbox hg
                                  refine hK.out _ _ ⟨(blk_cell BK144.out 0).trans rfl, (blk_cell BK144.out 1).trans rfl, (blk_cell BK144.out 2).trans rfl, (blk_cell BK144.out 3).trans rfl, (blk_cell BK145.out 0).trans rfl, (blk_cell BK145.out 1).trans rfl, (blk_cell BK145.out 2).trans rfl, (blk_cell BK145.out 3).trans rfl⟩ (fun hHeld => ?_)
                                  clear hK K
                                  refine norm_ (a' := ?_) ?_ ?_
                                  rotate_left
                                  · show Act.put _ (some 6) _ = _
                                    simp only [Act.put, List.setIfInBounds_toArray, List.set_cons_zero, List.set_cons_succ, i64_w, i32_w]
                                    rfl
                                  exact norm_ (by first | (simp only [putAll, Act.put, List.setIfInBounds_toArray, List.set_cons_zero, List.set_cons_succ]; done) | (simp only [putAll, Act.put, List.setIfInBounds_toArray, List.set_cons_zero, List.set_cons_succ]; rfl)) (hJ5 (gb154) _ ⟨hHeld, (kz BK144), (kz BK145), (kz BK146), (kz BK154), GW154.out, GE154.out, NB144_154.out, NB154_144.out, NB145_154.out, NB154_145.out, NB146_154.out, NB154_146.out, (bw HB)⟩)
                              · skip
                                rintro gb154 w71 ⟨hS_, h0_, h1_, h2_, h3_, h4_, h5_, h6_, h7_, h8_, h9_, h10_, h11_, h12_⟩
                                clear BK144 BK145 BK146 HB
                                have BK144 : Aside0 (w71.heap[gb144]? = some (.cells #[.int .i64 a0_0, .int .i64 a0_1, .int .i64 a0_2, .int .i64 a0_3] 47 (0, 0))) := ⟨h0_⟩
                                have BK145 : Aside0 (w71.heap[gb145]? = some (.cells #[.int .i64 a1_0, .int .i64 a1_1, .int .i64 a1_2, .int .i64 a1_3] 47 (0, 0))) := ⟨h1_⟩
                                have BK146 : Aside0 (w71.heap[gb146]? = some (.cells #[.int .i64 0, .int .i64 0, .int .i64 0, .int .i64 0] 47 (0, 0))) := ⟨h2_⟩
                                have BK154 : Aside0 (w71.heap[gb154]? = some (.cells #[.int .i64 0, .int .i64 0] 25 (0, 0))) := ⟨h3_⟩
                                have GW154 : Aside0 (w.heap.size ≤ gb154) := ⟨h4_⟩
                                have GE154 : Aside0 (w.heap.size ≤ gb154) := ⟨h5_⟩
                                have NB144_154 : Aside0 (gb144 ≠ gb154) := ⟨h6_⟩
                                have NB154_144 : Aside0 (gb154 ≠ gb144) := ⟨h7_⟩
                                have NB145_154 : Aside0 (gb145 ≠ gb154) := ⟨h8_⟩
                                have NB154_145 : Aside0 (gb154 ≠ gb145) := ⟨h9_⟩
                                have NB146_154 : Aside0 (gb146 ≠ gb154) := ⟨h10_⟩
                                have NB154_146 : Aside0 (gb154 ≠ gb146) := ⟨h11_⟩
                                have HB : Aside0 (Below w.heap.size w w71) := ⟨h12_⟩
                                clear h0_ h1_ h2_ h3_ h4_ h5_ h6_ h7_ h8_ h9_ h10_ h11_ h12_
                                have hHeld : w71.cell? ⟨gb144, 0, none⟩ = some (.int .i64 a0_0) ∧ w71.cell? ⟨gb144, 1, none⟩ = some (.int .i64 a0_1) ∧ w71.cell? ⟨gb144, 2, none⟩ = some (.int .i64 a0_2) ∧ w71.cell? ⟨gb144, 3, none⟩ = some (.int .i64 a0_3) ∧ w71.cell? ⟨gb145, 0, none⟩ = some (.int .i64 a1_0) ∧ w71.cell? ⟨gb145, 1, none⟩ = some (.int .i64 a1_1) ∧ w71.cell? ⟨gb145, 2, none⟩ = some (.int .i64 a1_2) ∧ w71.cell? ⟨gb145, 3, none⟩ = some (.int .i64 a1_3) := hS_
                                refine norm_ (a' := ?_) ?_ ?_
                                rotate_left
                                · simp only [putAll, Act.put, List.setIfInBounds_toArray, List.set_cons_zero, List.set_cons_succ]
                                  rfl
                                refine two_ (i := 1) (j := 4) (Ni := some 18) (Nj := some 5) (bm 8 39) (bm 8 53) rfl rfl rfl rfl (two_of HT_.out (by kernel_rfl)) (by decide) (by decide) (fun K hK => ?_) (fun K hK => ?_)
                                · skip
                                  refine goes_ Try.func59 (by kernel_rfl) rfl #[.agg #[.int .i64 a0_0, .int .i64 a0_1, .int .i64 a0_2, .int .i64 a0_3]] (by rfl) rfl rfl (by (try simp only [List.map_toArray, List.map_cons, List.map_nil]); first | done | rfl | (simp only [List.length_drop, List.length_take]; rfl)) ?_
                                  with_reducible refine (cell_last.calls a0_0 a0_1 a0_2 a0_3 t149 t150 _ A25.out).mono ?_
                                  rintro e w72 ⟨rfl, hb⟩
                                  refine ⟨_, rfl, ?_⟩
                                  replace BK144 := Aside0.mk (kb BK144 hb)
                                  replace BK145 := Aside0.mk (kb BK145 hb)
                                  replace BK146 := Aside0.mk (kb BK146 hb)
                                  replace BK154 := Aside0.mk (kb BK154 hb)
                                  replace HB := Aside0.mk (below_step (bw HB) hb)
                                  (try clear hb)
                                  (try clear hb2)
                                  (try clear hk)
                                  (try clear hi)
                                  refine hK.out _ _ ⟨(blk_cell BK144.out 0).trans rfl, (blk_cell BK144.out 1).trans rfl, (blk_cell BK144.out 2).trans rfl, (blk_cell BK144.out 3).trans rfl, (blk_cell BK145.out 0).trans rfl, (blk_cell BK145.out 1).trans rfl, (blk_cell BK145.out 2).trans rfl, (blk_cell BK145.out 3).trans rfl⟩ (fun hHeld => ?_)
                                  clear hK K
                                  refine norm_ (a' := ?_) ?_ ?_
                                  rotate_left
                                  · show Act.put _ (some 18) _ = _
                                    simp only [Act.put, List.setIfInBounds_toArray, List.set_cons_zero, List.set_cons_succ, i64_w, i32_w]
                                    rfl
                                  exact norm_ (by first | (simp only [putAll, Act.put, List.setIfInBounds_toArray, List.set_cons_zero, List.set_cons_succ]; done) | (simp only [putAll, Act.put, List.setIfInBounds_toArray, List.set_cons_zero, List.set_cons_succ]; rfl)) (hJ1_5 (gb154) _ ⟨hHeld, (kz BK144), (kz BK145), (kz BK146), (kz BK154), GW154.out, GE154.out, NB144_154.out, NB154_144.out, NB145_154.out, NB154_145.out, NB146_154.out, NB154_146.out, (bw HB)⟩)
                                · skip
                                  refine box_step ?hg (N := 5) ?hd (cs := #[.int .i64 0, .int .i64 0]) (t := 25) ?hr ?_; (case hd => rfl); (case hg => rfl); (case hr => first | (go_simp; done) | (go_simp; rfl))
                                  intro gb153 hg w72 hbox hb
                                  have BK153 := Aside0.mk (hbox)
                                  have GW153 := Aside0.mk ((bz HB _ hg : w.heap.size ≤ gb153))
                                  have GE153 := Aside0.mk ((bz HB _ hg : w.heap.size ≤ gb153))
                                  have NB144_153 := Aside0.mk ((nl BK144 hg : gb144 ≠ gb153))
                                  have NB153_144 := Aside0.mk ((ng BK144 hg : gb153 ≠ gb144))
                                  have NB145_153 := Aside0.mk ((nl BK145 hg : gb145 ≠ gb153))
                                  have NB153_145 := Aside0.mk ((ng BK145 hg : gb153 ≠ gb145))
                                  have NB146_153 := Aside0.mk ((nl BK146 hg : gb146 ≠ gb153))
                                  have NB153_146 := Aside0.mk ((ng BK146 hg : gb153 ≠ gb146))
                                  have NB154_153 := Aside0.mk ((nl BK154 hg : gb154 ≠ gb153))
                                  have NB153_154 := Aside0.mk ((ng BK154 hg : gb153 ≠ gb154))
                                  replace BK144 := Aside0.mk (kb BK144 hb)
                                  replace BK145 := Aside0.mk (kb BK145 hb)
                                  replace BK146 := Aside0.mk (kb BK146 hb)
                                  replace BK154 := Aside0.mk (kb BK154 hb)
                                  replace HB := Aside0.mk (below_step (bw HB) hb)
                                  clear hb hbox hg
                                  refine hK.out _ _ ⟨(blk_cell BK144.out 0).trans rfl, (blk_cell BK144.out 1).trans rfl, (blk_cell BK144.out 2).trans rfl, (blk_cell BK144.out 3).trans rfl, (blk_cell BK145.out 0).trans rfl, (blk_cell BK145.out 1).trans rfl, (blk_cell BK145.out 2).trans rfl, (blk_cell BK145.out 3).trans rfl⟩ (fun hHeld => ?_)
                                  clear hK K
                                  refine norm_ (a' := ?_) ?_ ?_
                                  rotate_left
                                  · show Act.put _ (some 5) _ = _
                                    simp only [Act.put, List.setIfInBounds_toArray, List.set_cons_zero, List.set_cons_succ, i64_w, i32_w]
                                    rfl
                                  exact norm_ (by first | (simp only [putAll, Act.put, List.setIfInBounds_toArray, List.set_cons_zero, List.set_cons_succ]; done) | (simp only [putAll, Act.put, List.setIfInBounds_toArray, List.set_cons_zero, List.set_cons_succ]; rfl)) (hJ4_5 (gb153, gb154) _ ⟨hHeld, (kz BK144), (kz BK145), (kz BK146), (kz BK153), (kz BK154), GW153.out, GE153.out, NB144_153.out, NB153_144.out, NB145_153.out, NB153_145.out, NB146_153.out, NB153_146.out, NB154_153.out, NB153_154.out, GW154.out, GE154.out, NB144_154.out, NB154_144.out, NB145_154.out, NB154_145.out, NB146_154.out, NB154_146.out, (bw HB)⟩)
                            · skip
                              rintro gb153 w71 ⟨hS_, h0_, h1_, h2_, h3_, h4_, h5_, h6_, h7_, h8_, h9_, h10_, h11_, h12_⟩
                              clear BK144 BK145 BK146 HB
                              have BK144 : Aside0 (w71.heap[gb144]? = some (.cells #[.int .i64 a0_0, .int .i64 a0_1, .int .i64 a0_2, .int .i64 a0_3] 47 (0, 0))) := ⟨h0_⟩
                              have BK145 : Aside0 (w71.heap[gb145]? = some (.cells #[.int .i64 a1_0, .int .i64 a1_1, .int .i64 a1_2, .int .i64 a1_3] 47 (0, 0))) := ⟨h1_⟩
                              have BK146 : Aside0 (w71.heap[gb146]? = some (.cells #[.int .i64 0, .int .i64 0, .int .i64 0, .int .i64 0] 47 (0, 0))) := ⟨h2_⟩
                              have BK153 : Aside0 (w71.heap[gb153]? = some (.cells #[.int .i64 0, .int .i64 0] 25 (0, 0))) := ⟨h3_⟩
                              have GW153 : Aside0 (w.heap.size ≤ gb153) := ⟨h4_⟩
                              have GE153 : Aside0 (w.heap.size ≤ gb153) := ⟨h5_⟩
                              have NB144_153 : Aside0 (gb144 ≠ gb153) := ⟨h6_⟩
                              have NB153_144 : Aside0 (gb153 ≠ gb144) := ⟨h7_⟩
                              have NB145_153 : Aside0 (gb145 ≠ gb153) := ⟨h8_⟩
                              have NB153_145 : Aside0 (gb153 ≠ gb145) := ⟨h9_⟩
                              have NB146_153 : Aside0 (gb146 ≠ gb153) := ⟨h10_⟩
                              have NB153_146 : Aside0 (gb153 ≠ gb146) := ⟨h11_⟩
                              have HB : Aside0 (Below w.heap.size w w71) := ⟨h12_⟩
                              clear h0_ h1_ h2_ h3_ h4_ h5_ h6_ h7_ h8_ h9_ h10_ h11_ h12_
                              have hHeld : w71.cell? ⟨gb144, 0, none⟩ = some (.int .i64 a0_0) ∧ w71.cell? ⟨gb144, 1, none⟩ = some (.int .i64 a0_1) ∧ w71.cell? ⟨gb144, 2, none⟩ = some (.int .i64 a0_2) ∧ w71.cell? ⟨gb144, 3, none⟩ = some (.int .i64 a0_3) ∧ w71.cell? ⟨gb145, 0, none⟩ = some (.int .i64 a1_0) ∧ w71.cell? ⟨gb145, 1, none⟩ = some (.int .i64 a1_1) ∧ w71.cell? ⟨gb145, 2, none⟩ = some (.int .i64 a1_2) ∧ w71.cell? ⟨gb145, 3, none⟩ = some (.int .i64 a1_3) := hS_
                              refine norm_ (a' := ?_) ?_ ?_
                              rotate_left
                              · simp only [putAll, Act.put, List.setIfInBounds_toArray, List.set_cons_zero, List.set_cons_succ]
                                rfl
                              refine two_ (i := 1) (j := 5) (Ni := some 18) (Nj := some 6) (bm 8 23) (bm 8 53) rfl rfl rfl rfl (two_of HT_.out (by kernel_rfl)) (by decide) (by decide) (fun K hK => ?_) (fun K hK => ?_)
                              · skip
                                refine goes_ Try.func59 (by kernel_rfl) rfl #[.agg #[.int .i64 a0_0, .int .i64 a0_1, .int .i64 a0_2, .int .i64 a0_3]] (by rfl) rfl rfl (by (try simp only [List.map_toArray, List.map_cons, List.map_nil]); first | done | rfl | (simp only [List.length_drop, List.length_take]; rfl)) ?_
                                with_reducible refine (cell_last.calls a0_0 a0_1 a0_2 a0_3 t149 t150 _ A25.out).mono ?_
                                rintro e w72 ⟨rfl, hb⟩
                                refine ⟨_, rfl, ?_⟩
                                replace BK144 := Aside0.mk (kb BK144 hb)
                                replace BK145 := Aside0.mk (kb BK145 hb)
                                replace BK146 := Aside0.mk (kb BK146 hb)
                                replace BK153 := Aside0.mk (kb BK153 hb)
                                replace HB := Aside0.mk (below_step (bw HB) hb)
                                (try clear hb)
                                (try clear hb2)
                                (try clear hk)
                                (try clear hi)
                                refine hK.out _ _ ⟨(blk_cell BK144.out 0).trans rfl, (blk_cell BK144.out 1).trans rfl, (blk_cell BK144.out 2).trans rfl, (blk_cell BK144.out 3).trans rfl, (blk_cell BK145.out 0).trans rfl, (blk_cell BK145.out 1).trans rfl, (blk_cell BK145.out 2).trans rfl, (blk_cell BK145.out 3).trans rfl⟩ (fun hHeld => ?_)
                                clear hK K
                                refine norm_ (a' := ?_) ?_ ?_
                                rotate_left
                                · show Act.put _ (some 18) _ = _
                                  simp only [Act.put, List.setIfInBounds_toArray, List.set_cons_zero, List.set_cons_succ, i64_w, i32_w]
                                  rfl
                                exact norm_ (by first | (simp only [putAll, Act.put, List.setIfInBounds_toArray, List.set_cons_zero, List.set_cons_succ]; done) | (simp only [putAll, Act.put, List.setIfInBounds_toArray, List.set_cons_zero, List.set_cons_succ]; rfl)) (hJ1_4 (gb153) _ ⟨hHeld, (kz BK144), (kz BK145), (kz BK146), (kz BK153), GW153.out, GE153.out, NB144_153.out, NB153_144.out, NB145_153.out, NB153_145.out, NB146_153.out, NB153_146.out, (bw HB)⟩)
                              · skip
                                refine box_step ?hg (N := 6) ?hd (cs := #[.int .i64 0, .int .i64 0]) (t := 25) ?hr ?_; (case hd => rfl); (case hg => rfl); (case hr => first | (go_simp; done) | (go_simp; rfl))
                                intro gb154 hg w72 hbox hb
                                have BK154 := Aside0.mk (hbox)
                                have GW154 := Aside0.mk ((bz HB _ hg : w.heap.size ≤ gb154))
                                have GE154 := Aside0.mk ((bz HB _ hg : w.heap.size ≤ gb154))
                                have NB144_154 := Aside0.mk ((nl BK144 hg : gb144 ≠ gb154))
                                have NB154_144 := Aside0.mk ((ng BK144 hg : gb154 ≠ gb144))
                                have NB145_154 := Aside0.mk ((nl BK145 hg : gb145 ≠ gb154))
                                have NB154_145 := Aside0.mk ((ng BK145 hg : gb154 ≠ gb145))
                                have NB146_154 := Aside0.mk ((nl BK146 hg : gb146 ≠ gb154))
                                have NB154_146 := Aside0.mk ((ng BK146 hg : gb154 ≠ gb146))
                                have NB153_154 := Aside0.mk ((nl BK153 hg : gb153 ≠ gb154))
                                have NB154_153 := Aside0.mk ((ng BK153 hg : gb154 ≠ gb153))
                                replace BK144 := Aside0.mk (kb BK144 hb)
                                replace BK145 := Aside0.mk (kb BK145 hb)
                                replace BK146 := Aside0.mk (kb BK146 hb)
                                replace BK153 := Aside0.mk (kb BK153 hb)
                                replace HB := Aside0.mk (below_step (bw HB) hb)
                                clear hb hbox hg
                                refine hK.out _ _ ⟨(blk_cell BK144.out 0).trans rfl, (blk_cell BK144.out 1).trans rfl, (blk_cell BK144.out 2).trans rfl, (blk_cell BK144.out 3).trans rfl, (blk_cell BK145.out 0).trans rfl, (blk_cell BK145.out 1).trans rfl, (blk_cell BK145.out 2).trans rfl, (blk_cell BK145.out 3).trans rfl⟩ (fun hHeld => ?_)
                                clear hK K
                                refine norm_ (a' := ?_) ?_ ?_
                                rotate_left
                                · show Act.put _ (some 6) _ = _
                                  simp only [Act.put, List.setIfInBounds_toArray, List.set_cons_zero, List.set_cons_succ, i64_w, i32_w]
                                  rfl
                                exact norm_ (by first | (simp only [putAll, Act.put, List.setIfInBounds_toArray, List.set_cons_zero, List.set_cons_succ]; done) | (simp only [putAll, Act.put, List.setIfInBounds_toArray, List.set_cons_zero, List.set_cons_succ]; rfl)) (hJ4_5 (gb153, gb154) _ ⟨hHeld, (kz BK144), (kz BK145), (kz BK146), (kz BK153), (kz BK154), GW153.out, GE153.out, NB144_153.out, NB153_144.out, NB145_153.out, NB153_145.out, NB146_153.out, NB153_146.out, NB154_153.out, NB153_154.out, GW154.out, GE154.out, NB144_154.out, NB154_144.out, NB145_154.out, NB154_145.out, NB146_154.out, NB154_146.out, (bw HB)⟩)
                          · skip
                            rintro _ w71 ⟨hS_, h0_, h1_, h2_, h3_⟩
                            clear BK144 BK145 BK146 HB
                            have BK144 : Aside0 (w71.heap[gb144]? = some (.cells #[.int .i64 a0_0, .int .i64 a0_1, .int .i64 a0_2, .int .i64 a0_3] 47 (0, 0))) := ⟨h0_⟩
                            have BK145 : Aside0 (w71.heap[gb145]? = some (.cells #[.int .i64 a1_0, .int .i64 a1_1, .int .i64 a1_2, .int .i64 a1_3] 47 (0, 0))) := ⟨h1_⟩
                            have BK146 : Aside0 (w71.heap[gb146]? = some (.cells #[.int .i64 0, .int .i64 0, .int .i64 0, .int .i64 0] 47 (0, 0))) := ⟨h2_⟩
                            have HB : Aside0 (Below w.heap.size w w71) := ⟨h3_⟩
                            clear h0_ h1_ h2_ h3_
                            have hHeld : w71.cell? ⟨gb144, 0, none⟩ = some (.int .i64 a0_0) ∧ w71.cell? ⟨gb144, 1, none⟩ = some (.int .i64 a0_1) ∧ w71.cell? ⟨gb144, 2, none⟩ = some (.int .i64 a0_2) ∧ w71.cell? ⟨gb144, 3, none⟩ = some (.int .i64 a0_3) ∧ w71.cell? ⟨gb145, 0, none⟩ = some (.int .i64 a1_0) ∧ w71.cell? ⟨gb145, 1, none⟩ = some (.int .i64 a1_1) ∧ w71.cell? ⟨gb145, 2, none⟩ = some (.int .i64 a1_2) ∧ w71.cell? ⟨gb145, 3, none⟩ = some (.int .i64 a1_3) := hS_
                            refine norm_ (a' := ?_) ?_ ?_
                            rotate_left
                            · simp only [putAll, Act.put, List.setIfInBounds_toArray, List.set_cons_zero, List.set_cons_succ]
                              rfl
                            refine three_ (i := 3) (j := 4) (k := 5) (Ni := some 20) (Nj := some 5) (Nk := some 6) (bm 8 15) (bm 8 23) (bm 8 39) rfl rfl rfl rfl rfl rfl (three_of HT_.out (by kernel_rfl)) (by decide) (by decide) (by decide) (fun K hK => ?_) (fun K hK => ?_) (fun K hK => ?_)
                            · skip
                              refine goes_ Try.func59 (by kernel_rfl) rfl #[.agg #[.int .i64 a1_0, .int .i64 a1_1, .int .i64 a1_2, .int .i64 a1_3]] (by rfl) rfl rfl (by (try simp only [List.map_toArray, List.map_cons, List.map_nil]); first | done | rfl | (simp only [List.length_drop, List.length_take]; rfl)) ?_
                              with_reducible refine (cell_last.calls a1_0 a1_1 a1_2 a1_3 t151 t152 _ A26.out).mono ?_
                              rintro e w72 ⟨rfl, hb⟩
                              refine ⟨_, rfl, ?_⟩
                              replace BK144 := Aside0.mk (kb BK144 hb)
                              replace BK145 := Aside0.mk (kb BK145 hb)
                              replace BK146 := Aside0.mk (kb BK146 hb)
                              replace HB := Aside0.mk (below_step (bw HB) hb)
                              (try clear hb)
                              (try clear hb2)
                              (try clear hk)
                              (try clear hi)
                              refine hK.out _ _ ⟨(blk_cell BK144.out 0).trans rfl, (blk_cell BK144.out 1).trans rfl, (blk_cell BK144.out 2).trans rfl, (blk_cell BK144.out 3).trans rfl, (blk_cell BK145.out 0).trans rfl, (blk_cell BK145.out 1).trans rfl, (blk_cell BK145.out 2).trans rfl, (blk_cell BK145.out 3).trans rfl⟩ (fun hHeld => ?_)
                              clear hK K
                              refine norm_ (a' := ?_) ?_ ?_
                              rotate_left
                              · show Act.put _ (some 20) _ = _
                                simp only [Act.put, List.setIfInBounds_toArray, List.set_cons_zero, List.set_cons_succ, i64_w, i32_w]
                                rfl
                              exact norm_ (by first | (simp only [putAll, Act.put, List.setIfInBounds_toArray, List.set_cons_zero, List.set_cons_succ]; done) | (simp only [putAll, Act.put, List.setIfInBounds_toArray, List.set_cons_zero, List.set_cons_succ]; rfl)) (hJ1_3 () _ ⟨hHeld, (kz BK144), (kz BK145), (kz BK146), (bw HB)⟩)
                            · skip
                              refine box_step ?hg (N := 5) ?hd (cs := #[.int .i64 0, .int .i64 0]) (t := 25) ?hr ?_; (case hd => rfl); (case hg => rfl); (case hr => first | (go_simp; done) | (go_simp; rfl))
                              intro gb153 hg w72 hbox hb
                              have BK153 := Aside0.mk (hbox)
                              have GW153 := Aside0.mk ((bz HB _ hg : w.heap.size ≤ gb153))
                              have GE153 := Aside0.mk ((bz HB _ hg : w.heap.size ≤ gb153))
                              have NB144_153 := Aside0.mk ((nl BK144 hg : gb144 ≠ gb153))
                              have NB153_144 := Aside0.mk ((ng BK144 hg : gb153 ≠ gb144))
                              have NB145_153 := Aside0.mk ((nl BK145 hg : gb145 ≠ gb153))
                              have NB153_145 := Aside0.mk ((ng BK145 hg : gb153 ≠ gb145))
                              have NB146_153 := Aside0.mk ((nl BK146 hg : gb146 ≠ gb153))
                              have NB153_146 := Aside0.mk ((ng BK146 hg : gb153 ≠ gb146))
                              replace BK144 := Aside0.mk (kb BK144 hb)
                              replace BK145 := Aside0.mk (kb BK145 hb)
                              replace BK146 := Aside0.mk (kb BK146 hb)
                              replace HB := Aside0.mk (below_step (bw HB) hb)
                              clear hb hbox hg
                              refine hK.out _ _ ⟨(blk_cell BK144.out 0).trans rfl, (blk_cell BK144.out 1).trans rfl, (blk_cell BK144.out 2).trans rfl, (blk_cell BK144.out 3).trans rfl, (blk_cell BK145.out 0).trans rfl, (blk_cell BK145.out 1).trans rfl, (blk_cell BK145.out 2).trans rfl, (blk_cell BK145.out 3).trans rfl⟩ (fun hHeld => ?_)
                              clear hK K
                              refine norm_ (a' := ?_) ?_ ?_
                              rotate_left
                              · show Act.put _ (some 5) _ = _
                                simp only [Act.put, List.setIfInBounds_toArray, List.set_cons_zero, List.set_cons_succ, i64_w, i32_w]
                                rfl
                              exact norm_ (by first | (simp only [putAll, Act.put, List.setIfInBounds_toArray, List.set_cons_zero, List.set_cons_succ]; done) | (simp only [putAll, Act.put, List.setIfInBounds_toArray, List.set_cons_zero, List.set_cons_succ]; rfl)) (hJ1_4 (gb153) _ ⟨hHeld, (kz BK144), (kz BK145), (kz BK146), (kz BK153), GW153.out, GE153.out, NB144_153.out, NB153_144.out, NB145_153.out, NB153_145.out, NB146_153.out, NB153_146.out, (bw HB)⟩)
                            · skip
                              refine box_step ?hg (N := 6) ?hd (cs := #[.int .i64 0, .int .i64 0]) (t := 25) ?hr ?_; (case hd => rfl); (case hg => rfl); (case hr => first | (go_simp; done) | (go_simp; rfl))
                              intro gb154 hg w72 hbox hb
                              have BK154 := Aside0.mk (hbox)
                              have GW154 := Aside0.mk ((bz HB _ hg : w.heap.size ≤ gb154))
                              have GE154 := Aside0.mk ((bz HB _ hg : w.heap.size ≤ gb154))
                              have NB144_154 := Aside0.mk ((nl BK144 hg : gb144 ≠ gb154))
                              have NB154_144 := Aside0.mk ((ng BK144 hg : gb154 ≠ gb144))
                              have NB145_154 := Aside0.mk ((nl BK145 hg : gb145 ≠ gb154))
                              have NB154_145 := Aside0.mk ((ng BK145 hg : gb154 ≠ gb145))
                              have NB146_154 := Aside0.mk ((nl BK146 hg : gb146 ≠ gb154))
                              have NB154_146 := Aside0.mk ((ng BK146 hg : gb154 ≠ gb146))
                              replace BK144 := Aside0.mk (kb BK144 hb)
                              replace BK145 := Aside0.mk (kb BK145 hb)
                              replace BK146 := Aside0.mk (kb BK146 hb)
                              replace HB := Aside0.mk (below_step (bw HB) hb)
                              clear hb hbox hg
                              refine hK.out _ _ ⟨(blk_cell BK144.out 0).trans rfl, (blk_cell BK144.out 1).trans rfl, (blk_cell BK144.out 2).trans rfl, (blk_cell BK144.out 3).trans rfl, (blk_cell BK145.out 0).trans rfl, (blk_cell BK145.out 1).trans rfl, (blk_cell BK145.out 2).trans rfl, (blk_cell BK145.out 3).trans rfl⟩ (fun hHeld => ?_)
                              clear hK K
                              refine norm_ (a' := ?_) ?_ ?_
                              rotate_left
                              · show Act.put _ (some 6) _ = _
                                simp only [Act.put, List.setIfInBounds_toArray, List.set_cons_zero, List.set_cons_succ, i64_w, i32_w]
                                rfl
                              exact norm_ (by first | (simp only [putAll, Act.put, List.setIfInBounds_toArray, List.set_cons_zero, List.set_cons_succ]; done) | (simp only [putAll, Act.put, List.setIfInBounds_toArray, List.set_cons_zero, List.set_cons_succ]; rfl)) (hJ1_5 (gb154) _ ⟨hHeld, (kz BK144), (kz BK145), (kz BK146), (kz BK154), GW154.out, GE154.out, NB144_154.out, NB154_144.out, NB145_154.out, NB154_145.out, NB146_154.out, NB154_146.out, (bw HB)⟩)
                        · skip
                          rintro ⟨gb153, gb154⟩ w72 ⟨hS_, h0_, h1_, h2_, h3_, h4_, h5_, h6_, h7_, h8_, h9_, h10_, h11_, h12_, h13_, h14_, h15_, h16_, h17_, h18_, h19_, h20_, h21_, h22_, h23_⟩
                          clear BK144 BK145 BK146 HB
                          have BK144 : Aside0 (w72.heap[gb144]? = some (.cells #[.int .i64 a0_0, .int .i64 a0_1, .int .i64 a0_2, .int .i64 a0_3] 47 (0, 0))) := ⟨h0_⟩
                          have BK145 : Aside0 (w72.heap[gb145]? = some (.cells #[.int .i64 a1_0, .int .i64 a1_1, .int .i64 a1_2, .int .i64 a1_3] 47 (0, 0))) := ⟨h1_⟩
                          have BK146 : Aside0 (w72.heap[gb146]? = some (.cells #[.int .i64 0, .int .i64 0, .int .i64 0, .int .i64 0] 47 (0, 0))) := ⟨h2_⟩
                          have BK153 : Aside0 (w72.heap[gb153]? = some (.cells #[.int .i64 0, .int .i64 0] 25 (0, 0))) := ⟨h3_⟩
                          have BK154 : Aside0 (w72.heap[gb154]? = some (.cells #[.int .i64 0, .int .i64 0] 25 (0, 0))) := ⟨h4_⟩
                          have GW153 : Aside0 (w.heap.size ≤ gb153) := ⟨h5_⟩
                          have GE153 : Aside0 (w.heap.size ≤ gb153) := ⟨h6_⟩
                          have NB144_153 : Aside0 (gb144 ≠ gb153) := ⟨h7_⟩
                          have NB153_144 : Aside0 (gb153 ≠ gb144) := ⟨h8_⟩
                          have NB145_153 : Aside0 (gb145 ≠ gb153) := ⟨h9_⟩
                          have NB153_145 : Aside0 (gb153 ≠ gb145) := ⟨h10_⟩
                          have NB146_153 : Aside0 (gb146 ≠ gb153) := ⟨h11_⟩
                          have NB153_146 : Aside0 (gb153 ≠ gb146) := ⟨h12_⟩
                          have NB154_153 : Aside0 (gb154 ≠ gb153) := ⟨h13_⟩
                          have NB153_154 : Aside0 (gb153 ≠ gb154) := ⟨h14_⟩
                          have GW154 : Aside0 (w.heap.size ≤ gb154) := ⟨h15_⟩
                          have GE154 : Aside0 (w.heap.size ≤ gb154) := ⟨h16_⟩
                          have NB144_154 : Aside0 (gb144 ≠ gb154) := ⟨h17_⟩
                          have NB154_144 : Aside0 (gb154 ≠ gb144) := ⟨h18_⟩
                          have NB145_154 : Aside0 (gb145 ≠ gb154) := ⟨h19_⟩
                          have NB154_145 : Aside0 (gb154 ≠ gb145) := ⟨h20_⟩
                          have NB146_154 : Aside0 (gb146 ≠ gb154) := ⟨h21_⟩
                          have NB154_146 : Aside0 (gb154 ≠ gb146) := ⟨h22_⟩
                          have HB : Aside0 (Below w.heap.size w w72) := ⟨h23_⟩
                          clear h0_ h1_ h2_ h3_ h4_ h5_ h6_ h7_ h8_ h9_ h10_ h11_ h12_ h13_ h14_ h15_ h16_ h17_ h18_ h19_ h20_ h21_ h22_ h23_
                          have hHeld : w72.cell? ⟨gb144, 0, none⟩ = some (.int .i64 a0_0) ∧ w72.cell? ⟨gb144, 1, none⟩ = some (.int .i64 a0_1) ∧ w72.cell? ⟨gb144, 2, none⟩ = some (.int .i64 a0_2) ∧ w72.cell? ⟨gb144, 3, none⟩ = some (.int .i64 a0_3) ∧ w72.cell? ⟨gb145, 0, none⟩ = some (.int .i64 a1_0) ∧ w72.cell? ⟨gb145, 1, none⟩ = some (.int .i64 a1_1) ∧ w72.cell? ⟨gb145, 2, none⟩ = some (.int .i64 a1_2) ∧ w72.cell? ⟨gb145, 3, none⟩ = some (.int .i64 a1_3) := hS_
                          refine norm_ (a' := ?_) ?_ ?_
                          rotate_left
                          · simp only [putAll, Act.put, List.setIfInBounds_toArray, List.set_cons_zero, List.set_cons_succ]
                            rfl
                          refine one_ (i := 1) (N := some 18) (bm 8 55) rfl rfl (one_of HT_.out (by kernel_rfl)) (by decide) (fun K hK => ?_)
                          refine goes_ Try.func59 (by kernel_rfl) rfl #[.agg #[.int .i64 a0_0, .int .i64 a0_1, .int .i64 a0_2, .int .i64 a0_3]] (by rfl) rfl rfl (by (try simp only [List.map_toArray, List.map_cons, List.map_nil]); first | done | rfl | (simp only [List.length_drop, List.length_take]; rfl)) ?_
                          with_reducible refine (cell_last.calls a0_0 a0_1 a0_2 a0_3 t149 t150 _ A25.out).mono ?_
                          rintro e w73 ⟨rfl, hb⟩
                          refine ⟨_, rfl, ?_⟩
                          replace BK144 := Aside0.mk (kb BK144 hb)
                          replace BK145 := Aside0.mk (kb BK145 hb)
                          replace BK146 := Aside0.mk (kb BK146 hb)
                          replace BK153 := Aside0.mk (kb BK153 hb)
                          replace BK154 := Aside0.mk (kb BK154 hb)
                          replace HB := Aside0.mk (below_step (bw HB) hb)
                          (try clear hb)
                          (try clear hb2)
                          (try clear hk)
                          (try clear hi)
                          refine hK.out _ _ ⟨(blk_cell BK144.out 0).trans rfl, (blk_cell BK144.out 1).trans rfl, (blk_cell BK144.out 2).trans rfl, (blk_cell BK144.out 3).trans rfl, (blk_cell BK145.out 0).trans rfl, (blk_cell BK145.out 1).trans rfl, (blk_cell BK145.out 2).trans rfl, (blk_cell BK145.out 3).trans rfl⟩ (fun hHeld => ?_)
                          clear hK K
                          refine norm_ (a' := ?_) ?_ ?_
                          rotate_left
                          · show Act.put _ (some 18) _ = _
                            simp only [Act.put, List.setIfInBounds_toArray, List.set_cons_zero, List.set_cons_succ, i64_w, i32_w]
                            rfl
                          exact norm_ (by first | (simp only [putAll, Act.put, List.setIfInBounds_toArray, List.set_cons_zero, List.set_cons_succ]; done) | (simp only [putAll, Act.put, List.setIfInBounds_toArray, List.set_cons_zero, List.set_cons_succ]; rfl)) (hJ1_4_5 (gb153, gb154) _ ⟨hHeld, (kz BK144), (kz BK145), (kz BK146), (kz BK153), (kz BK154), GW153.out, GE153.out, NB144_153.out, NB153_144.out, NB145_153.out, NB153_145.out, NB146_153.out, NB153_146.out, NB154_153.out, NB153_154.out, GW154.out, GE154.out, NB144_154.out, NB154_144.out, NB145_154.out, NB154_145.out, NB146_154.out, NB154_146.out, (bw HB)⟩)
                      · skip
                        rintro gb154 w72 ⟨hS_, h0_, h1_, h2_, h3_, h4_, h5_, h6_, h7_, h8_, h9_, h10_, h11_, h12_⟩
                        clear BK144 BK145 BK146 HB
                        have BK144 : Aside0 (w72.heap[gb144]? = some (.cells #[.int .i64 a0_0, .int .i64 a0_1, .int .i64 a0_2, .int .i64 a0_3] 47 (0, 0))) := ⟨h0_⟩
                        have BK145 : Aside0 (w72.heap[gb145]? = some (.cells #[.int .i64 a1_0, .int .i64 a1_1, .int .i64 a1_2, .int .i64 a1_3] 47 (0, 0))) := ⟨h1_⟩
                        have BK146 : Aside0 (w72.heap[gb146]? = some (.cells #[.int .i64 0, .int .i64 0, .int .i64 0, .int .i64 0] 47 (0, 0))) := ⟨h2_⟩
                        have BK154 : Aside0 (w72.heap[gb154]? = some (.cells #[.int .i64 0, .int .i64 0] 25 (0, 0))) := ⟨h3_⟩
                        have GW154 : Aside0 (w.heap.size ≤ gb154) := ⟨h4_⟩
                        have GE154 : Aside0 (w.heap.size ≤ gb154) := ⟨h5_⟩
                        have NB144_154 : Aside0 (gb144 ≠ gb154) := ⟨h6_⟩
                        have NB154_144 : Aside0 (gb154 ≠ gb144) := ⟨h7_⟩
                        have NB145_154 : Aside0 (gb145 ≠ gb154) := ⟨h8_⟩
                        have NB154_145 : Aside0 (gb154 ≠ gb145) := ⟨h9_⟩
                        have NB146_154 : Aside0 (gb146 ≠ gb154) := ⟨h10_⟩
                        have NB154_146 : Aside0 (gb154 ≠ gb146) := ⟨h11_⟩
                        have HB : Aside0 (Below w.heap.size w w72) := ⟨h12_⟩
                        clear h0_ h1_ h2_ h3_ h4_ h5_ h6_ h7_ h8_ h9_ h10_ h11_ h12_
                        have hHeld : w72.cell? ⟨gb144, 0, none⟩ = some (.int .i64 a0_0) ∧ w72.cell? ⟨gb144, 1, none⟩ = some (.int .i64 a0_1) ∧ w72.cell? ⟨gb144, 2, none⟩ = some (.int .i64 a0_2) ∧ w72.cell? ⟨gb144, 3, none⟩ = some (.int .i64 a0_3) ∧ w72.cell? ⟨gb145, 0, none⟩ = some (.int .i64 a1_0) ∧ w72.cell? ⟨gb145, 1, none⟩ = some (.int .i64 a1_1) ∧ w72.cell? ⟨gb145, 2, none⟩ = some (.int .i64 a1_2) ∧ w72.cell? ⟨gb145, 3, none⟩ = some (.int .i64 a1_3) := hS_
                        refine norm_ (a' := ?_) ?_ ?_
                        rotate_left
                        · simp only [putAll, Act.put, List.setIfInBounds_toArray, List.set_cons_zero, List.set_cons_succ]
                          rfl
                        refine two_ (i := 3) (j := 4) (Ni := some 20) (Nj := some 5) (bm 8 47) (bm 8 55) rfl rfl rfl rfl (two_of HT_.out (by kernel_rfl)) (by decide) (by decide) (fun K hK => ?_) (fun K hK => ?_)
                        · skip
                          refine goes_ Try.func59 (by kernel_rfl) rfl #[.agg #[.int .i64 a1_0, .int .i64 a1_1, .int .i64 a1_2, .int .i64 a1_3]] (by rfl) rfl rfl (by (try simp only [List.map_toArray, List.map_cons, List.map_nil]); first | done | rfl | (simp only [List.length_drop, List.length_take]; rfl)) ?_
                          with_reducible refine (cell_last.calls a1_0 a1_1 a1_2 a1_3 t151 t152 _ A26.out).mono ?_
                          rintro e w73 ⟨rfl, hb⟩
                          refine ⟨_, rfl, ?_⟩
                          replace BK144 := Aside0.mk (kb BK144 hb)
                          replace BK145 := Aside0.mk (kb BK145 hb)
                          replace BK146 := Aside0.mk (kb BK146 hb)
                          replace BK154 := Aside0.mk (kb BK154 hb)
                          replace HB := Aside0.mk (below_step (bw HB) hb)
                          (try clear hb)
                          (try clear hb2)
                          (try clear hk)
                          (try clear hi)
                          refine hK.out _ _ ⟨(blk_cell BK144.out 0).trans rfl, (blk_cell BK144.out 1).trans rfl, (blk_cell BK144.out 2).trans rfl, (blk_cell BK144.out 3).trans rfl, (blk_cell BK145.out 0).trans rfl, (blk_cell BK145.out 1).trans rfl, (blk_cell BK145.out 2).trans rfl, (blk_cell BK145.out 3).trans rfl⟩ (fun hHeld => ?_)
                          clear hK K
                          refine norm_ (a' := ?_) ?_ ?_
                          rotate_left
                          · show Act.put _ (some 20) _ = _
                            simp only [Act.put, List.setIfInBounds_toArray, List.set_cons_zero, List.set_cons_succ, i64_w, i32_w]
                            rfl
                          exact norm_ (by first | (simp only [putAll, Act.put, List.setIfInBounds_toArray, List.set_cons_zero, List.set_cons_succ]; done) | (simp only [putAll, Act.put, List.setIfInBounds_toArray, List.set_cons_zero, List.set_cons_succ]; rfl)) (hJ1_3_5 (gb154) _ ⟨hHeld, (kz BK144), (kz BK145), (kz BK146), (kz BK154), GW154.out, GE154.out, NB144_154.out, NB154_144.out, NB145_154.out, NB154_145.out, NB146_154.out, NB154_146.out, (bw HB)⟩)
                        · skip
                          refine box_step ?hg (N := 5) ?hd (cs := #[.int .i64 0, .int .i64 0]) (t := 25) ?hr ?_; (case hd => rfl); (case hg => rfl); (case hr => first | (go_simp; done) | (go_simp; rfl))
                          intro gb153 hg w73 hbox hb
                          have BK153 := Aside0.mk (hbox)
                          have GW153 := Aside0.mk ((bz HB _ hg : w.heap.size ≤ gb153))
                          have GE153 := Aside0.mk ((bz HB _ hg : w.heap.size ≤ gb153))
                          have NB144_153 := Aside0.mk ((nl BK144 hg : gb144 ≠ gb153))
                          have NB153_144 := Aside0.mk ((ng BK144 hg : gb153 ≠ gb144))
                          have NB145_153 := Aside0.mk ((nl BK145 hg : gb145 ≠ gb153))
                          have NB153_145 := Aside0.mk ((ng BK145 hg : gb153 ≠ gb145))
                          have NB146_153 := Aside0.mk ((nl BK146 hg : gb146 ≠ gb153))
                          have NB153_146 := Aside0.mk ((ng BK146 hg : gb153 ≠ gb146))
                          have NB154_153 := Aside0.mk ((nl BK154 hg : gb154 ≠ gb153))
                          have NB153_154 := Aside0.mk ((ng BK154 hg : gb153 ≠ gb154))
                          replace BK144 := Aside0.mk (kb BK144 hb)
                          replace BK145 := Aside0.mk (kb BK145 hb)
                          replace BK146 := Aside0.mk (kb BK146 hb)
                          replace BK154 := Aside0.mk (kb BK154 hb)
                          replace HB := Aside0.mk (below_step (bw HB) hb)
                          clear hb hbox hg
                          refine hK.out _ _ ⟨(blk_cell BK144.out 0).trans rfl, (blk_cell BK144.out 1).trans rfl, (blk_cell BK144.out 2).trans rfl, (blk_cell BK144.out 3).trans rfl, (blk_cell BK145.out 0).trans rfl, (blk_cell BK145.out 1).trans rfl, (blk_cell BK145.out 2).trans rfl, (blk_cell BK145.out 3).trans rfl⟩ (fun hHeld => ?_)
                          clear hK K
                          refine norm_ (a' := ?_) ?_ ?_
                          rotate_left
                          · show Act.put _ (some 5) _ = _
                            simp only [Act.put, List.setIfInBounds_toArray, List.set_cons_zero, List.set_cons_succ, i64_w, i32_w]
                            rfl
                          exact norm_ (by first | (simp only [putAll, Act.put, List.setIfInBounds_toArray, List.set_cons_zero, List.set_cons_succ]; done) | (simp only [putAll, Act.put, List.setIfInBounds_toArray, List.set_cons_zero, List.set_cons_succ]; rfl)) (hJ1_4_5 (gb153, gb154) _ ⟨hHeld, (kz BK144), (kz BK145), (kz BK146), (kz BK153), (kz BK154), GW153.out, GE153.out, NB144_153.out, NB153_144.out, NB145_153.out, NB153_145.out, NB146_153.out, NB153_146.out, NB154_153.out, NB153_154.out, GW154.out, GE154.out, NB144_154.out, NB154_144.out, NB145_154.out, NB154_145.out, NB146_154.out, NB154_146.out, (bw HB)⟩)
                    · skip
                      rintro gb153 w72 ⟨hS_, h0_, h1_, h2_, h3_, h4_, h5_, h6_, h7_, h8_, h9_, h10_, h11_, h12_⟩
                      clear BK144 BK145 BK146 HB
                      have BK144 : Aside0 (w72.heap[gb144]? = some (.cells #[.int .i64 a0_0, .int .i64 a0_1, .int .i64 a0_2, .int .i64 a0_3] 47 (0, 0))) := ⟨h0_⟩
                      have BK145 : Aside0 (w72.heap[gb145]? = some (.cells #[.int .i64 a1_0, .int .i64 a1_1, .int .i64 a1_2, .int .i64 a1_3] 47 (0, 0))) := ⟨h1_⟩
                      have BK146 : Aside0 (w72.heap[gb146]? = some (.cells #[.int .i64 0, .int .i64 0, .int .i64 0, .int .i64 0] 47 (0, 0))) := ⟨h2_⟩
                      have BK153 : Aside0 (w72.heap[gb153]? = some (.cells #[.int .i64 0, .int .i64 0] 25 (0, 0))) := ⟨h3_⟩
                      have GW153 : Aside0 (w.heap.size ≤ gb153) := ⟨h4_⟩
                      have GE153 : Aside0 (w.heap.size ≤ gb153) := ⟨h5_⟩
                      have NB144_153 : Aside0 (gb144 ≠ gb153) := ⟨h6_⟩
                      have NB153_144 : Aside0 (gb153 ≠ gb144) := ⟨h7_⟩
                      have NB145_153 : Aside0 (gb145 ≠ gb153) := ⟨h8_⟩
                      have NB153_145 : Aside0 (gb153 ≠ gb145) := ⟨h9_⟩
                      have NB146_153 : Aside0 (gb146 ≠ gb153) := ⟨h10_⟩
                      have NB153_146 : Aside0 (gb153 ≠ gb146) := ⟨h11_⟩
                      have HB : Aside0 (Below w.heap.size w w72) := ⟨h12_⟩
                      clear h0_ h1_ h2_ h3_ h4_ h5_ h6_ h7_ h8_ h9_ h10_ h11_ h12_
                      have hHeld : w72.cell? ⟨gb144, 0, none⟩ = some (.int .i64 a0_0) ∧ w72.cell? ⟨gb144, 1, none⟩ = some (.int .i64 a0_1) ∧ w72.cell? ⟨gb144, 2, none⟩ = some (.int .i64 a0_2) ∧ w72.cell? ⟨gb144, 3, none⟩ = some (.int .i64 a0_3) ∧ w72.cell? ⟨gb145, 0, none⟩ = some (.int .i64 a1_0) ∧ w72.cell? ⟨gb145, 1, none⟩ = some (.int .i64 a1_1) ∧ w72.cell? ⟨gb145, 2, none⟩ = some (.int .i64 a1_2) ∧ w72.cell? ⟨gb145, 3, none⟩ = some (.int .i64 a1_3) := hS_
                      refine norm_ (a' := ?_) ?_ ?_
                      rotate_left
                      · simp only [putAll, Act.put, List.setIfInBounds_toArray, List.set_cons_zero, List.set_cons_succ]
                        rfl
                      refine two_ (i := 3) (j := 5) (Ni := some 20) (Nj := some 6) (bm 8 31) (bm 8 55) rfl rfl rfl rfl (two_of HT_.out (by kernel_rfl)) (by decide) (by decide) (fun K hK => ?_) (fun K hK => ?_)
                      · skip
                        refine goes_ Try.func59 (by kernel_rfl) rfl #[.agg #[.int .i64 a1_0, .int .i64 a1_1, .int .i64 a1_2, .int .i64 a1_3]] (by rfl) rfl rfl (by (try simp only [List.map_toArray, List.map_cons, List.map_nil]); first | done | rfl | (simp only [List.length_drop, List.length_take]; rfl)) ?_
                        with_reducible refine (cell_last.calls a1_0 a1_1 a1_2 a1_3 t151 t152 _ A26.out).mono ?_
                        rintro e w73 ⟨rfl, hb⟩
                        refine ⟨_, rfl, ?_⟩
                        replace BK144 := Aside0.mk (kb BK144 hb)
                        replace BK145 := Aside0.mk (kb BK145 hb)
                        replace BK146 := Aside0.mk (kb BK146 hb)
                        replace BK153 := Aside0.mk (kb BK153 hb)
                        replace HB := Aside0.mk (below_step (bw HB) hb)
                        (try clear hb)
                        (try clear hb2)
                        (try clear hk)
                        (try clear hi)
                        refine hK.out _ _ ⟨(blk_cell BK144.out 0).trans rfl, (blk_cell BK144.out 1).trans rfl, (blk_cell BK144.out 2).trans rfl, (blk_cell BK144.out 3).trans rfl, (blk_cell BK145.out 0).trans rfl, (blk_cell BK145.out 1).trans rfl, (blk_cell BK145.out 2).trans rfl, (blk_cell BK145.out 3).trans rfl⟩ (fun hHeld => ?_)
                        clear hK K
                        refine norm_ (a' := ?_) ?_ ?_
                        rotate_left
                        · show Act.put _ (some 20) _ = _
                          simp only [Act.put, List.setIfInBounds_toArray, List.set_cons_zero, List.set_cons_succ, i64_w, i32_w]
                          rfl
                        exact norm_ (by first | (simp only [putAll, Act.put, List.setIfInBounds_toArray, List.set_cons_zero, List.set_cons_succ]; done) | (simp only [putAll, Act.put, List.setIfInBounds_toArray, List.set_cons_zero, List.set_cons_succ]; rfl)) (hJ1_3_4 (gb153) _ ⟨hHeld, (kz BK144), (kz BK145), (kz BK146), (kz BK153), GW153.out, GE153.out, NB144_153.out, NB153_144.out, NB145_153.out, NB153_145.out, NB146_153.out, NB153_146.out, (bw HB)⟩)
                      · skip
                        refine box_step ?hg (N := 6) ?hd (cs := #[.int .i64 0, .int .i64 0]) (t := 25) ?hr ?_; (case hd => rfl); (case hg => rfl); (case hr => first | (go_simp; done) | (go_simp; rfl))
                        intro gb154 hg w73 hbox hb
                        have BK154 := Aside0.mk (hbox)
                        have GW154 := Aside0.mk ((bz HB _ hg : w.heap.size ≤ gb154))
                        have GE154 := Aside0.mk ((bz HB _ hg : w.heap.size ≤ gb154))
                        have NB144_154 := Aside0.mk ((nl BK144 hg : gb144 ≠ gb154))
                        have NB154_144 := Aside0.mk ((ng BK144 hg : gb154 ≠ gb144))
                        have NB145_154 := Aside0.mk ((nl BK145 hg : gb145 ≠ gb154))
                        have NB154_145 := Aside0.mk ((ng BK145 hg : gb154 ≠ gb145))
                        have NB146_154 := Aside0.mk ((nl BK146 hg : gb146 ≠ gb154))
                        have NB154_146 := Aside0.mk ((ng BK146 hg : gb154 ≠ gb146))
                        have NB153_154 := Aside0.mk ((nl BK153 hg : gb153 ≠ gb154))
                        have NB154_153 := Aside0.mk ((ng BK153 hg : gb154 ≠ gb153))
                        replace BK144 := Aside0.mk (kb BK144 hb)
                        replace BK145 := Aside0.mk (kb BK145 hb)
                        replace BK146 := Aside0.mk (kb BK146 hb)
                        replace BK153 := Aside0.mk (kb BK153 hb)
                        replace HB := Aside0.mk (below_step (bw HB) hb)
                        clear hb hbox hg
                        refine hK.out _ _ ⟨(blk_cell BK144.out 0).trans rfl, (blk_cell BK144.out 1).trans rfl, (blk_cell BK144.out 2).trans rfl, (blk_cell BK144.out 3).trans rfl, (blk_cell BK145.out 0).trans rfl, (blk_cell BK145.out 1).trans rfl, (blk_cell BK145.out 2).trans rfl, (blk_cell BK145.out 3).trans rfl⟩ (fun hHeld => ?_)
                        clear hK K
                        refine norm_ (a' := ?_) ?_ ?_
                        rotate_left
                        · show Act.put _ (some 6) _ = _
                          simp only [Act.put, List.setIfInBounds_toArray, List.set_cons_zero, List.set_cons_succ, i64_w, i32_w]
                          rfl
                        exact norm_ (by first | (simp only [putAll, Act.put, List.setIfInBounds_toArray, List.set_cons_zero, List.set_cons_succ]; done) | (simp only [putAll, Act.put, List.setIfInBounds_toArray, List.set_cons_zero, List.set_cons_succ]; rfl)) (hJ1_4_5 (gb153, gb154) _ ⟨hHeld, (kz BK144), (kz BK145), (kz BK146), (kz BK153), (kz BK154), GW153.out, GE153.out, NB144_153.out, NB153_144.out, NB145_153.out, NB153_145.out, NB146_153.out, NB153_146.out, NB154_153.out, NB153_154.out, GW154.out, GE154.out, NB144_154.out, NB154_144.out, NB145_154.out, NB154_145.out, NB146_154.out, NB154_146.out, (bw HB)⟩)
                  · skip
                    rintro _ w72 ⟨hS_, h0_, h1_, h2_, h3_⟩
                    clear BK144 BK145 BK146 HB
                    have BK144 : Aside0 (w72.heap[gb144]? = some (.cells #[.int .i64 a0_0, .int .i64 a0_1, .int .i64 a0_2, .int .i64 a0_3] 47 (0, 0))) := ⟨h0_⟩
                    have BK145 : Aside0 (w72.heap[gb145]? = some (.cells #[.int .i64 a1_0, .int .i64 a1_1, .int .i64 a1_2, .int .i64 a1_3] 47 (0, 0))) := ⟨h1_⟩
                    have BK146 : Aside0 (w72.heap[gb146]? = some (.cells #[.int .i64 0, .int .i64 0, .int .i64 0, .int .i64 0] 47 (0, 0))) := ⟨h2_⟩
                    have HB : Aside0 (Below w.heap.size w w72) := ⟨h3_⟩
                    clear h0_ h1_ h2_ h3_
                    have hHeld : w72.cell? ⟨gb144, 0, none⟩ = some (.int .i64 a0_0) ∧ w72.cell? ⟨gb144, 1, none⟩ = some (.int .i64 a0_1) ∧ w72.cell? ⟨gb144, 2, none⟩ = some (.int .i64 a0_2) ∧ w72.cell? ⟨gb144, 3, none⟩ = some (.int .i64 a0_3) ∧ w72.cell? ⟨gb145, 0, none⟩ = some (.int .i64 a1_0) ∧ w72.cell? ⟨gb145, 1, none⟩ = some (.int .i64 a1_1) ∧ w72.cell? ⟨gb145, 2, none⟩ = some (.int .i64 a1_2) ∧ w72.cell? ⟨gb145, 3, none⟩ = some (.int .i64 a1_3) := hS_
                    refine norm_ (a' := ?_) ?_ ?_
                    rotate_left
                    · simp only [putAll, Act.put, List.setIfInBounds_toArray, List.set_cons_zero, List.set_cons_succ]
                      rfl
                    refine two_ (i := 4) (j := 5) (Ni := some 5) (Nj := some 6) (bm 8 31) (bm 8 47) rfl rfl rfl rfl (two_of HT_.out (by kernel_rfl)) (by decide) (by decide) (fun K hK => ?_) (fun K hK => ?_)
                    · skip
                      refine box_step ?hg (N := 5) ?hd (cs := #[.int .i64 0, .int .i64 0]) (t := 25) ?hr ?_; (case hd => rfl); (case hg => rfl); (case hr => first | (go_simp; done) | (go_simp; rfl))
                      intro gb153 hg w73 hbox hb
                      have BK153 := Aside0.mk (hbox)
                      have GW153 := Aside0.mk ((bz HB _ hg : w.heap.size ≤ gb153))
                      have GE153 := Aside0.mk ((bz HB _ hg : w.heap.size ≤ gb153))
                      have NB144_153 := Aside0.mk ((nl BK144 hg : gb144 ≠ gb153))
                      have NB153_144 := Aside0.mk ((ng BK144 hg : gb153 ≠ gb144))
                      have NB145_153 := Aside0.mk ((nl BK145 hg : gb145 ≠ gb153))
                      have NB153_145 := Aside0.mk ((ng BK145 hg : gb153 ≠ gb145))
                      have NB146_153 := Aside0.mk ((nl BK146 hg : gb146 ≠ gb153))
                      have NB153_146 := Aside0.mk ((ng BK146 hg : gb153 ≠ gb146))
                      replace BK144 := Aside0.mk (kb BK144 hb)
                      replace BK145 := Aside0.mk (kb BK145 hb)
                      replace BK146 := Aside0.mk (kb BK146 hb)
                      replace HB := Aside0.mk (below_step (bw HB) hb)
                      clear hb hbox hg
                      refine hK.out _ _ ⟨(blk_cell BK144.out 0).trans rfl, (blk_cell BK144.out 1).trans rfl, (blk_cell BK144.out 2).trans rfl, (blk_cell BK144.out 3).trans rfl, (blk_cell BK145.out 0).trans rfl, (blk_cell BK145.out 1).trans rfl, (blk_cell BK145.out 2).trans rfl, (blk_cell BK145.out 3).trans rfl⟩ (fun hHeld => ?_)
                      clear hK K
                      refine norm_ (a' := ?_) ?_ ?_
                      rotate_left
                      · show Act.put _ (some 5) _ = _
                        simp only [Act.put, List.setIfInBounds_toArray, List.set_cons_zero, List.set_cons_succ, i64_w, i32_w]
                        rfl
                      exact norm_ (by first | (simp only [putAll, Act.put, List.setIfInBounds_toArray, List.set_cons_zero, List.set_cons_succ]; done) | (simp only [putAll, Act.put, List.setIfInBounds_toArray, List.set_cons_zero, List.set_cons_succ]; rfl)) (hJ1_3_4 (gb153) _ ⟨hHeld, (kz BK144), (kz BK145), (kz BK146), (kz BK153), GW153.out, GE153.out, NB144_153.out, NB153_144.out, NB145_153.out, NB153_145.out, NB146_153.out, NB153_146.out, (bw HB)⟩)
                    · skip
                      refine box_step ?hg (N := 6) ?hd (cs := #[.int .i64 0, .int .i64 0]) (t := 25) ?hr ?_; (case hd => rfl); (case hg => rfl); (case hr => first | (go_simp; done) | (go_simp; rfl))
                      intro gb154 hg w73 hbox hb
                      have BK154 := Aside0.mk (hbox)
                      have GW154 := Aside0.mk ((bz HB _ hg : w.heap.size ≤ gb154))
                      have GE154 := Aside0.mk ((bz HB _ hg : w.heap.size ≤ gb154))
                      have NB144_154 := Aside0.mk ((nl BK144 hg : gb144 ≠ gb154))
                      have NB154_144 := Aside0.mk ((ng BK144 hg : gb154 ≠ gb144))
                      have NB145_154 := Aside0.mk ((nl BK145 hg : gb145 ≠ gb154))
                      have NB154_145 := Aside0.mk ((ng BK145 hg : gb154 ≠ gb145))
                      have NB146_154 := Aside0.mk ((nl BK146 hg : gb146 ≠ gb154))
                      have NB154_146 := Aside0.mk ((ng BK146 hg : gb154 ≠ gb146))
                      replace BK144 := Aside0.mk (kb BK144 hb)
                      replace BK145 := Aside0.mk (kb BK145 hb)
                      replace BK146 := Aside0.mk (kb BK146 hb)
                      replace HB := Aside0.mk (below_step (bw HB) hb)
                      clear hb hbox hg
                      refine hK.out _ _ ⟨(blk_cell BK144.out 0).trans rfl, (blk_cell BK144.out 1).trans rfl, (blk_cell BK144.out 2).trans rfl, (blk_cell BK144.out 3).trans rfl, (blk_cell BK145.out 0).trans rfl, (blk_cell BK145.out 1).trans rfl, (blk_cell BK145.out 2).trans rfl, (blk_cell BK145.out 3).trans rfl⟩ (fun hHeld => ?_)
                      clear hK K
                      refine norm_ (a' := ?_) ?_ ?_
                      rotate_left
                      · show Act.put _ (some 6) _ = _
                        simp only [Act.put, List.setIfInBounds_toArray, List.set_cons_zero, List.set_cons_succ, i64_w, i32_w]
                        rfl
                      exact norm_ (by first | (simp only [putAll, Act.put, List.setIfInBounds_toArray, List.set_cons_zero, List.set_cons_succ]; done) | (simp only [putAll, Act.put, List.setIfInBounds_toArray, List.set_cons_zero, List.set_cons_succ]; rfl)) (hJ1_3_5 (gb154) _ ⟨hHeld, (kz BK144), (kz BK145), (kz BK146), (kz BK154), GW154.out, GE154.out, NB144_154.out, NB154_144.out, NB145_154.out, NB154_145.out, NB146_154.out, NB154_146.out, (bw HB)⟩)
                · skip
                  rintro ⟨gb153, gb154⟩ w73 ⟨hS_, h0_, h1_, h2_, h3_, h4_, h5_, h6_, h7_, h8_, h9_, h10_, h11_, h12_, h13_, h14_, h15_, h16_, h17_, h18_, h19_, h20_, h21_, h22_, h23_⟩
                  clear BK144 BK145 BK146 HB
                  have BK144 : Aside0 (w73.heap[gb144]? = some (.cells #[.int .i64 a0_0, .int .i64 a0_1, .int .i64 a0_2, .int .i64 a0_3] 47 (0, 0))) := ⟨h0_⟩
                  have BK145 : Aside0 (w73.heap[gb145]? = some (.cells #[.int .i64 a1_0, .int .i64 a1_1, .int .i64 a1_2, .int .i64 a1_3] 47 (0, 0))) := ⟨h1_⟩
                  have BK146 : Aside0 (w73.heap[gb146]? = some (.cells #[.int .i64 0, .int .i64 0, .int .i64 0, .int .i64 0] 47 (0, 0))) := ⟨h2_⟩
                  have BK153 : Aside0 (w73.heap[gb153]? = some (.cells #[.int .i64 0, .int .i64 0] 25 (0, 0))) := ⟨h3_⟩
                  have BK154 : Aside0 (w73.heap[gb154]? = some (.cells #[.int .i64 0, .int .i64 0] 25 (0, 0))) := ⟨h4_⟩
                  have GW153 : Aside0 (w.heap.size ≤ gb153) := ⟨h5_⟩
                  have GE153 : Aside0 (w.heap.size ≤ gb153) := ⟨h6_⟩
                  have NB144_153 : Aside0 (gb144 ≠ gb153) := ⟨h7_⟩
                  have NB153_144 : Aside0 (gb153 ≠ gb144) := ⟨h8_⟩
                  have NB145_153 : Aside0 (gb145 ≠ gb153) := ⟨h9_⟩
                  have NB153_145 : Aside0 (gb153 ≠ gb145) := ⟨h10_⟩
                  have NB146_153 : Aside0 (gb146 ≠ gb153) := ⟨h11_⟩
                  have NB153_146 : Aside0 (gb153 ≠ gb146) := ⟨h12_⟩
                  have NB154_153 : Aside0 (gb154 ≠ gb153) := ⟨h13_⟩
                  have NB153_154 : Aside0 (gb153 ≠ gb154) := ⟨h14_⟩
                  have GW154 : Aside0 (w.heap.size ≤ gb154) := ⟨h15_⟩
                  have GE154 : Aside0 (w.heap.size ≤ gb154) := ⟨h16_⟩
                  have NB144_154 : Aside0 (gb144 ≠ gb154) := ⟨h17_⟩
                  have NB154_144 : Aside0 (gb154 ≠ gb144) := ⟨h18_⟩
                  have NB145_154 : Aside0 (gb145 ≠ gb154) := ⟨h19_⟩
                  have NB154_145 : Aside0 (gb154 ≠ gb145) := ⟨h20_⟩
                  have NB146_154 : Aside0 (gb146 ≠ gb154) := ⟨h21_⟩
                  have NB154_146 : Aside0 (gb154 ≠ gb146) := ⟨h22_⟩
                  have HB : Aside0 (Below w.heap.size w w73) := ⟨h23_⟩
                  clear h0_ h1_ h2_ h3_ h4_ h5_ h6_ h7_ h8_ h9_ h10_ h11_ h12_ h13_ h14_ h15_ h16_ h17_ h18_ h19_ h20_ h21_ h22_ h23_
                  have hHeld : w73.cell? ⟨gb144, 0, none⟩ = some (.int .i64 a0_0) ∧ w73.cell? ⟨gb144, 1, none⟩ = some (.int .i64 a0_1) ∧ w73.cell? ⟨gb144, 2, none⟩ = some (.int .i64 a0_2) ∧ w73.cell? ⟨gb144, 3, none⟩ = some (.int .i64 a0_3) ∧ w73.cell? ⟨gb145, 0, none⟩ = some (.int .i64 a1_0) ∧ w73.cell? ⟨gb145, 1, none⟩ = some (.int .i64 a1_1) ∧ w73.cell? ⟨gb145, 2, none⟩ = some (.int .i64 a1_2) ∧ w73.cell? ⟨gb145, 3, none⟩ = some (.int .i64 a1_3) := hS_
                  refine norm_ (a' := ?_) ?_ ?_
                  rotate_left
                  · simp only [putAll, Act.put, List.setIfInBounds_toArray, List.set_cons_zero, List.set_cons_succ]
                    rfl
                  refine one_ (i := 3) (N := some 20) (bm 8 63) rfl rfl (one_of HT_.out (by kernel_rfl)) (by decide) (fun K hK => ?_)
                  refine goes_ Try.func59 (by kernel_rfl) rfl #[.agg #[.int .i64 a1_0, .int .i64 a1_1, .int .i64 a1_2, .int .i64 a1_3]] (by rfl) rfl rfl (by (try simp only [List.map_toArray, List.map_cons, List.map_nil]); first | done | rfl | (simp only [List.length_drop, List.length_take]; rfl)) ?_
                  with_reducible refine (cell_last.calls a1_0 a1_1 a1_2 a1_3 t151 t152 _ A26.out).mono ?_
                  rintro e w74 ⟨rfl, hb⟩
                  refine ⟨_, rfl, ?_⟩
                  replace BK144 := Aside0.mk (kb BK144 hb)
                  replace BK145 := Aside0.mk (kb BK145 hb)
                  replace BK146 := Aside0.mk (kb BK146 hb)
                  replace BK153 := Aside0.mk (kb BK153 hb)
                  replace BK154 := Aside0.mk (kb BK154 hb)
                  replace HB := Aside0.mk (below_step (bw HB) hb)
                  (try clear hb)
                  (try clear hb2)
                  (try clear hk)
                  (try clear hi)
                  refine hK.out _ _ ⟨(blk_cell BK144.out 0).trans rfl, (blk_cell BK144.out 1).trans rfl, (blk_cell BK144.out 2).trans rfl, (blk_cell BK144.out 3).trans rfl, (blk_cell BK145.out 0).trans rfl, (blk_cell BK145.out 1).trans rfl, (blk_cell BK145.out 2).trans rfl, (blk_cell BK145.out 3).trans rfl⟩ (fun hHeld => ?_)
                  clear hK K
                  refine norm_ (a' := ?_) ?_ ?_
                  rotate_left
                  · show Act.put _ (some 20) _ = _
                    simp only [Act.put, List.setIfInBounds_toArray, List.set_cons_zero, List.set_cons_succ, i64_w, i32_w]
                    rfl
                  exact norm_ (by first | (simp only [putAll, Act.put, List.setIfInBounds_toArray, List.set_cons_zero, List.set_cons_succ]; done) | (simp only [putAll, Act.put, List.setIfInBounds_toArray, List.set_cons_zero, List.set_cons_succ]; rfl)) (hJ1_3_4_5 (gb153, gb154) _ ⟨hHeld, (kz BK144), (kz BK145), (kz BK146), (kz BK153), (kz BK154), GW153.out, GE153.out, NB144_153.out, NB153_144.out, NB145_153.out, NB153_145.out, NB146_153.out, NB153_146.out, NB154_153.out, NB153_154.out, GW154.out, GE154.out, NB144_154.out, NB154_144.out, NB145_154.out, NB154_145.out, NB146_154.out, NB154_146.out, (bw HB)⟩)
              · skip
                rintro gb154 w73 ⟨hS_, h0_, h1_, h2_, h3_, h4_, h5_, h6_, h7_, h8_, h9_, h10_, h11_, h12_⟩
                clear BK144 BK145 BK146 HB
                have BK144 : Aside0 (w73.heap[gb144]? = some (.cells #[.int .i64 a0_0, .int .i64 a0_1, .int .i64 a0_2, .int .i64 a0_3] 47 (0, 0))) := ⟨h0_⟩
                have BK145 : Aside0 (w73.heap[gb145]? = some (.cells #[.int .i64 a1_0, .int .i64 a1_1, .int .i64 a1_2, .int .i64 a1_3] 47 (0, 0))) := ⟨h1_⟩
                have BK146 : Aside0 (w73.heap[gb146]? = some (.cells #[.int .i64 0, .int .i64 0, .int .i64 0, .int .i64 0] 47 (0, 0))) := ⟨h2_⟩
                have BK154 : Aside0 (w73.heap[gb154]? = some (.cells #[.int .i64 0, .int .i64 0] 25 (0, 0))) := ⟨h3_⟩
                have GW154 : Aside0 (w.heap.size ≤ gb154) := ⟨h4_⟩
                have GE154 : Aside0 (w.heap.size ≤ gb154) := ⟨h5_⟩
                have NB144_154 : Aside0 (gb144 ≠ gb154) := ⟨h6_⟩
                have NB154_144 : Aside0 (gb154 ≠ gb144) := ⟨h7_⟩
                have NB145_154 : Aside0 (gb145 ≠ gb154) := ⟨h8_⟩
                have NB154_145 : Aside0 (gb154 ≠ gb145) := ⟨h9_⟩
                have NB146_154 : Aside0 (gb146 ≠ gb154) := ⟨h10_⟩
                have NB154_146 : Aside0 (gb154 ≠ gb146) := ⟨h11_⟩
                have HB : Aside0 (Below w.heap.size w w73) := ⟨h12_⟩
                clear h0_ h1_ h2_ h3_ h4_ h5_ h6_ h7_ h8_ h9_ h10_ h11_ h12_
                have hHeld : w73.cell? ⟨gb144, 0, none⟩ = some (.int .i64 a0_0) ∧ w73.cell? ⟨gb144, 1, none⟩ = some (.int .i64 a0_1) ∧ w73.cell? ⟨gb144, 2, none⟩ = some (.int .i64 a0_2) ∧ w73.cell? ⟨gb144, 3, none⟩ = some (.int .i64 a0_3) ∧ w73.cell? ⟨gb145, 0, none⟩ = some (.int .i64 a1_0) ∧ w73.cell? ⟨gb145, 1, none⟩ = some (.int .i64 a1_1) ∧ w73.cell? ⟨gb145, 2, none⟩ = some (.int .i64 a1_2) ∧ w73.cell? ⟨gb145, 3, none⟩ = some (.int .i64 a1_3) := hS_
                refine norm_ (a' := ?_) ?_ ?_
                rotate_left
                · simp only [putAll, Act.put, List.setIfInBounds_toArray, List.set_cons_zero, List.set_cons_succ]
                  rfl
                refine one_ (i := 4) (N := some 5) (bm 8 63) rfl rfl (one_of HT_.out (by kernel_rfl)) (by decide) (fun K hK => ?_)
                refine box_step ?hg (N := 5) ?hd (cs := #[.int .i64 0, .int .i64 0]) (t := 25) ?hr ?_; (case hd => rfl); (case hg => rfl); (case hr => first | (go_simp; done) | (go_simp; rfl))
                intro gb153 hg w74 hbox hb
                have BK153 := Aside0.mk (hbox)
                have GW153 := Aside0.mk ((bz HB _ hg : w.heap.size ≤ gb153))
                have GE153 := Aside0.mk ((bz HB _ hg : w.heap.size ≤ gb153))
                have NB144_153 := Aside0.mk ((nl BK144 hg : gb144 ≠ gb153))
                have NB153_144 := Aside0.mk ((ng BK144 hg : gb153 ≠ gb144))
                have NB145_153 := Aside0.mk ((nl BK145 hg : gb145 ≠ gb153))
                have NB153_145 := Aside0.mk ((ng BK145 hg : gb153 ≠ gb145))
                have NB146_153 := Aside0.mk ((nl BK146 hg : gb146 ≠ gb153))
                have NB153_146 := Aside0.mk ((ng BK146 hg : gb153 ≠ gb146))
                have NB154_153 := Aside0.mk ((nl BK154 hg : gb154 ≠ gb153))
                have NB153_154 := Aside0.mk ((ng BK154 hg : gb153 ≠ gb154))
                replace BK144 := Aside0.mk (kb BK144 hb)
                replace BK145 := Aside0.mk (kb BK145 hb)
                replace BK146 := Aside0.mk (kb BK146 hb)
                replace BK154 := Aside0.mk (kb BK154 hb)
                replace HB := Aside0.mk (below_step (bw HB) hb)
                clear hb hbox hg
                refine hK.out _ _ ⟨(blk_cell BK144.out 0).trans rfl, (blk_cell BK144.out 1).trans rfl, (blk_cell BK144.out 2).trans rfl, (blk_cell BK144.out 3).trans rfl, (blk_cell BK145.out 0).trans rfl, (blk_cell BK145.out 1).trans rfl, (blk_cell BK145.out 2).trans rfl, (blk_cell BK145.out 3).trans rfl⟩ (fun hHeld => ?_)
                clear hK K
                refine norm_ (a' := ?_) ?_ ?_
                rotate_left
                · show Act.put _ (some 5) _ = _
                  simp only [Act.put, List.setIfInBounds_toArray, List.set_cons_zero, List.set_cons_succ, i64_w, i32_w]
                  rfl
                exact norm_ (by first | (simp only [putAll, Act.put, List.setIfInBounds_toArray, List.set_cons_zero, List.set_cons_succ]; done) | (simp only [putAll, Act.put, List.setIfInBounds_toArray, List.set_cons_zero, List.set_cons_succ]; rfl)) (hJ1_3_4_5 (gb153, gb154) _ ⟨hHeld, (kz BK144), (kz BK145), (kz BK146), (kz BK153), (kz BK154), GW153.out, GE153.out, NB144_153.out, NB153_144.out, NB145_153.out, NB153_145.out, NB146_153.out, NB153_146.out, NB154_153.out, NB153_154.out, GW154.out, GE154.out, NB144_154.out, NB154_144.out, NB145_154.out, NB154_145.out, NB146_154.out, NB154_146.out, (bw HB)⟩)
            · skip
              rintro gb153 w73 ⟨hS_, h0_, h1_, h2_, h3_, h4_, h5_, h6_, h7_, h8_, h9_, h10_, h11_, h12_⟩
              clear BK144 BK145 BK146 HB
              have BK144 : Aside0 (w73.heap[gb144]? = some (.cells #[.int .i64 a0_0, .int .i64 a0_1, .int .i64 a0_2, .int .i64 a0_3] 47 (0, 0))) := ⟨h0_⟩
              have BK145 : Aside0 (w73.heap[gb145]? = some (.cells #[.int .i64 a1_0, .int .i64 a1_1, .int .i64 a1_2, .int .i64 a1_3] 47 (0, 0))) := ⟨h1_⟩
              have BK146 : Aside0 (w73.heap[gb146]? = some (.cells #[.int .i64 0, .int .i64 0, .int .i64 0, .int .i64 0] 47 (0, 0))) := ⟨h2_⟩
              have BK153 : Aside0 (w73.heap[gb153]? = some (.cells #[.int .i64 0, .int .i64 0] 25 (0, 0))) := ⟨h3_⟩
              have GW153 : Aside0 (w.heap.size ≤ gb153) := ⟨h4_⟩
              have GE153 : Aside0 (w.heap.size ≤ gb153) := ⟨h5_⟩
              have NB144_153 : Aside0 (gb144 ≠ gb153) := ⟨h6_⟩
              have NB153_144 : Aside0 (gb153 ≠ gb144) := ⟨h7_⟩
              have NB145_153 : Aside0 (gb145 ≠ gb153) := ⟨h8_⟩
              have NB153_145 : Aside0 (gb153 ≠ gb145) := ⟨h9_⟩
              have NB146_153 : Aside0 (gb146 ≠ gb153) := ⟨h10_⟩
              have NB153_146 : Aside0 (gb153 ≠ gb146) := ⟨h11_⟩
              have HB : Aside0 (Below w.heap.size w w73) := ⟨h12_⟩
              clear h0_ h1_ h2_ h3_ h4_ h5_ h6_ h7_ h8_ h9_ h10_ h11_ h12_
              have hHeld : w73.cell? ⟨gb144, 0, none⟩ = some (.int .i64 a0_0) ∧ w73.cell? ⟨gb144, 1, none⟩ = some (.int .i64 a0_1) ∧ w73.cell? ⟨gb144, 2, none⟩ = some (.int .i64 a0_2) ∧ w73.cell? ⟨gb144, 3, none⟩ = some (.int .i64 a0_3) ∧ w73.cell? ⟨gb145, 0, none⟩ = some (.int .i64 a1_0) ∧ w73.cell? ⟨gb145, 1, none⟩ = some (.int .i64 a1_1) ∧ w73.cell? ⟨gb145, 2, none⟩ = some (.int .i64 a1_2) ∧ w73.cell? ⟨gb145, 3, none⟩ = some (.int .i64 a1_3) := hS_
              refine norm_ (a' := ?_) ?_ ?_
              rotate_left
              · simp only [putAll, Act.put, List.setIfInBounds_toArray, List.set_cons_zero, List.set_cons_succ]
                rfl
              refine one_ (i := 5) (N := some 6) (bm 8 63) rfl rfl (one_of HT_.out (by kernel_rfl)) (by decide) (fun K hK => ?_)
              refine box_step ?hg (N := 6) ?hd (cs := #[.int .i64 0, .int .i64 0]) (t := 25) ?hr ?_; (case hd => rfl); (case hg => rfl); (case hr => first | (go_simp; done) | (go_simp; rfl))
              intro gb154 hg w74 hbox hb
              have BK154 := Aside0.mk (hbox)
              have GW154 := Aside0.mk ((bz HB _ hg : w.heap.size ≤ gb154))
              have GE154 := Aside0.mk ((bz HB _ hg : w.heap.size ≤ gb154))
              have NB144_154 := Aside0.mk ((nl BK144 hg : gb144 ≠ gb154))
              have NB154_144 := Aside0.mk ((ng BK144 hg : gb154 ≠ gb144))
              have NB145_154 := Aside0.mk ((nl BK145 hg : gb145 ≠ gb154))
              have NB154_145 := Aside0.mk ((ng BK145 hg : gb154 ≠ gb145))
              have NB146_154 := Aside0.mk ((nl BK146 hg : gb146 ≠ gb154))
              have NB154_146 := Aside0.mk ((ng BK146 hg : gb154 ≠ gb146))
              have NB153_154 := Aside0.mk ((nl BK153 hg : gb153 ≠ gb154))
              have NB154_153 := Aside0.mk ((ng BK153 hg : gb154 ≠ gb153))
              replace BK144 := Aside0.mk (kb BK144 hb)
              replace BK145 := Aside0.mk (kb BK145 hb)
              replace BK146 := Aside0.mk (kb BK146 hb)
              replace BK153 := Aside0.mk (kb BK153 hb)
              replace HB := Aside0.mk (below_step (bw HB) hb)
              clear hb hbox hg
              refine hK.out _ _ ⟨(blk_cell BK144.out 0).trans rfl, (blk_cell BK144.out 1).trans rfl, (blk_cell BK144.out 2).trans rfl, (blk_cell BK144.out 3).trans rfl, (blk_cell BK145.out 0).trans rfl, (blk_cell BK145.out 1).trans rfl, (blk_cell BK145.out 2).trans rfl, (blk_cell BK145.out 3).trans rfl⟩ (fun hHeld => ?_)
              clear hK K
              refine norm_ (a' := ?_) ?_ ?_
              rotate_left
              · show Act.put _ (some 6) _ = _
                simp only [Act.put, List.setIfInBounds_toArray, List.set_cons_zero, List.set_cons_succ, i64_w, i32_w]
                rfl
              exact norm_ (by first | (simp only [putAll, Act.put, List.setIfInBounds_toArray, List.set_cons_zero, List.set_cons_succ]; done) | (simp only [putAll, Act.put, List.setIfInBounds_toArray, List.set_cons_zero, List.set_cons_succ]; rfl)) (hJ1_3_4_5 (gb153, gb154) _ ⟨hHeld, (kz BK144), (kz BK145), (kz BK146), (kz BK153), (kz BK154), GW153.out, GE153.out, NB144_153.out, NB153_144.out, NB145_153.out, NB153_145.out, NB146_153.out, NB153_146.out, NB154_153.out, NB153_154.out, GW154.out, GE154.out, NB144_154.out, NB154_144.out, NB145_154.out, NB154_145.out, NB146_154.out, NB154_146.out, (bw HB)⟩)
          rintro ⟨gb153, gb154⟩ w74 ⟨hS_, h0_, h1_, h2_, h3_, h4_, h5_, h6_, h7_, h8_, h9_, h10_, h11_, h12_, h13_, h14_, h15_, h16_, h17_, h18_, h19_, h20_, h21_, h22_, h23_⟩
          clear BK144 BK145 BK146 HB
          have BK144 : Aside0 (w74.heap[gb144]? = some (.cells #[.int .i64 a0_0, .int .i64 a0_1, .int .i64 a0_2, .int .i64 a0_3] 47 (0, 0))) := ⟨h0_⟩
          have BK145 : Aside0 (w74.heap[gb145]? = some (.cells #[.int .i64 a1_0, .int .i64 a1_1, .int .i64 a1_2, .int .i64 a1_3] 47 (0, 0))) := ⟨h1_⟩
          have BK146 : Aside0 (w74.heap[gb146]? = some (.cells #[.int .i64 0, .int .i64 0, .int .i64 0, .int .i64 0] 47 (0, 0))) := ⟨h2_⟩
          have BK153 : Aside0 (w74.heap[gb153]? = some (.cells #[.int .i64 0, .int .i64 0] 25 (0, 0))) := ⟨h3_⟩
          have BK154 : Aside0 (w74.heap[gb154]? = some (.cells #[.int .i64 0, .int .i64 0] 25 (0, 0))) := ⟨h4_⟩
          have GW153 : Aside0 (w.heap.size ≤ gb153) := ⟨h5_⟩
          have GE153 : Aside0 (w.heap.size ≤ gb153) := ⟨h6_⟩
          have NB144_153 : Aside0 (gb144 ≠ gb153) := ⟨h7_⟩
          have NB153_144 : Aside0 (gb153 ≠ gb144) := ⟨h8_⟩
          have NB145_153 : Aside0 (gb145 ≠ gb153) := ⟨h9_⟩
          have NB153_145 : Aside0 (gb153 ≠ gb145) := ⟨h10_⟩
          have NB146_153 : Aside0 (gb146 ≠ gb153) := ⟨h11_⟩
          have NB153_146 : Aside0 (gb153 ≠ gb146) := ⟨h12_⟩
          have NB154_153 : Aside0 (gb154 ≠ gb153) := ⟨h13_⟩
          have NB153_154 : Aside0 (gb153 ≠ gb154) := ⟨h14_⟩
          have GW154 : Aside0 (w.heap.size ≤ gb154) := ⟨h15_⟩
          have GE154 : Aside0 (w.heap.size ≤ gb154) := ⟨h16_⟩
          have NB144_154 : Aside0 (gb144 ≠ gb154) := ⟨h17_⟩
          have NB154_144 : Aside0 (gb154 ≠ gb144) := ⟨h18_⟩
          have NB145_154 : Aside0 (gb145 ≠ gb154) := ⟨h19_⟩
          have NB154_145 : Aside0 (gb154 ≠ gb145) := ⟨h20_⟩
          have NB146_154 : Aside0 (gb146 ≠ gb154) := ⟨h21_⟩
          have NB154_146 : Aside0 (gb154 ≠ gb146) := ⟨h22_⟩
          have HB : Aside0 (Below w.heap.size w w74) := ⟨h23_⟩
          clear h0_ h1_ h2_ h3_ h4_ h5_ h6_ h7_ h8_ h9_ h10_ h11_ h12_ h13_ h14_ h15_ h16_ h17_ h18_ h19_ h20_ h21_ h22_ h23_
          have hHeld : w74.cell? ⟨gb144, 0, none⟩ = some (.int .i64 a0_0) ∧ w74.cell? ⟨gb144, 1, none⟩ = some (.int .i64 a0_1) ∧ w74.cell? ⟨gb144, 2, none⟩ = some (.int .i64 a0_2) ∧ w74.cell? ⟨gb144, 3, none⟩ = some (.int .i64 a0_3) ∧ w74.cell? ⟨gb145, 0, none⟩ = some (.int .i64 a1_0) ∧ w74.cell? ⟨gb145, 1, none⟩ = some (.int .i64 a1_1) ∧ w74.cell? ⟨gb145, 2, none⟩ = some (.int .i64 a1_2) ∧ w74.cell? ⟨gb145, 3, none⟩ = some (.int .i64 a1_3) := hS_
          refine norm_ (a' := ?_) ?_ ?_
          rotate_left
          · simp only [putAll, Act.put, List.setIfInBounds_toArray, List.set_cons_zero, List.set_cons_succ]
            rfl
          refine one_ (i := 6) (N := none) (bm 8 127) rfl rfl (one_of HT_.out (by kernel_rfl)) (by decide) (fun K hK => ?_)
          have hs75 : w74.cell? ⟨gb153, 0, none⟩ = some (.int .i64 0) := (blk_cell BK153.out 0).trans rfl
          have hfs75 := blk_frozen BK153.out 0
          have hns75_0 := NB144_153.out
          have hns75_1 := NB145_153.out
          have hns75_2 := NB146_153.out
          have hns75_4 := NB154_153.out
          have hms75_0 := NB153_144.out
          have hms75_1 := NB153_145.out
          have hms75_2 := NB153_146.out
          have hms75_4 := NB153_154.out
          have hs76 : w74.cell? ⟨gb153, 1, none⟩ = some (.int .i64 0) := (blk_cell BK153.out 1).trans rfl
          have hfs76 := blk_frozen BK153.out 1
          have hns76_0 := NB144_153.out
          have hns76_1 := NB145_153.out
          have hns76_2 := NB146_153.out
          have hns76_4 := NB154_153.out
          have hms76_0 := NB153_144.out
          have hms76_1 := NB153_145.out
          have hms76_2 := NB153_146.out
          have hms76_4 := NB153_154.out
          refine skip_ (w1 := ?_) (by rfl) rfl ?_ ?_
          rotate_left
          · go_simp
            rfl
          refine hK.out _ _ ⟨((cell_far (p := ⟨gb153, _, none⟩) NB144_153.out _).trans (((cell_far (p := ⟨gb153, _, none⟩) NB144_153.out _).trans (hHeld.1)))), ((cell_far (p := ⟨gb153, _, none⟩) NB144_153.out _).trans (((cell_far (p := ⟨gb153, _, none⟩) NB144_153.out _).trans (hHeld.2.1)))), ((cell_far (p := ⟨gb153, _, none⟩) NB144_153.out _).trans (((cell_far (p := ⟨gb153, _, none⟩) NB144_153.out _).trans (hHeld.2.2.1)))), ((cell_far (p := ⟨gb153, _, none⟩) NB144_153.out _).trans (((cell_far (p := ⟨gb153, _, none⟩) NB144_153.out _).trans (hHeld.2.2.2.1)))), ((cell_far (p := ⟨gb153, _, none⟩) NB145_153.out _).trans (((cell_far (p := ⟨gb153, _, none⟩) NB145_153.out _).trans (hHeld.2.2.2.2.1)))), ((cell_far (p := ⟨gb153, _, none⟩) NB145_153.out _).trans (((cell_far (p := ⟨gb153, _, none⟩) NB145_153.out _).trans (hHeld.2.2.2.2.2.1)))), ((cell_far (p := ⟨gb153, _, none⟩) NB145_153.out _).trans (((cell_far (p := ⟨gb153, _, none⟩) NB145_153.out _).trans (hHeld.2.2.2.2.2.2.1)))), ((cell_far (p := ⟨gb153, _, none⟩) NB145_153.out _).trans (((cell_far (p := ⟨gb153, _, none⟩) NB145_153.out _).trans (hHeld.2.2.2.2.2.2.2))))⟩ (fun hHeld => ?_)
          clear hK K
          refine one_ (i := 7) (N := none) (bm 8 255) rfl rfl (one_of HT_.out (by kernel_rfl)) (by decide) (fun K hK => ?_)
          have hs77 : w74.cell? ⟨gb154, 0, none⟩ = some (.int .i64 0) := (blk_cell BK154.out 0).trans rfl
          have hfs77 := blk_frozen BK154.out 0
          have hns77_0 := NB144_154.out
          have hns77_1 := NB145_154.out
          have hns77_2 := NB146_154.out
          have hns77_3 := NB153_154.out
          have hms77_0 := NB154_144.out
          have hms77_1 := NB154_145.out
          have hms77_2 := NB154_146.out
          have hms77_3 := NB154_153.out
          have hs78 : w74.cell? ⟨gb154, 1, none⟩ = some (.int .i64 0) := (blk_cell BK154.out 1).trans rfl
          have hfs78 := blk_frozen BK154.out 1
          have hns78_0 := NB144_154.out
          have hns78_1 := NB145_154.out
          have hns78_2 := NB146_154.out
          have hns78_3 := NB153_154.out
          have hms78_0 := NB154_144.out
          have hms78_1 := NB154_145.out
          have hms78_2 := NB154_146.out
          have hms78_3 := NB154_153.out
          refine skip_ (w1 := ?_) (by rfl) rfl ?_ ?_
          rotate_left
          · go_simp
            rfl
          refine hK.out _ _ ⟨((cell_far (p := ⟨gb154, _, none⟩) NB144_154.out _).trans (((cell_far (p := ⟨gb154, _, none⟩) NB144_154.out _).trans (hHeld.1)))), ((cell_far (p := ⟨gb154, _, none⟩) NB144_154.out _).trans (((cell_far (p := ⟨gb154, _, none⟩) NB144_154.out _).trans (hHeld.2.1)))), ((cell_far (p := ⟨gb154, _, none⟩) NB144_154.out _).trans (((cell_far (p := ⟨gb154, _, none⟩) NB144_154.out _).trans (hHeld.2.2.1)))), ((cell_far (p := ⟨gb154, _, none⟩) NB144_154.out _).trans (((cell_far (p := ⟨gb154, _, none⟩) NB144_154.out _).trans (hHeld.2.2.2.1)))), ((cell_far (p := ⟨gb154, _, none⟩) NB145_154.out _).trans (((cell_far (p := ⟨gb154, _, none⟩) NB145_154.out _).trans (hHeld.2.2.2.2.1)))), ((cell_far (p := ⟨gb154, _, none⟩) NB145_154.out _).trans (((cell_far (p := ⟨gb154, _, none⟩) NB145_154.out _).trans (hHeld.2.2.2.2.2.1)))), ((cell_far (p := ⟨gb154, _, none⟩) NB145_154.out _).trans (((cell_far (p := ⟨gb154, _, none⟩) NB145_154.out _).trans (hHeld.2.2.2.2.2.2.1)))), ((cell_far (p := ⟨gb154, _, none⟩) NB145_154.out _).trans (((cell_far (p := ⟨gb154, _, none⟩) NB145_154.out _).trans (hHeld.2.2.2.2.2.2.2))))⟩ (fun hHeld => ?_)
          clear hK K
          refine done_ (done_of HT_.out (by kernel_rfl)) ?_
          have hnb79 := NB144_145.out
          have hnc79 := NB145_144.out
          have hnb80 := NB144_146.out
          have hnc80 := NB146_144.out
          have hnb81 := NB144_153.out
          have hnc81 := NB153_144.out
          have hnb82 := NB144_154.out
          have hnc82 := NB154_144.out
          obtain ⟨hcz83_0, hcz83_1, hcz83_2, hcz83_3, hfz83_0, hfz83_1, hfz83_2, hfz83_3⟩ := cz4 BK144
          have hnb84 := NB145_146.out
          have hnc84 := NB146_145.out
          have hnb85 := NB145_153.out
          have hnc85 := NB153_145.out
          have hnb86 := NB145_154.out
          have hnc86 := NB154_145.out
          obtain ⟨hcz87_0, hcz87_1, hcz87_2, hcz87_3, hfz87_0, hfz87_1, hfz87_2, hfz87_3⟩ := cz4 BK145
          have hnb88 := NB153_146.out
          have hnc88 := NB146_153.out
          have hnb89 := NB153_154.out
          have hnc89 := NB154_153.out
          obtain ⟨hcz90_0, hcz90_1, hfz90_0, hfz90_1⟩ := cz2 BK153
          have hnb91 := NB154_146.out
          have hnc91 := NB146_154.out
          obtain ⟨hcz92_0, hcz92_1, hfz92_0, hfz92_1⟩ := cz2 BK154
          try go_wp2_with (first | ((with_reducible refine gate_callee (f := 60) rfl ?_); refine goesL_ (some 47) rfl rfl Try.func60 (by kernel_rfl) rfl #[.agg #[.int .i64 ji27, .int .i64 ji28], .agg #[.int .i64 ji29, .int .i64 ji30]] rfl (by (try simp only [List.map_toArray, List.map_cons, List.map_nil]); first | done | (simp only [hji27, hji28, hji29, hji30]; rfl) | rfl | (simp only [List.length_drop, List.length_take]; rfl)) ?_; (with_reducible refine (cell_between.calls ji27 ji28 ji29 ji30 t155 t156 t157 t158 _ A31.out).mono ?_); rintro e w93 ⟨rfl, hb⟩; refine ⟨_, rfl, ?_⟩; replace BK144 := Aside0.mk (blk_below (g := gb144) (o := .cells #[.int .i64 a0_0, .int .i64 a0_1, .int .i64 a0_2, .int .i64 a0_3] 47 (0, 0)) (by (with_reducible repeat (first | refine blk_drewN ?_ _ | refine blk_drew ?_ | refine blk_alloc ?_ _)); refine blk_far ?_ NB144_154.out _; (with_reducible repeat (first | refine blk_drewN ?_ _ | refine blk_drew ?_ | refine blk_alloc ?_ _)); refine blk_far ?_ NB144_154.out _; (with_reducible repeat (first | refine blk_drewN ?_ _ | refine blk_drew ?_ | refine blk_alloc ?_ _)); refine blk_far ?_ NB144_153.out _; (with_reducible repeat (first | refine blk_drewN ?_ _ | refine blk_drew ?_ | refine blk_alloc ?_ _)); refine blk_far ?_ NB144_153.out _; (with_reducible repeat (first | refine blk_drewN ?_ _ | refine blk_drew ?_ | refine blk_alloc ?_ _)); exact BK144.out) hb); replace BK145 := Aside0.mk (blk_below (g := gb145) (o := .cells #[.int .i64 a1_0, .int .i64 a1_1, .int .i64 a1_2, .int .i64 a1_3] 47 (0, 0)) (by (with_reducible repeat (first | refine blk_drewN ?_ _ | refine blk_drew ?_ | refine blk_alloc ?_ _)); refine blk_far ?_ NB145_154.out _; (with_reducible repeat (first | refine blk_drewN ?_ _ | refine blk_drew ?_ | refine blk_alloc ?_ _)); refine blk_far ?_ NB145_154.out _; (with_reducible repeat (first | refine blk_drewN ?_ _ | refine blk_drew ?_ | refine blk_alloc ?_ _)); refine blk_far ?_ NB145_153.out _; (with_reducible repeat (first | refine blk_drewN ?_ _ | refine blk_drew ?_ | refine blk_alloc ?_ _)); refine blk_far ?_ NB145_153.out _; (with_reducible repeat (first | refine blk_drewN ?_ _ | refine blk_drew ?_ | refine blk_alloc ?_ _)); exact BK145.out) hb); replace BK146 := Aside0.mk (blk_below (g := gb146) (o := .cells #[.int .i64 0, .int .i64 0, .int .i64 0, .int .i64 0] 47 (0, 0)) (by (with_reducible repeat (first | refine blk_drewN ?_ _ | refine blk_drew ?_ | refine blk_alloc ?_ _)); refine blk_far ?_ NB146_154.out _; (with_reducible repeat (first | refine blk_drewN ?_ _ | refine blk_drew ?_ | refine blk_alloc ?_ _)); refine blk_far ?_ NB146_154.out _; (with_reducible repeat (first | refine blk_drewN ?_ _ | refine blk_drew ?_ | refine blk_alloc ?_ _)); refine blk_far ?_ NB146_153.out _; (with_reducible repeat (first | refine blk_drewN ?_ _ | refine blk_drew ?_ | refine blk_alloc ?_ _)); refine blk_far ?_ NB146_153.out _; (with_reducible repeat (first | refine blk_drewN ?_ _ | refine blk_drew ?_ | refine blk_alloc ?_ _)); exact BK146.out) hb); replace BK153 := Aside0.mk (blk_below (g := gb153) (o := .cells #[.int .i64 t149, .int .i64 t150] 25 (0, 0)) (by (with_reducible repeat (first | refine blk_drewN ?_ _ | refine blk_drew ?_ | refine blk_alloc ?_ _)); refine blk_far ?_ NB153_154.out _; (with_reducible repeat (first | refine blk_drewN ?_ _ | refine blk_drew ?_ | refine blk_alloc ?_ _)); refine blk_far ?_ NB153_154.out _; (with_reducible repeat (first | refine blk_drewN ?_ _ | refine blk_drew ?_ | refine blk_alloc ?_ _)); refine blk_put (cs := #[.int .i64 t149, .int .i64 0]) ?_ 1 _ rfl; (with_reducible repeat (first | refine blk_drewN ?_ _ | refine blk_drew ?_ | refine blk_alloc ?_ _)); refine blk_put (cs := #[.int .i64 0, .int .i64 0]) ?_ 0 _ rfl; (with_reducible repeat (first | refine blk_drewN ?_ _ | refine blk_drew ?_ | refine blk_alloc ?_ _)); exact BK153.out) hb); replace BK154 := Aside0.mk (blk_below (g := gb154) (o := .cells #[.int .i64 t151, .int .i64 t152] 25 (0, 0)) (by (with_reducible repeat (first | refine blk_drewN ?_ _ | refine blk_drew ?_ | refine blk_alloc ?_ _)); refine blk_put (cs := #[.int .i64 t151, .int .i64 0]) ?_ 1 _ rfl; (with_reducible repeat (first | refine blk_drewN ?_ _ | refine blk_drew ?_ | refine blk_alloc ?_ _)); refine blk_put (cs := #[.int .i64 0, .int .i64 0]) ?_ 0 _ rfl; (with_reducible repeat (first | refine blk_drewN ?_ _ | refine blk_drew ?_ | refine blk_alloc ?_ _)); refine blk_far ?_ NB154_153.out _; (with_reducible repeat (first | refine blk_drewN ?_ _ | refine blk_drew ?_ | refine blk_alloc ?_ _)); refine blk_far ?_ NB154_153.out _; (with_reducible repeat (first | refine blk_drewN ?_ _ | refine blk_drew ?_ | refine blk_alloc ?_ _)); exact BK154.out) hb); replace HB := Aside0.mk (below_step (bw HB) hb); (try clear hb); (try clear hb2); (try clear hk); (try clear hi)) | ((with_reducible refine gate_dst (N := 7) rfl ?_); refine box_event ?hg (N := 7) ?hd (cs := #[.int .i64 0, .int .i64 0, .int .i64 0, .int .i64 0]) (t := 47) ?hr ?_; (case hd => rfl); (case hg => rfl); (case hr => first | (go_simp; done) | (go_simp; rfl)); intro gb159 hg w94 hbox hb; have BK159 := Aside0.mk (hbox); have GW159 := Aside0.mk ((bz HB _ hg : w.heap.size ≤ gb159)); have GE159 := Aside0.mk ((bz HB _ hg : w.heap.size ≤ gb159)); have NB144_159 := Aside0.mk ((nl BK144 hg : gb144 ≠ gb159)); have NB159_144 := Aside0.mk ((ng BK144 hg : gb159 ≠ gb144)); have NB145_159 := Aside0.mk ((nl BK145 hg : gb145 ≠ gb159)); have NB159_145 := Aside0.mk ((ng BK145 hg : gb159 ≠ gb145)); have NB146_159 := Aside0.mk ((nl BK146 hg : gb146 ≠ gb159)); have NB159_146 := Aside0.mk ((ng BK146 hg : gb159 ≠ gb146)); have NB153_159 := Aside0.mk ((nl BK153 hg : gb153 ≠ gb159)); have NB159_153 := Aside0.mk ((ng BK153 hg : gb159 ≠ gb153)); have NB154_159 := Aside0.mk ((nl BK154 hg : gb154 ≠ gb159)); have NB159_154 := Aside0.mk ((ng BK154 hg : gb159 ≠ gb154)); replace BK144 := Aside0.mk (kb BK144 hb); replace BK145 := Aside0.mk (kb BK145 hb); replace BK146 := Aside0.mk (kb BK146 hb); replace BK153 := Aside0.mk (kb BK153 hb); replace BK154 := Aside0.mk (kb BK154 hb); replace HB := Aside0.mk (below_step (bw HB) hb); clear hb hbox hg; have hnb95 := NB159_144.out; have hnc95 := NB144_159.out; have hnb96 := NB159_145.out; have hnc96 := NB145_159.out; have hnb97 := NB159_146.out; have hnc97 := NB146_159.out; have hnb98 := NB159_153.out; have hnc98 := NB153_159.out; have hnb99 := NB159_154.out; have hnc99 := NB154_159.out; obtain ⟨hcz100_0, hcz100_1, hcz100_2, hcz100_3, hfz100_0, hfz100_1, hfz100_2, hfz100_3⟩ := cz4 BK159) | ((with_reducible refine gate_callee (f := 58) rfl ?_); refine goesL_ (some 49) rfl rfl Try.func58 (by kernel_rfl) rfl #[.agg #[.int .i64 t155, .int .i64 t156, .int .i64 t157, .int .i64 t158]] rfl (by (try simp only [List.map_toArray, List.map_cons, List.map_nil]); first | done | rfl | (simp only [List.length_drop, List.length_take]; rfl)) ?_; (with_reducible refine (cell_May.calls t155 t156 t157 t158 false _ A32.out).mono ?_); rintro e w101 ⟨rfl, hb⟩; refine ⟨_, rfl, ?_⟩; replace BK144 := Aside0.mk (blk_below (g := gb144) (o := .cells #[.int .i64 a0_0, .int .i64 a0_1, .int .i64 a0_2, .int .i64 a0_3] 47 (0, 0)) (by (with_reducible repeat (first | refine blk_drewN ?_ _ | refine blk_drew ?_ | refine blk_alloc ?_ _)); refine blk_far ?_ NB144_159.out _; (with_reducible repeat (first | refine blk_drewN ?_ _ | refine blk_drew ?_ | refine blk_alloc ?_ _)); refine blk_far ?_ NB144_159.out _; (with_reducible repeat (first | refine blk_drewN ?_ _ | refine blk_drew ?_ | refine blk_alloc ?_ _)); refine blk_far ?_ NB144_159.out _; (with_reducible repeat (first | refine blk_drewN ?_ _ | refine blk_drew ?_ | refine blk_alloc ?_ _)); refine blk_far ?_ NB144_159.out _; (with_reducible repeat (first | refine blk_drewN ?_ _ | refine blk_drew ?_ | refine blk_alloc ?_ _)); exact BK144.out) hb); replace BK145 := Aside0.mk (blk_below (g := gb145) (o := .cells #[.int .i64 a1_0, .int .i64 a1_1, .int .i64 a1_2, .int .i64 a1_3] 47 (0, 0)) (by (with_reducible repeat (first | refine blk_drewN ?_ _ | refine blk_drew ?_ | refine blk_alloc ?_ _)); refine blk_far ?_ NB145_159.out _; (with_reducible repeat (first | refine blk_drewN ?_ _ | refine blk_drew ?_ | refine blk_alloc ?_ _)); refine blk_far ?_ NB145_159.out _; (with_reducible repeat (first | refine blk_drewN ?_ _ | refine blk_drew ?_ | refine blk_alloc ?_ _)); refine blk_far ?_ NB145_159.out _; (with_reducible repeat (first | refine blk_drewN ?_ _ | refine blk_drew ?_ | refine blk_alloc ?_ _)); refine blk_far ?_ NB145_159.out _; (with_reducible repeat (first | refine blk_drewN ?_ _ | refine blk_drew ?_ | refine blk_alloc ?_ _)); exact BK145.out) hb); replace BK146 := Aside0.mk (blk_below (g := gb146) (o := .cells #[.int .i64 0, .int .i64 0, .int .i64 0, .int .i64 0] 47 (0, 0)) (by (with_reducible repeat (first | refine blk_drewN ?_ _ | refine blk_drew ?_ | refine blk_alloc ?_ _)); refine blk_far ?_ NB146_159.out _; (with_reducible repeat (first | refine blk_drewN ?_ _ | refine blk_drew ?_ | refine blk_alloc ?_ _)); refine blk_far ?_ NB146_159.out _; (with_reducible repeat (first | refine blk_drewN ?_ _ | refine blk_drew ?_ | refine blk_alloc ?_ _)); refine blk_far ?_ NB146_159.out _; (with_reducible repeat (first | refine blk_drewN ?_ _ | refine blk_drew ?_ | refine blk_alloc ?_ _)); refine blk_far ?_ NB146_159.out _; (with_reducible repeat (first | refine blk_drewN ?_ _ | refine blk_drew ?_ | refine blk_alloc ?_ _)); exact BK146.out) hb); replace BK153 := Aside0.mk (blk_below (g := gb153) (o := .cells #[.int .i64 t149, .int .i64 t150] 25 (0, 0)) (by (with_reducible repeat (first | refine blk_drewN ?_ _ | refine blk_drew ?_ | refine blk_alloc ?_ _)); refine blk_far ?_ NB153_159.out _; (with_reducible repeat (first | refine blk_drewN ?_ _ | refine blk_drew ?_ | refine blk_alloc ?_ _)); refine blk_far ?_ NB153_159.out _; (with_reducible repeat (first | refine blk_drewN ?_ _ | refine blk_drew ?_ | refine blk_alloc ?_ _)); refine blk_far ?_ NB153_159.out _; (with_reducible repeat (first | refine blk_drewN ?_ _ | refine blk_drew ?_ | refine blk_alloc ?_ _)); refine blk_far ?_ NB153_159.out _; (with_reducible repeat (first | refine blk_drewN ?_ _ | refine blk_drew ?_ | refine blk_alloc ?_ _)); exact BK153.out) hb); replace BK154 := Aside0.mk (blk_below (g := gb154) (o := .cells #[.int .i64 t151, .int .i64 t152] 25 (0, 0)) (by (with_reducible repeat (first | refine blk_drewN ?_ _ | refine blk_drew ?_ | refine blk_alloc ?_ _)); refine blk_far ?_ NB154_159.out _; (with_reducible repeat (first | refine blk_drewN ?_ _ | refine blk_drew ?_ | refine blk_alloc ?_ _)); refine blk_far ?_ NB154_159.out _; (with_reducible repeat (first | refine blk_drewN ?_ _ | refine blk_drew ?_ | refine blk_alloc ?_ _)); refine blk_far ?_ NB154_159.out _; (with_reducible repeat (first | refine blk_drewN ?_ _ | refine blk_drew ?_ | refine blk_alloc ?_ _)); refine blk_far ?_ NB154_159.out _; (with_reducible repeat (first | refine blk_drewN ?_ _ | refine blk_drew ?_ | refine blk_alloc ?_ _)); exact BK154.out) hb); replace BK159 := Aside0.mk (blk_below (g := gb159) (o := .cells #[.int .i64 t155, .int .i64 t156, .int .i64 t157, .int .i64 t158] 47 (0, 0)) (by (with_reducible repeat (first | refine blk_drewN ?_ _ | refine blk_drew ?_ | refine blk_alloc ?_ _)); refine blk_put (cs := #[.int .i64 t155, .int .i64 t156, .int .i64 t157, .int .i64 0]) ?_ 3 _ rfl; (with_reducible repeat (first | refine blk_drewN ?_ _ | refine blk_drew ?_ | refine blk_alloc ?_ _)); refine blk_put (cs := #[.int .i64 t155, .int .i64 t156, .int .i64 0, .int .i64 0]) ?_ 2 _ rfl; (with_reducible repeat (first | refine blk_drewN ?_ _ | refine blk_drew ?_ | refine blk_alloc ?_ _)); refine blk_put (cs := #[.int .i64 t155, .int .i64 0, .int .i64 0, .int .i64 0]) ?_ 1 _ rfl; (with_reducible repeat (first | refine blk_drewN ?_ _ | refine blk_drew ?_ | refine blk_alloc ?_ _)); refine blk_put (cs := #[.int .i64 0, .int .i64 0, .int .i64 0, .int .i64 0]) ?_ 0 _ rfl; (with_reducible repeat (first | refine blk_drewN ?_ _ | refine blk_drew ?_ | refine blk_alloc ?_ _)); exact BK159.out) hb); replace HB := Aside0.mk (below_step (bw HB) hb); (try clear hb); (try clear hb2); (try clear hk); (try clear hi); obtain ⟨hcz102_0, hcz102_1, hcz102_2, hcz102_3, hfz102_0, hfz102_1, hfz102_2, hfz102_3⟩ := cz4 BK146))
          refine bodyPost_ret (results_cell_row rfl _ _ gb146 47 #[.int .i64 0, .int .i64 0, .int .i64 0, .int .i64 0] (0, 0) _ rfl (by (with_reducible repeat (first | refine blk_drewN ?_ _ | refine blk_drew ?_ | refine blk_alloc ?_ _)); refine blk_put (cs := #[.int .i64 0, .int .i64 0, .int .i64 0, .int .i64 0]) ?_ 3 _ rfl; (with_reducible repeat (first | refine blk_drewN ?_ _ | refine blk_drew ?_ | refine blk_alloc ?_ _)); refine blk_put (cs := #[.int .i64 0, .int .i64 0, .int .i64 0, .int .i64 0]) ?_ 2 _ rfl; (with_reducible repeat (first | refine blk_drewN ?_ _ | refine blk_drew ?_ | refine blk_alloc ?_ _)); refine blk_put (cs := #[.int .i64 0, .int .i64 0, .int .i64 0, .int .i64 0]) ?_ 1 _ rfl; (with_reducible repeat (first | refine blk_drewN ?_ _ | refine blk_drew ?_ | refine blk_alloc ?_ _)); refine blk_put (cs := #[.int .i64 0, .int .i64 0, .int .i64 0, .int .i64 0]) ?_ 0 _ rfl; (with_reducible repeat (first | refine blk_drewN ?_ _ | refine blk_drew ?_ | refine blk_alloc ?_ _)); exact BK146.out) Try.underlying47 rfl (by kernel_rfl)) rfl ?_
          exact ⟨by first | rfl | (simp [errW_none, errW_some] <;> rfl) | (simp only [← hji27, ← hji28, ← hji29, ← hji30]; first | rfl | (simp [errW_none, errW_some] <;> rfl)) | (simp [*, errW_none, errW_some] <;> rfl) | (simp [max_mx, min_mn, *, errW_none, errW_some]), by repeat (first | (with_reducible first | exact HB.out | apply below_alloc | apply pw_below_drewN | apply below_drew1 | refine below_set ?_ GE144.out | refine below_set ?_ GE145.out | refine below_set ?_ GE146.out | refine below_set ?_ GE153.out | refine below_set ?_ GE154.out | refine below_set ?_ GE159.out) | exact HB.out)⟩

end Go.Proofs.Ytjehijlpdeadiaa.P17b
