-- Written by a program of this session (wip/tools/myprint.py) for this claim: each Go function as a Lean function, and what its call does. Lean checks it.
import Derived.Test.YtjehijlpdeadiaaP17bx0
import Derived.Test.YtjehijlpdeadiaaP17bx8
namespace Go.Proofs.Ytjehijlpdeadiaa.P17b
open Go.RowKit Go.Proofs.YtjehijlpdeadiaaW.PrintWords Go.Proofs.YtjehijlpdeadiaaW.PrintLast
set_option linter.unusedVariables false
set_option linter.unusedSimpArgs false

/-! ### phalanxref03_Hull: function 55 -/
mutual
def phalanxref03_Hull.j0 : Nat → Bool → Int → Int → Int → Int → Int → Int → Int → Int → Option (Int × Int × Int × Int)
  | 0, _, _, _, _, _, _, _, _, _ => none
  | k + 1, x17, x211000, x211001, x211002, x211003, x212000, x212001, x212002, x212003 => if x17 = true then (some (0, 0, 0, 0)) else (if x212000 < x211000 then (phalanxref03_Hull.j1 k x212000 x211001 x211000 x211001 x211002 x211003 x212000 x212001 x212002 x212003) else (phalanxref03_Hull.j1 k x211000 x211001 x211000 x211001 x211002 x211003 x212000 x212001 x212002 x212003))
def phalanxref03_Hull.j1 : Nat → Int → Int → Int → Int → Int → Int → Int → Int → Int → Int → Option (Int × Int × Int × Int)
  | 0, _, _, _, _, _, _, _, _, _, _ => none
  | k + 1, x5, x6, x211000, x211001, x211002, x211003, x212000, x212001, x212002, x212003 => if x212001 < x6 then (phalanxref03_Hull.j2 k x5 x212001 x211000 x211001 x211002 x211003 x212000 x212001 x212002 x212003) else (phalanxref03_Hull.j2 k x5 x6 x211000 x211001 x211002 x211003 x212000 x212001 x212002 x212003)
def phalanxref03_Hull.j2 : Nat → Int → Int → Int → Int → Int → Int → Int → Int → Int → Int → Option (Int × Int × Int × Int)
  | 0, _, _, _, _, _, _, _, _, _, _ => none
  | k + 1, x5, x6, x211000, x211001, x211002, x211003, x212000, x212001, x212002, x212003 => (phalanxref03_Last.f x211000 x211001 x211002 x211003).bind fun bt215 => ((phalanxref03_Last.f x212000 x212001 x212002 x212003).bind fun bt217 => (if bt217.1 > bt215.1 then (phalanxref03_Hull.j3 k x5 x6 bt217.1 bt215.2 bt217.1 bt217.2) else (phalanxref03_Hull.j3 k x5 x6 bt215.1 bt215.2 bt217.1 bt217.2)))
def phalanxref03_Hull.j3 : Nat → Int → Int → Int → Int → Int → Int → Option (Int × Int × Int × Int)
  | 0, _, _, _, _, _, _ => none
  | k + 1, x5, x6, x220000, x220001, x221000, x221001 => if x221001 > x220001 then ((phalanxref03_May.f x5 x6 (wrap64 ((wrap64 (x220000 - x5)) + 1)) (wrap64 ((wrap64 (x221001 - x6)) + 1))).bind fun t222 => (if t222 = true then (some (x5, x6, wrap64 ((wrap64 (x220000 - x5)) + 1), wrap64 ((wrap64 (x221001 - x6)) + 1))) else (some (0, 0, 0, 0)))) else ((phalanxref03_May.f x5 x6 (wrap64 ((wrap64 (x220000 - x5)) + 1)) (wrap64 ((wrap64 (x220001 - x6)) + 1))).bind fun t224 => (if t224 = true then (some (x5, x6, wrap64 ((wrap64 (x220000 - x5)) + 1), wrap64 ((wrap64 (x220001 - x6)) + 1))) else (some (0, 0, 0, 0))))
end
def phalanxref03_Hull.f (k : Nat) (a0_0 : Int) (a0_1 : Int) (a0_2 : Int) (a0_3 : Int) (a1_0 : Int) (a1_1 : Int) (a1_2 : Int) (a1_3 : Int) : Option (Int × Int × Int × Int) := (phalanxref03_May.f a0_0 a0_1 a0_2 a0_3).bind fun t213 => (if t213 = true then ((phalanxref03_May.f a1_0 a1_1 a1_2 a1_3).bind fun t214 => (phalanxref03_Hull.j0 k (!t214) a0_0 a0_1 a0_2 a0_3 a1_0 a1_1 a1_2 a1_3)) else (phalanxref03_Hull.j0 k true a0_0 a0_1 a0_2 a0_3 a1_0 a1_1 a1_2 a1_3))
theorem phalanxref03_Hull.mono_l : ∀ k, (∀ y0 y1 y2 y3 y4 y5 y6 y7 y8, LeO (phalanxref03_Hull.j0 k y0 y1 y2 y3 y4 y5 y6 y7 y8) (phalanxref03_Hull.j0 (k + 1) y0 y1 y2 y3 y4 y5 y6 y7 y8)) ∧ (∀ y0 y1 y2 y3 y4 y5 y6 y7 y8 y9, LeO (phalanxref03_Hull.j1 k y0 y1 y2 y3 y4 y5 y6 y7 y8 y9) (phalanxref03_Hull.j1 (k + 1) y0 y1 y2 y3 y4 y5 y6 y7 y8 y9)) ∧ (∀ y0 y1 y2 y3 y4 y5 y6 y7 y8 y9, LeO (phalanxref03_Hull.j2 k y0 y1 y2 y3 y4 y5 y6 y7 y8 y9) (phalanxref03_Hull.j2 (k + 1) y0 y1 y2 y3 y4 y5 y6 y7 y8 y9)) ∧ (∀ y0 y1 y2 y3 y4 y5, LeO (phalanxref03_Hull.j3 k y0 y1 y2 y3 y4 y5) (phalanxref03_Hull.j3 (k + 1) y0 y1 y2 y3 y4 y5))
  | 0 => ⟨fun _ _ _ _ _ _ _ _ _ r h => by simp [phalanxref03_Hull.j0] at h, fun _ _ _ _ _ _ _ _ _ _ r h => by simp [phalanxref03_Hull.j1] at h, fun _ _ _ _ _ _ _ _ _ _ r h => by simp [phalanxref03_Hull.j2] at h, fun _ _ _ _ _ _ r h => by simp [phalanxref03_Hull.j3] at h⟩
  | k + 1 => by
    obtain ⟨ih0, ih1, ih2, ih3⟩ := phalanxref03_Hull.mono_l k
    refine ⟨?_, ?_, ?_, ?_⟩
    · intro y0 y1 y2 y3 y4 y5 y6 y7 y8
      unfold phalanxref03_Hull.j0
      repeat' first
      | (with_reducible exact ih0 _ _ _ _ _ _ _ _ _)
      | (with_reducible exact ih1 _ _ _ _ _ _ _ _ _ _)
      | (with_reducible exact ih2 _ _ _ _ _ _ _ _ _ _)
      | (with_reducible exact ih3 _ _ _ _ _ _)
      | (with_reducible exact LeO.refl _)
      | (with_reducible exact LeO.none _)
      | (with_reducible refine LeO.ite ?_ ?_)
      | (with_reducible refine LeO.bind ?_ (fun _ => ?_))
      | exact ih0 _ _ _ _ _ _ _ _ _
      | exact ih1 _ _ _ _ _ _ _ _ _ _
      | exact ih2 _ _ _ _ _ _ _ _ _ _
      | exact ih3 _ _ _ _ _ _
      | exact LeO.none _
      | refine LeO.ite ?_ ?_
      | refine LeO.bind ?_ (fun _ => ?_)
    · intro y0 y1 y2 y3 y4 y5 y6 y7 y8 y9
      unfold phalanxref03_Hull.j1
      repeat' first
      | (with_reducible exact ih0 _ _ _ _ _ _ _ _ _)
      | (with_reducible exact ih1 _ _ _ _ _ _ _ _ _ _)
      | (with_reducible exact ih2 _ _ _ _ _ _ _ _ _ _)
      | (with_reducible exact ih3 _ _ _ _ _ _)
      | (with_reducible exact LeO.refl _)
      | (with_reducible exact LeO.none _)
      | (with_reducible refine LeO.ite ?_ ?_)
      | (with_reducible refine LeO.bind ?_ (fun _ => ?_))
      | exact ih0 _ _ _ _ _ _ _ _ _
      | exact ih1 _ _ _ _ _ _ _ _ _ _
      | exact ih2 _ _ _ _ _ _ _ _ _ _
      | exact ih3 _ _ _ _ _ _
      | exact LeO.none _
      | refine LeO.ite ?_ ?_
      | refine LeO.bind ?_ (fun _ => ?_)
    · intro y0 y1 y2 y3 y4 y5 y6 y7 y8 y9
      unfold phalanxref03_Hull.j2
      repeat' first
      | (with_reducible exact ih0 _ _ _ _ _ _ _ _ _)
      | (with_reducible exact ih1 _ _ _ _ _ _ _ _ _ _)
      | (with_reducible exact ih2 _ _ _ _ _ _ _ _ _ _)
      | (with_reducible exact ih3 _ _ _ _ _ _)
      | (with_reducible exact LeO.refl _)
      | (with_reducible exact LeO.none _)
      | (with_reducible refine LeO.ite ?_ ?_)
      | (with_reducible refine LeO.bind ?_ (fun _ => ?_))
      | exact ih0 _ _ _ _ _ _ _ _ _
      | exact ih1 _ _ _ _ _ _ _ _ _ _
      | exact ih2 _ _ _ _ _ _ _ _ _ _
      | exact ih3 _ _ _ _ _ _
      | exact LeO.none _
      | refine LeO.ite ?_ ?_
      | refine LeO.bind ?_ (fun _ => ?_)
    · intro y0 y1 y2 y3 y4 y5
      unfold phalanxref03_Hull.j3
      repeat' first
      | (with_reducible exact ih0 _ _ _ _ _ _ _ _ _)
      | (with_reducible exact ih1 _ _ _ _ _ _ _ _ _ _)
      | (with_reducible exact ih2 _ _ _ _ _ _ _ _ _ _)
      | (with_reducible exact ih3 _ _ _ _ _ _)
      | (with_reducible exact LeO.refl _)
      | (with_reducible exact LeO.none _)
      | (with_reducible refine LeO.ite ?_ ?_)
      | (with_reducible refine LeO.bind ?_ (fun _ => ?_))
      | exact ih0 _ _ _ _ _ _ _ _ _
      | exact ih1 _ _ _ _ _ _ _ _ _ _
      | exact ih2 _ _ _ _ _ _ _ _ _ _
      | exact ih3 _ _ _ _ _ _
      | exact LeO.none _
      | refine LeO.ite ?_ ?_
      | refine LeO.bind ?_ (fun _ => ?_)
theorem phalanxref03_Hull.mono : ∀ a0 a1 a2 a3 a4 a5 a6 a7 k, LeO (phalanxref03_Hull.f k a0 a1 a2 a3 a4 a5 a6 a7) (phalanxref03_Hull.f (k + 1) a0 a1 a2 a3 a4 a5 a6 a7) := by
  intro a0 a1 a2 a3 a4 a5 a6 a7 k
  obtain ⟨ih0, ih1, ih2, ih3⟩ := phalanxref03_Hull.mono_l k
  unfold phalanxref03_Hull.f
  repeat' first
      | (with_reducible exact ih0 _ _ _ _ _ _ _ _ _)
      | (with_reducible exact ih1 _ _ _ _ _ _ _ _ _ _)
      | (with_reducible exact ih2 _ _ _ _ _ _ _ _ _ _)
      | (with_reducible exact ih3 _ _ _ _ _ _)
      | (with_reducible exact LeO.refl _)
      | (with_reducible exact LeO.none _)
      | (with_reducible refine LeO.ite ?_ ?_)
      | (with_reducible refine LeO.bind ?_ (fun _ => ?_))
      | exact ih0 _ _ _ _ _ _ _ _ _
      | exact ih1 _ _ _ _ _ _ _ _ _ _
      | exact ih2 _ _ _ _ _ _ _ _ _ _
      | exact ih3 _ _ _ _ _ _
      | exact LeO.none _
      | refine LeO.ite ?_ ?_
      | refine LeO.bind ?_ (fun _ => ?_)
def phalanxref03_Hull.T3 : Bool × List (List Nat × List Nat) := (true, [([], []), ([0], [0]), ([1], [1]), ([], []), ([3], [3]), ([4], [4]), ([2, 0, 1, 2], [2]), ([5, 6, 0, 1, 2, 3, 4, 5, 6], [5])])
def phalanxref03_Hull.B3 : List Nat := [0, 1, 3, 0, 8, 24, 7, 127]
theorem phalanxref03_Hull.tab3 : rtab .any (opsOf Try.f55 3) = phalanxref03_Hull.T3 := by kernel_rfl
theorem phalanxref03_Hull.bits3 : waitsOk phalanxref03_Hull.T3.2 phalanxref03_Hull.B3 = true := by kernel_rfl
def phalanxref03_Hull.T8 : Bool × List (List Nat × List Nat) := (true, [([], []), ([0], [0]), ([], []), ([2, 1], [2]), ([], []), ([], []), ([4, 1, 3, 0, 1, 4, 5], [1, 4]), ([5, 3, 6, 0, 1, 2, 3, 4, 5, 6], [3, 5])])
def phalanxref03_Hull.B8 : List Nat := [0, 1, 0, 7, 0, 0, 63, 127]
theorem phalanxref03_Hull.tab8 : rtab .any (opsOf Try.f55 8) = phalanxref03_Hull.T8 := by kernel_rfl
theorem phalanxref03_Hull.bits8 : waitsOk phalanxref03_Hull.T8.2 phalanxref03_Hull.B8 = true := by kernel_rfl
set_option maxHeartbeats 8000000 in
set_option maxRecDepth 100000 in
theorem phalanxref03_Hull.calls (k : Nat) (a0_0 : Int) (a0_1 : Int) (a0_2 : Int) (a0_3 : Int) (a1_0 : Int) (a1_1 : Int) (a1_2 : Int) (a1_3 : Int) (r1 : Int) (r2 : Int) (r3 : Int) (r4 : Int) (w : World) (h : phalanxref03_Hull.f k a0_0 a0_1 a0_2 a0_3 a1_0 a1_1 a1_2 a1_3 = some (r1, r2, r3, r4)) :
    Calls Try.prog 55 #[.agg #[.int .i64 a0_0, .int .i64 a0_1, .int .i64 a0_2, .int .i64 a0_3], .agg #[.int .i64 a1_0, .int .i64 a1_1, .int .i64 a1_2, .int .i64 a1_3]] w fun e w' => e = .returned (.agg #[.int .i64 r1, .int .i64 r2, .int .i64 r3, .int .i64 r4]) ∧ Below w.heap.size w w' := by
  have hu47 := Try.underlying47
  have hu25 := Try.underlying25
  have HB := Aside0.mk (Below.refl w.heap.size w)
  have H : ((phalanxref03_May.f a0_0 a0_1 a0_2 a0_3).bind fun t213 => (if t213 = true then ((phalanxref03_May.f a1_0 a1_1 a1_2 a1_3).bind fun t214 => (phalanxref03_Hull.j0 k (!t214) a0_0 a0_1 a0_2 a0_3 a1_0 a1_1 a1_2 a1_3)) else (phalanxref03_Hull.j0 k true a0_0 a0_1 a0_2 a0_3 a1_0 a1_1 a1_2 a1_3))) = some (r1, r2, r3, r4) := h
  clear h
  have HC3 := Aside0.mk H
  clear H
  go_enter Try.func55, Try.ntmps55
  go_upto_region 1 with (first | ((with_reducible refine gate_dst (N := 2) rfl ?_); refine box_event ?hg (N := 2) ?hd (cs := #[.int .i64 a0_0, .int .i64 a0_1, .int .i64 a0_2, .int .i64 a0_3]) (t := 47) ?hr ?_; (case hd => rfl); (case hg => rfl); (case hr => first | (go_simp; done) | (go_simp; rfl)); intro gb210 hg w4 hbox hb; have BK210 := Aside0.mk (hbox); have GW210 := Aside0.mk ((bz HB _ hg : w.heap.size ≤ gb210)); have GE210 := Aside0.mk ((bz HB _ hg : w.heap.size ≤ gb210)); replace HB := Aside0.mk (below_step (bw HB) hb); clear hb hbox hg) | ((with_reducible refine gate_dst (N := 3) rfl ?_); refine box_event ?hg (N := 3) ?hd (cs := #[.int .i64 a1_0, .int .i64 a1_1, .int .i64 a1_2, .int .i64 a1_3]) (t := 47) ?hr ?_; (case hd => rfl); (case hg => rfl); (case hr => first | (go_simp; done) | (go_simp; rfl)); intro gb211 hg w5 hbox hb; have BK211 := Aside0.mk (hbox); have GW211 := Aside0.mk ((bz HB _ hg : w.heap.size ≤ gb211)); have GE211 := Aside0.mk ((bz HB _ hg : w.heap.size ≤ gb211)); have NB210_211 := Aside0.mk ((nl BK210 hg : gb210 ≠ gb211)); have NB211_210 := Aside0.mk ((ng BK210 hg : gb211 ≠ gb210)); replace BK210 := Aside0.mk (kb BK210 hb); replace HB := Aside0.mk (below_step (bw HB) hb); clear hb hbox hg) | ((with_reducible refine gate_dst (N := 4) rfl ?_); refine box_event ?hg (N := 4) ?hd (cs := #[.int .i64 0, .int .i64 0, .int .i64 0, .int .i64 0]) (t := 47) ?hr ?_; (case hd => rfl); (case hg => rfl); (case hr => first | (go_simp; done) | (go_simp; rfl)); intro gb212 hg w6 hbox hb; have BK212 := Aside0.mk (hbox); have GW212 := Aside0.mk ((bz HB _ hg : w.heap.size ≤ gb212)); have GE212 := Aside0.mk ((bz HB _ hg : w.heap.size ≤ gb212)); have NB210_212 := Aside0.mk ((nl BK210 hg : gb210 ≠ gb212)); have NB212_210 := Aside0.mk ((ng BK210 hg : gb212 ≠ gb210)); have NB211_212 := Aside0.mk ((nl BK211 hg : gb211 ≠ gb212)); have NB212_211 := Aside0.mk ((ng BK211 hg : gb212 ≠ gb211)); replace BK210 := Aside0.mk (kb BK210 hb); replace BK211 := Aside0.mk (kb BK211 hb); replace HB := Aside0.mk (below_step (bw HB) hb); clear hb hbox hg))
  (try simp only [Act.put, List.setIfInBounds_toArray, List.set_cons_zero, List.set_cons_succ])
  go_cut [17] (fun v17 wc => ∃ (kq : Nat) (x17_2 : Bool), v17 = .bool x17_2 ∧ Aside0 (phalanxref03_Hull.j0 kq x17_2 a0_0 a0_1 a0_2 a0_3 a1_0 a1_1 a1_2 a1_3 = some (r1, r2, r3, r4)) ∧ Aside0 (kq ≤ k) ∧ Aside0 (wc.heap[gb210]? = some (.cells #[.int .i64 a0_0, .int .i64 a0_1, .int .i64 a0_2, .int .i64 a0_3] 47 (0, 0))) ∧ Aside0 (wc.heap[gb211]? = some (.cells #[.int .i64 a1_0, .int .i64 a1_1, .int .i64 a1_2, .int .i64 a1_3] 47 (0, 0))) ∧ Aside0 (wc.heap[gb212]? = some (.cells #[.int .i64 0, .int .i64 0, .int .i64 0, .int .i64 0] 47 (0, 0))) ∧ Aside0 (Below w.heap.size w wc))
  case first =>
    have H := HC3.out
    clear HC3
    replace H := Option.bind_eq_some_iff.mp H
    obtain ⟨t213, A70, H⟩ := H
    replace H : (if t213 = true then ((phalanxref03_May.f a1_0 a1_1 a1_2 a1_3).bind fun t214 => (phalanxref03_Hull.j0 k (!t214) a0_0 a0_1 a0_2 a0_3 a1_0 a1_1 a1_2 a1_3)) else (phalanxref03_Hull.j0 k true a0_0 a0_1 a0_2 a0_3 a1_0 a1_1 a1_2 a1_3)) = some (r1, r2, r3, r4) := H
    have A7 := Aside0.mk A70
    clear A70
    by_cases c8 : t213 = true
    · subst c8
      have H1 : ((phalanxref03_May.f a1_0 a1_1 a1_2 a1_3).bind fun t214 => (phalanxref03_Hull.j0 k (!t214) a0_0 a0_1 a0_2 a0_3 a1_0 a1_1 a1_2 a1_3)) = some (r1, r2, r3, r4) := by rw [if_pos rfl] at H; exact H
      clear H
      have H := H1
      clear H1
      replace H := Option.bind_eq_some_iff.mp H
      obtain ⟨t214, A90, H⟩ := H
      replace H : (phalanxref03_Hull.j0 k (!t214) a0_0 a0_1 a0_2 a0_3 a1_0 a1_1 a1_2 a1_3) = some (r1, r2, r3, r4) := H
      have A9 := Aside0.mk A90
      clear A90
      have H' := Aside0.mk H
      clear H
      have hnb10 := NB210_211.out
      have hnc10 := NB211_210.out
      have hnb11 := NB210_212.out
      have hnc11 := NB212_210.out
      obtain ⟨hcz12_0, hcz12_1, hcz12_2, hcz12_3, hfz12_0, hfz12_1, hfz12_2, hfz12_3⟩ := cz4 BK210
      go_wp2_with (first | ((with_reducible refine gate_callee (f := 47) rfl ?_); refine goesL_ (some 11) rfl rfl Try.func47 (by kernel_rfl) rfl #[.agg #[.int .i64 a0_0, .int .i64 a0_1, .int .i64 a0_2, .int .i64 a0_3]] rfl (by (try simp only [List.map_toArray, List.map_cons, List.map_nil]); first | done | rfl | (simp only [List.length_drop, List.length_take]; rfl)) ?_; (with_reducible refine (phalanxref03_May.calls a0_0 a0_1 a0_2 a0_3 true _ A7.out).mono ?_); rintro e w13 ⟨rfl, hb⟩; refine ⟨_, rfl, ?_⟩; replace BK210 := Aside0.mk (kb BK210 hb); replace BK211 := Aside0.mk (kb BK211 hb); replace BK212 := Aside0.mk (kb BK212 hb); replace HB := Aside0.mk (below_step (bw HB) hb); (try clear hb); (try clear hb2); (try clear hk); (try clear hi); have hnb14 := NB211_212.out; have hnc14 := NB212_211.out; obtain ⟨hcz15_0, hcz15_1, hcz15_2, hcz15_3, hfz15_0, hfz15_1, hfz15_2, hfz15_3⟩ := cz4 BK211) | (go_at_call 47; (with_reducible refine (phalanxref03_May.calls a1_0 a1_1 a1_2 a1_3 t214 _ A9.out).mono ?_); rintro e w16 ⟨rfl, hb⟩; replace BK210 := Aside0.mk (kb BK210 hb); replace BK211 := Aside0.mk (kb BK211 hb); replace BK212 := Aside0.mk (kb BK212 hb); replace HB := Aside0.mk (below_step (bw HB) hb); (try clear hb); (try clear hb2); (try clear hk); (try clear hi)))
      go_meet
      case rel => exact ⟨_, (!t214), (by first | rfl | (simp; done) | (simp [*]; done)), H', ⟨by first | omega | exact Nat.le_refl _⟩, ⟨kz BK210⟩, ⟨kz BK211⟩, ⟨kz BK212⟩, ⟨bw HB⟩⟩
    · replace c8 := Bool.eq_false_iff.mpr c8
      subst c8
      have H1 : (phalanxref03_Hull.j0 k true a0_0 a0_1 a0_2 a0_3 a1_0 a1_1 a1_2 a1_3) = some (r1, r2, r3, r4) := by rw [if_neg (show ¬ (false = true) by decide)] at H; exact H
      clear H
      have H := H1
      clear H1
      have H' := Aside0.mk H
      clear H
      have hnb17 := NB210_211.out
      have hnc17 := NB211_210.out
      have hnb18 := NB210_212.out
      have hnc18 := NB212_210.out
      obtain ⟨hcz19_0, hcz19_1, hcz19_2, hcz19_3, hfz19_0, hfz19_1, hfz19_2, hfz19_3⟩ := cz4 BK210
      go_wp2_with (first | ((with_reducible refine gate_callee (f := 47) rfl ?_); refine goesL_ (some 11) rfl rfl Try.func47 (by kernel_rfl) rfl #[.agg #[.int .i64 a0_0, .int .i64 a0_1, .int .i64 a0_2, .int .i64 a0_3]] rfl (by (try simp only [List.map_toArray, List.map_cons, List.map_nil]); first | done | rfl | (simp only [List.length_drop, List.length_take]; rfl)) ?_; (with_reducible refine (phalanxref03_May.calls a0_0 a0_1 a0_2 a0_3 false _ A7.out).mono ?_); rintro e w20 ⟨rfl, hb⟩; refine ⟨_, rfl, ?_⟩; replace BK210 := Aside0.mk (kb BK210 hb); replace BK211 := Aside0.mk (kb BK211 hb); replace BK212 := Aside0.mk (kb BK212 hb); replace HB := Aside0.mk (below_step (bw HB) hb); (try clear hb); (try clear hb2); (try clear hk); (try clear hi)))
      go_meet
      case rel => exact ⟨_, (true), (by first | rfl | (simp; done) | (simp [*]; done)), H', ⟨by first | omega | exact Nat.le_refl _⟩, ⟨kz BK210⟩, ⟨kz BK211⟩, ⟨kz BK212⟩, ⟨bw HB⟩⟩
  case rest =>
    clear HC3
    try clear c1
    try clear p2
    try clear c4
    try clear c5
    try clear c8
    try clear c10
    try clear c11
    try clear c14
    try clear c17
    try clear c18
    try clear hcz12_0
    try clear hcz12_1
    try clear hcz12_2
    try clear hcz12_3
    try clear hcz15_0
    try clear hcz15_1
    try clear hcz15_2
    try clear hcz15_3
    try clear hcz19_0
    try clear hcz19_1
    try clear hcz19_2
    try clear hcz19_3
    try clear hfz12_0
    try clear hfz12_1
    try clear hfz12_2
    try clear hfz12_3
    try clear hfz15_0
    try clear hfz15_1
    try clear hfz15_2
    try clear hfz15_3
    try clear hfz19_0
    try clear hfz19_1
    try clear hfz19_2
    try clear hfz19_3
    obtain ⟨kq, x17_2, rfl, HA, HJ2, BK210, BK211, BK212, HB⟩ := hcut
    cases kq with
    | zero => exact absurd HA.out (by simp [phalanxref03_Hull.j0])
    | succ kj2 =>
      have H := HA.out
      clear HA
      simp only [phalanxref03_Hull.j0] at H
      by_cases c21 : x17_2 = true
      · subst c21
        have H1 : (some (0, 0, 0, 0)) = some (r1, r2, r3, r4) := by rw [if_pos rfl] at H; exact H
        clear H
        have H := H1
        clear H1
        simp only [Option.some.injEq, Prod.mk.injEq] at H
        obtain ⟨rfl, rfl, rfl, rfl⟩ := H
        have hnb22 := NB212_210.out
        have hnc22 := NB210_212.out
        have hnb23 := NB212_211.out
        have hnc23 := NB211_212.out
        obtain ⟨hcz24_0, hcz24_1, hcz24_2, hcz24_3, hfz24_0, hfz24_1, hfz24_2, hfz24_3⟩ := cz4 BK212
        go_wp2
        refine bodyPost_ret (results_cell_row rfl _ _ gb212 47 #[.int .i64 0, .int .i64 0, .int .i64 0, .int .i64 0] (0, 0) _ rfl (by (with_reducible repeat (first | refine blk_drewN ?_ _ | refine blk_drew ?_ | refine blk_alloc ?_ _)); refine blk_put (cs := #[.int .i64 0, .int .i64 0, .int .i64 0, .int .i64 0]) ?_ 3 _ rfl; (with_reducible repeat (first | refine blk_drewN ?_ _ | refine blk_drew ?_ | refine blk_alloc ?_ _)); refine blk_put (cs := #[.int .i64 0, .int .i64 0, .int .i64 0, .int .i64 0]) ?_ 2 _ rfl; (with_reducible repeat (first | refine blk_drewN ?_ _ | refine blk_drew ?_ | refine blk_alloc ?_ _)); refine blk_put (cs := #[.int .i64 0, .int .i64 0, .int .i64 0, .int .i64 0]) ?_ 1 _ rfl; (with_reducible repeat (first | refine blk_drewN ?_ _ | refine blk_drew ?_ | refine blk_alloc ?_ _)); refine blk_put (cs := #[.int .i64 0, .int .i64 0, .int .i64 0, .int .i64 0]) ?_ 0 _ rfl; (with_reducible repeat (first | refine blk_drewN ?_ _ | refine blk_drew ?_ | refine blk_alloc ?_ _)); exact BK212.out) Try.underlying47 rfl (by kernel_rfl)) rfl ?_
        exact ⟨by first | rfl | (simp [errW_none, errW_some] <;> rfl) | (simp [*, errW_none, errW_some] <;> rfl) | (simp [max_mx, min_mn, *, errW_none, errW_some]), by repeat (first | (with_reducible first | exact HB.out | apply below_alloc | apply pw_below_drewN | apply below_drew1 | refine below_set ?_ GE210.out | refine below_set ?_ GE211.out | refine below_set ?_ GE212.out) | exact HB.out)⟩
      · replace c21 := Bool.eq_false_iff.mpr c21
        subst c21
        have H1 : (if a1_0 < a0_0 then (phalanxref03_Hull.j1 kj2 a1_0 a0_1 a0_0 a0_1 a0_2 a0_3 a1_0 a1_1 a1_2 a1_3) else (phalanxref03_Hull.j1 kj2 a0_0 a0_1 a0_0 a0_1 a0_2 a0_3 a1_0 a1_1 a1_2 a1_3)) = some (r1, r2, r3, r4) := by rw [if_neg (show ¬ (false = true) by decide)] at H; exact H
        clear H
        have H := H1
        clear H1
        have HC25 := Aside0.mk H
        clear H
        try go_wp2
        replace BK210 := Aside0.mk (blk_drew BK210.out)
        replace BK211 := Aside0.mk (blk_drew BK211.out)
        replace BK212 := Aside0.mk (blk_drew BK212.out)
        replace HB := Aside0.mk (below_drew1 HB.out)
        refine start_ (n := 8) (S := fun w' => w'.cell? ⟨gb210, 0, none⟩ = some (.int .i64 a0_0) ∧ w'.cell? ⟨gb210, 1, none⟩ = some (.int .i64 a0_1) ∧ w'.cell? ⟨gb210, 2, none⟩ = some (.int .i64 a0_2) ∧ w'.cell? ⟨gb210, 3, none⟩ = some (.int .i64 a0_3)) (ds := []) (bm 8 0) (by kernel_rfl) rfl rfl ⟨(blk_cell BK210.out 0).trans rfl, (blk_cell BK210.out 1).trans rfl, (blk_cell BK210.out 2).trans rfl, (blk_cell BK210.out 3).trans rfl⟩ (fun hHeld => ?_); refine with_tabW phalanxref03_Hull.tab3 phalanxref03_Hull.bits3 (fun HT_ HW_ => ?_)
        generalize wc.drew = w26 at BK210 BK211 BK212 HB hHeld ⊢
        refine pure_ (i := 0) (N := some 19) (v := ?_) (a' := ?_) (bm 8 1) rfl rfl (any_of HT_.out (by kernel_rfl)) (fun _ _ _ h => h) (Or.inl ⟨by rfl, ?_⟩) ?_ ?_
        rotate_left
        · intro w'
          go_simp
          with_reducible rfl
        rotate_left
        · simp only [Act.put, List.setIfInBounds_toArray, List.set_cons_zero, List.set_cons_succ, i64_w, i32_w]
          rfl
        refine pure_ (i := 1) (N := some 20) (v := ?_) (a' := ?_) (bm 8 3) rfl rfl (any_of HT_.out (by kernel_rfl)) (fun _ _ _ h => h) (Or.inl ⟨by rfl, ?_⟩) ?_ ?_
        rotate_left
        · intro w'
          go_simp
          with_reducible rfl
        rotate_left
        · simp only [Act.put, List.setIfInBounds_toArray, List.set_cons_zero, List.set_cons_succ, i64_w, i32_w]
          rfl
        refine pure_ (i := 3) (N := some 22) (v := ?_) (a' := ?_) (bm 8 11) rfl rfl (any_of HT_.out (by kernel_rfl)) (fun _ _ _ h => h) (Or.inl ⟨by rfl, ?_⟩) ?_ ?_
        rotate_left
        · intro w'
          go_simp
          with_reducible rfl
        rotate_left
        · simp only [Act.put, List.setIfInBounds_toArray, List.set_cons_zero, List.set_cons_succ, i64_w, i32_w]
          rfl
        refine pure_ (i := 4) (N := some 23) (v := ?_) (a' := ?_) (bm 8 27) rfl rfl (any_of HT_.out (by kernel_rfl)) (fun _ _ _ h => h) (Or.inl ⟨by rfl, ?_⟩) ?_ ?_
        rotate_left
        · intro w'
          go_simp
          with_reducible rfl
        rotate_left
        · simp only [Act.put, List.setIfInBounds_toArray, List.set_cons_zero, List.set_cons_succ, i64_w, i32_w]
          rfl
        refine take_ (i := 2) (N := some 21) (v := ?_) (a' := ?_) (bm 8 31) rfl rfl (take_ofW HT_.out HW_.out (by kernel_rfl)) (fun _ _ _ h => h) (Or.inl ⟨by rfl, ?_⟩) hHeld ?_ ?_
        rotate_left
        · rintro w' ⟨s0, s1, s2, s3⟩
          go_simp
          with_reducible rfl
        rotate_left
        · simp only [Act.put, List.setIfInBounds_toArray, List.set_cons_zero, List.set_cons_succ, i64_w, i32_w]
          rfl
        refine pure_ (i := 6) (N := some 5) (v := ?_) (a' := ?_) (bm 8 95) rfl rfl (any_of HT_.out (by kernel_rfl)) (fun _ _ _ h => h) (Or.inl ⟨by rfl, ?_⟩) ?_ ?_
        rotate_left
        · intro w'
          go_simp
          with_reducible rfl
        rotate_left
        · simp only [Act.put, List.setIfInBounds_toArray, List.set_cons_zero, List.set_cons_succ, i64_w, i32_w]
          rfl
        refine take_ (i := 5) (N := some 24) (v := ?_) (a' := ?_) (bm 8 127) rfl rfl (take_ofW HT_.out HW_.out (by kernel_rfl)) (fun _ _ _ h => h) (Or.inl ⟨by rfl, ?_⟩) hHeld ?_ ?_
        rotate_left
        · rintro w' ⟨s0, s1, s2, s3⟩
          go_simp
          with_reducible rfl
        rotate_left
        · simp only [Act.put, List.setIfInBounds_toArray, List.set_cons_zero, List.set_cons_succ, i64_w, i32_w]
          rfl
        refine pure_ (i := 7) (N := some 6) (v := ?_) (a' := ?_) (bm 8 255) rfl rfl (any_of HT_.out (by kernel_rfl)) (fun _ _ _ h => h) (Or.inl ⟨by rfl, ?_⟩) ?_ ?_
        rotate_left
        · intro w'
          go_simp
          with_reducible rfl
        rotate_left
        · simp only [Act.put, List.setIfInBounds_toArray, List.set_cons_zero, List.set_cons_succ, i64_w, i32_w]
          rfl
        refine done_ (done_of HT_.out (by kernel_rfl)) ?_
        have hnb27 := NB211_210.out
        have hnc27 := NB210_211.out
        have hnb28 := NB211_212.out
        have hnc28 := NB212_211.out
        obtain ⟨hcz29_0, hcz29_1, hcz29_2, hcz29_3, hfz29_0, hfz29_1, hfz29_2, hfz29_3⟩ := cz4 BK211
        go_upto_if 29 with (fail)
        go_cut [5] (fun v5 wc => ∃ (kq : Nat) (x5_24 : Int), v5 = .int .i64 x5_24 ∧ Aside0 (phalanxref03_Hull.j1 kq x5_24 a0_1 a0_0 a0_1 a0_2 a0_3 a1_0 a1_1 a1_2 a1_3 = some (r1, r2, r3, r4)) ∧ Aside0 (kq ≤ kj2) ∧ Aside0 (wc.heap[gb210]? = some (.cells #[.int .i64 a0_0, .int .i64 a0_1, .int .i64 a0_2, .int .i64 a0_3] 47 (0, 0))) ∧ Aside0 (wc.heap[gb211]? = some (.cells #[.int .i64 a1_0, .int .i64 a1_1, .int .i64 a1_2, .int .i64 a1_3] 47 (0, 0))) ∧ Aside0 (wc.heap[gb212]? = some (.cells #[.int .i64 0, .int .i64 0, .int .i64 0, .int .i64 0] 47 (0, 0))) ∧ Aside0 (Below w.heap.size w wc))
        case first =>
          have H := HC25.out
          clear HC25
          by_cases c30 : a1_0 < a0_0
          · rw [if_pos c30] at H
            have c30b0 : decide (a1_0 < a0_0) = true := decide_eq_true c30
            clear c30
            (first | rw [c30b0] | (simp only [i64_w, i32_w]; rw [c30b0]) | rw [c30b1] | skip)
            have H' := Aside0.mk H
            clear H
            have hnb31 := NB211_210.out
            have hnc31 := NB210_211.out
            have hnb32 := NB211_212.out
            have hnc32 := NB212_211.out
            obtain ⟨hcz33_0, hcz33_1, hcz33_2, hcz33_3, hfz33_0, hfz33_1, hfz33_2, hfz33_3⟩ := cz4 BK211
            go_wp2
            go_meet
            case rel => exact ⟨_, (a1_0), (by first | rfl | (simp; done) | (simp [*]; done)), H', ⟨by have := HJ2.out; first | omega | exact Nat.le_refl _⟩, ⟨kz BK210⟩, ⟨kz BK211⟩, ⟨kz BK212⟩, ⟨bw HB⟩⟩
          · rw [if_neg c30] at H
            have c30b0 : decide (a1_0 < a0_0) = false := decide_eq_false c30
            clear c30
            (first | rw [c30b0] | (simp only [i64_w, i32_w]; rw [c30b0]) | rw [c30b1] | skip)
            have H' := Aside0.mk H
            clear H
            go_wp2
            go_meet
            case rel => exact ⟨_, (a0_0), (by first | rfl | (simp; done) | (simp [*]; done)), H', ⟨by have := HJ2.out; first | omega | exact Nat.le_refl _⟩, ⟨kz BK210⟩, ⟨kz BK211⟩, ⟨kz BK212⟩, ⟨bw HB⟩⟩
        case rest =>
          clear HC25
          try clear c1
          try clear c2
          try clear p2
          try clear c3
          try clear c4
          try clear c5
          try clear c8
          try clear c10
          try clear c11
          try clear c14
          try clear c17
          try clear c18
          try clear c21
          try clear c22
          try clear c23
          try clear c27
          try clear c28
          try clear c30
          try clear c30b0
          try clear c31
          try clear c32
          try clear hcz12_0
          try clear hcz12_1
          try clear hcz12_2
          try clear hcz12_3
          try clear hcz15_0
          try clear hcz15_1
          try clear hcz15_2
          try clear hcz15_3
          try clear hcz19_0
          try clear hcz19_1
          try clear hcz19_2
          try clear hcz19_3
          try clear hcz24_0
          try clear hcz24_1
          try clear hcz24_2
          try clear hcz24_3
          try clear hcz29_0
          try clear hcz29_1
          try clear hcz29_2
          try clear hcz29_3
          try clear hcz33_0
          try clear hcz33_1
          try clear hcz33_2
          try clear hcz33_3
          try clear hfz12_0
          try clear hfz12_1
          try clear hfz12_2
          try clear hfz12_3
          try clear hfz15_0
          try clear hfz15_1
          try clear hfz15_2
          try clear hfz15_3
          try clear hfz19_0
          try clear hfz19_1
          try clear hfz19_2
          try clear hfz19_3
          try clear hfz24_0
          try clear hfz24_1
          try clear hfz24_2
          try clear hfz24_3
          try clear hfz29_0
          try clear hfz29_1
          try clear hfz29_2
          try clear hfz29_3
          try clear hfz33_0
          try clear hfz33_1
          try clear hfz33_2
          try clear hfz33_3
          try clear p2
          obtain ⟨kq, x5_24, rfl, HA, HJ24, BK210, BK211, BK212, HB⟩ := hcut
          cases kq with
          | zero => exact absurd HA.out (by simp [phalanxref03_Hull.j1])
          | succ kj24 =>
            have H := HA.out
            clear HA
            simp only [phalanxref03_Hull.j1] at H
            have HC34 := Aside0.mk H
            clear H
            have hnb35 := NB211_210.out
            have hnc35 := NB210_211.out
            have hnb36 := NB211_212.out
            have hnc36 := NB212_211.out
            obtain ⟨hcz37_0, hcz37_1, hcz37_2, hcz37_3, hfz37_0, hfz37_1, hfz37_2, hfz37_3⟩ := cz4 BK211
            go_upto_if 37 with (fail)
            go_cut [6] (fun v6 wc => ∃ (kq : Nat) (x6_33 : Int), v6 = .int .i64 x6_33 ∧ Aside0 (phalanxref03_Hull.j2 kq x5_24 x6_33 a0_0 a0_1 a0_2 a0_3 a1_0 a1_1 a1_2 a1_3 = some (r1, r2, r3, r4)) ∧ Aside0 (kq ≤ kj24) ∧ Aside0 (wc.heap[gb210]? = some (.cells #[.int .i64 a0_0, .int .i64 a0_1, .int .i64 a0_2, .int .i64 a0_3] 47 (0, 0))) ∧ Aside0 (wc.heap[gb211]? = some (.cells #[.int .i64 a1_0, .int .i64 a1_1, .int .i64 a1_2, .int .i64 a1_3] 47 (0, 0))) ∧ Aside0 (wc.heap[gb212]? = some (.cells #[.int .i64 0, .int .i64 0, .int .i64 0, .int .i64 0] 47 (0, 0))) ∧ Aside0 (Below w.heap.size w wc))
            case first =>
              have H := HC34.out
              clear HC34
              by_cases c38 : a1_1 < a0_1
              · rw [if_pos c38] at H
                have c38b0 : decide (a1_1 < a0_1) = true := decide_eq_true c38
                clear c38
                (first | rw [c38b0] | (simp only [i64_w, i32_w]; rw [c38b0]) | rw [c38b1] | skip)
                have H' := Aside0.mk H
                clear H
                have hnb39 := NB211_210.out
                have hnc39 := NB210_211.out
                have hnb40 := NB211_212.out
                have hnc40 := NB212_211.out
                obtain ⟨hcz41_0, hcz41_1, hcz41_2, hcz41_3, hfz41_0, hfz41_1, hfz41_2, hfz41_3⟩ := cz4 BK211
                go_wp2
                go_meet
                case rel => exact ⟨_, (a1_1), (by first | rfl | (simp; done) | (simp [*]; done)), H', ⟨by have := HJ2.out; have := HJ24.out; first | omega | exact Nat.le_refl _⟩, ⟨kz BK210⟩, ⟨kz BK211⟩, ⟨kz BK212⟩, ⟨bw HB⟩⟩
              · rw [if_neg c38] at H
                have c38b0 : decide (a1_1 < a0_1) = false := decide_eq_false c38
                clear c38
                (first | rw [c38b0] | (simp only [i64_w, i32_w]; rw [c38b0]) | rw [c38b1] | skip)
                have H' := Aside0.mk H
                clear H
                go_wp2
                go_meet
                case rel => exact ⟨_, (a0_1), (by first | rfl | (simp; done) | (simp [*]; done)), H', ⟨by have := HJ2.out; have := HJ24.out; first | omega | exact Nat.le_refl _⟩, ⟨kz BK210⟩, ⟨kz BK211⟩, ⟨kz BK212⟩, ⟨bw HB⟩⟩
            case rest =>
              clear HC34
              try clear c1
              try clear c2
              try clear p2
              try clear c3
              try clear c4
              try clear c5
              try clear c8
              try clear c10
              try clear c11
              try clear c14
              try clear c17
              try clear c18
              try clear c21
              try clear c22
              try clear c23
              try clear c27
              try clear c28
              try clear c30
              try clear c30b0
              try clear c31
              try clear c32
              try clear c35
              try clear c36
              try clear c38
              try clear c38b0
              try clear c39
              try clear c40
              try clear hcz12_0
              try clear hcz12_1
              try clear hcz12_2
              try clear hcz12_3
              try clear hcz15_0
              try clear hcz15_1
              try clear hcz15_2
              try clear hcz15_3
              try clear hcz19_0
              try clear hcz19_1
              try clear hcz19_2
              try clear hcz19_3
              try clear hcz24_0
              try clear hcz24_1
              try clear hcz24_2
              try clear hcz24_3
              try clear hcz29_0
              try clear hcz29_1
              try clear hcz29_2
              try clear hcz29_3
              try clear hcz33_0
              try clear hcz33_1
              try clear hcz33_2
              try clear hcz33_3
              try clear hcz37_0
              try clear hcz37_1
              try clear hcz37_2
              try clear hcz37_3
              try clear hcz41_0
              try clear hcz41_1
              try clear hcz41_2
              try clear hcz41_3
              try clear hfz12_0
              try clear hfz12_1
              try clear hfz12_2
              try clear hfz12_3
              try clear hfz15_0
              try clear hfz15_1
              try clear hfz15_2
              try clear hfz15_3
              try clear hfz19_0
              try clear hfz19_1
              try clear hfz19_2
              try clear hfz19_3
              try clear hfz24_0
              try clear hfz24_1
              try clear hfz24_2
              try clear hfz24_3
              try clear hfz29_0
              try clear hfz29_1
              try clear hfz29_2
              try clear hfz29_3
              try clear hfz33_0
              try clear hfz33_1
              try clear hfz33_2
              try clear hfz33_3
              try clear hfz37_0
              try clear hfz37_1
              try clear hfz37_2
              try clear hfz37_3
              try clear hfz41_0
              try clear hfz41_1
              try clear hfz41_2
              try clear hfz41_3
              try clear p2
              obtain ⟨kq, x6_33, rfl, HA, HJ33, BK210, BK211, BK212, HB⟩ := hcut
              cases kq with
              | zero => exact absurd HA.out (by simp [phalanxref03_Hull.j2])
              | succ kj33 =>
                have H := HA.out
                clear HA
                simp only [phalanxref03_Hull.j2] at H
                replace H := Option.bind_eq_some_iff.mp H
                obtain ⟨⟨t215, t216⟩, A420, H⟩ := H
                replace H : ((phalanxref03_Last.f a1_0 a1_1 a1_2 a1_3).bind fun bt217 => (if bt217.1 > t215 then (phalanxref03_Hull.j3 kj33 x5_24 x6_33 bt217.1 t216 bt217.1 bt217.2) else (phalanxref03_Hull.j3 kj33 x5_24 x6_33 t215 t216 bt217.1 bt217.2))) = some (r1, r2, r3, r4) := H
                have A42 := Aside0.mk A420
                clear A420
                replace H := Option.bind_eq_some_iff.mp H
                obtain ⟨⟨t217, t218⟩, A430, H⟩ := H
                replace H : (if t217 > t215 then (phalanxref03_Hull.j3 kj33 x5_24 x6_33 t217 t216 t217 t218) else (phalanxref03_Hull.j3 kj33 x5_24 x6_33 t215 t216 t217 t218)) = some (r1, r2, r3, r4) := H
                have A43 := Aside0.mk A430
                clear A430
                have HC44 := Aside0.mk H
                clear H
                try go_wp2
                replace BK210 := Aside0.mk (blk_drew BK210.out)
                replace BK211 := Aside0.mk (blk_drew BK211.out)
                replace BK212 := Aside0.mk (blk_drew BK212.out)
                replace HB := Aside0.mk (below_drew1 HB.out)
                refine start_ (n := 8) (S := fun w' => w'.cell? ⟨gb210, 0, none⟩ = some (.int .i64 a0_0) ∧ w'.cell? ⟨gb210, 1, none⟩ = some (.int .i64 a0_1) ∧ w'.cell? ⟨gb210, 2, none⟩ = some (.int .i64 a0_2) ∧ w'.cell? ⟨gb210, 3, none⟩ = some (.int .i64 a0_3) ∧ w'.cell? ⟨gb211, 0, none⟩ = some (.int .i64 a1_0) ∧ w'.cell? ⟨gb211, 1, none⟩ = some (.int .i64 a1_1) ∧ w'.cell? ⟨gb211, 2, none⟩ = some (.int .i64 a1_2) ∧ w'.cell? ⟨gb211, 3, none⟩ = some (.int .i64 a1_3)) (ds := []) (bm 8 0) (by kernel_rfl) rfl rfl ⟨(blk_cell BK210.out 0).trans rfl, (blk_cell BK210.out 1).trans rfl, (blk_cell BK210.out 2).trans rfl, (blk_cell BK210.out 3).trans rfl, (blk_cell BK211.out 0).trans rfl, (blk_cell BK211.out 1).trans rfl, (blk_cell BK211.out 2).trans rfl, (blk_cell BK211.out 3).trans rfl⟩ (fun hHeld => ?_); refine with_tabW phalanxref03_Hull.tab8 phalanxref03_Hull.bits8 (fun HT_ HW_ => ?_)
                generalize wc.drew = w45 at BK210 BK211 BK212 HB hHeld ⊢
                refine take_ (i := 0) (N := some 41) (v := ?_) (a' := ?_) (bm 8 1) rfl rfl (take_ofW HT_.out HW_.out (by kernel_rfl)) (fun _ _ _ h => h) (Or.inl ⟨by rfl, ?_⟩) hHeld ?_ ?_
                rotate_left
                · rintro w' ⟨s0, s1, s2, s3, s4, s5, s6, s7⟩
                  go_simp
                  with_reducible rfl
                rotate_left
                · simp only [Act.put, List.setIfInBounds_toArray, List.set_cons_zero, List.set_cons_succ, i64_w, i32_w]
                  rfl
                refine take_ (i := 2) (N := some 43) (v := ?_) (a' := ?_) (bm 8 5) rfl rfl (take_ofW HT_.out HW_.out (by kernel_rfl)) (fun _ _ _ h => h) (Or.inl ⟨by rfl, ?_⟩) hHeld ?_ ?_
                rotate_left
                · rintro w' ⟨s0, s1, s2, s3, s4, s5, s6, s7⟩
                  go_simp
                  with_reducible rfl
                rotate_left
                · simp only [Act.put, List.setIfInBounds_toArray, List.set_cons_zero, List.set_cons_succ, i64_w, i32_w]
                  rfl
                refine join_ (σ := Nat × Nat) 2 (bm 8 63) (fun s_ => [(42, .agg #[.int .i64 t215, .int .i64 t216]), (44, .agg #[.int .i64 t217, .int .i64 t218]), (7, .pointer (some ⟨s_.1, 0, none⟩)), (8, .pointer (some ⟨s_.2, 0, none⟩))]) (fun s_ w' => (w'.cell? ⟨gb210, 0, none⟩ = some (.int .i64 a0_0) ∧ w'.cell? ⟨gb210, 1, none⟩ = some (.int .i64 a0_1) ∧ w'.cell? ⟨gb210, 2, none⟩ = some (.int .i64 a0_2) ∧ w'.cell? ⟨gb210, 3, none⟩ = some (.int .i64 a0_3) ∧ w'.cell? ⟨gb211, 0, none⟩ = some (.int .i64 a1_0) ∧ w'.cell? ⟨gb211, 1, none⟩ = some (.int .i64 a1_1) ∧ w'.cell? ⟨gb211, 2, none⟩ = some (.int .i64 a1_2) ∧ w'.cell? ⟨gb211, 3, none⟩ = some (.int .i64 a1_3)) ∧ (w'.heap[gb210]? = some (.cells #[.int .i64 a0_0, .int .i64 a0_1, .int .i64 a0_2, .int .i64 a0_3] 47 (0, 0))) ∧ (w'.heap[gb211]? = some (.cells #[.int .i64 a1_0, .int .i64 a1_1, .int .i64 a1_2, .int .i64 a1_3] 47 (0, 0))) ∧ (w'.heap[gb212]? = some (.cells #[.int .i64 0, .int .i64 0, .int .i64 0, .int .i64 0] 47 (0, 0))) ∧ (w'.heap[s_.1]? = some (.cells #[.int .i64 0, .int .i64 0] 25 (0, 0))) ∧ (w'.heap[s_.2]? = some (.cells #[.int .i64 0, .int .i64 0] 25 (0, 0))) ∧ (w.heap.size ≤ s_.1) ∧ (w.heap.size ≤ s_.1) ∧ (gb210 ≠ s_.1) ∧ (s_.1 ≠ gb210) ∧ (gb211 ≠ s_.1) ∧ (s_.1 ≠ gb211) ∧ (gb212 ≠ s_.1) ∧ (s_.1 ≠ gb212) ∧ (s_.2 ≠ s_.1) ∧ (s_.1 ≠ s_.2) ∧ (w.heap.size ≤ s_.2) ∧ (w.heap.size ≤ s_.2) ∧ (gb210 ≠ s_.2) ∧ (s_.2 ≠ gb210) ∧ (gb211 ≠ s_.2) ∧ (s_.2 ≠ gb211) ∧ (gb212 ≠ s_.2) ∧ (s_.2 ≠ gb212) ∧ (Below w.heap.size w w')) ?_ ?_
                rotate_left
                · intro hJ1_3_4_5
                  refine join_ (σ := Nat) 3 (bm 8 31) (fun s_ => [(42, .agg #[.int .i64 t215, .int .i64 t216]), (44, .agg #[.int .i64 t217, .int .i64 t218]), (7, .pointer (some ⟨s_, 0, none⟩))]) (fun s_ w' => (w'.cell? ⟨gb210, 0, none⟩ = some (.int .i64 a0_0) ∧ w'.cell? ⟨gb210, 1, none⟩ = some (.int .i64 a0_1) ∧ w'.cell? ⟨gb210, 2, none⟩ = some (.int .i64 a0_2) ∧ w'.cell? ⟨gb210, 3, none⟩ = some (.int .i64 a0_3) ∧ w'.cell? ⟨gb211, 0, none⟩ = some (.int .i64 a1_0) ∧ w'.cell? ⟨gb211, 1, none⟩ = some (.int .i64 a1_1) ∧ w'.cell? ⟨gb211, 2, none⟩ = some (.int .i64 a1_2) ∧ w'.cell? ⟨gb211, 3, none⟩ = some (.int .i64 a1_3)) ∧ (w'.heap[gb210]? = some (.cells #[.int .i64 a0_0, .int .i64 a0_1, .int .i64 a0_2, .int .i64 a0_3] 47 (0, 0))) ∧ (w'.heap[gb211]? = some (.cells #[.int .i64 a1_0, .int .i64 a1_1, .int .i64 a1_2, .int .i64 a1_3] 47 (0, 0))) ∧ (w'.heap[gb212]? = some (.cells #[.int .i64 0, .int .i64 0, .int .i64 0, .int .i64 0] 47 (0, 0))) ∧ (w'.heap[s_]? = some (.cells #[.int .i64 0, .int .i64 0] 25 (0, 0))) ∧ (w.heap.size ≤ s_) ∧ (w.heap.size ≤ s_) ∧ (gb210 ≠ s_) ∧ (s_ ≠ gb210) ∧ (gb211 ≠ s_) ∧ (s_ ≠ gb211) ∧ (gb212 ≠ s_) ∧ (s_ ≠ gb212) ∧ (Below w.heap.size w w')) ?_ ?_
                  rotate_left
                  · intro hJ1_3_4
                    refine join_ (σ := Nat) 3 (bm 8 47) (fun s_ => [(42, .agg #[.int .i64 t215, .int .i64 t216]), (44, .agg #[.int .i64 t217, .int .i64 t218]), (8, .pointer (some ⟨s_, 0, none⟩))]) (fun s_ w' => (w'.cell? ⟨gb210, 0, none⟩ = some (.int .i64 a0_0) ∧ w'.cell? ⟨gb210, 1, none⟩ = some (.int .i64 a0_1) ∧ w'.cell? ⟨gb210, 2, none⟩ = some (.int .i64 a0_2) ∧ w'.cell? ⟨gb210, 3, none⟩ = some (.int .i64 a0_3) ∧ w'.cell? ⟨gb211, 0, none⟩ = some (.int .i64 a1_0) ∧ w'.cell? ⟨gb211, 1, none⟩ = some (.int .i64 a1_1) ∧ w'.cell? ⟨gb211, 2, none⟩ = some (.int .i64 a1_2) ∧ w'.cell? ⟨gb211, 3, none⟩ = some (.int .i64 a1_3)) ∧ (w'.heap[gb210]? = some (.cells #[.int .i64 a0_0, .int .i64 a0_1, .int .i64 a0_2, .int .i64 a0_3] 47 (0, 0))) ∧ (w'.heap[gb211]? = some (.cells #[.int .i64 a1_0, .int .i64 a1_1, .int .i64 a1_2, .int .i64 a1_3] 47 (0, 0))) ∧ (w'.heap[gb212]? = some (.cells #[.int .i64 0, .int .i64 0, .int .i64 0, .int .i64 0] 47 (0, 0))) ∧ (w'.heap[s_]? = some (.cells #[.int .i64 0, .int .i64 0] 25 (0, 0))) ∧ (w.heap.size ≤ s_) ∧ (w.heap.size ≤ s_) ∧ (gb210 ≠ s_) ∧ (s_ ≠ gb210) ∧ (gb211 ≠ s_) ∧ (s_ ≠ gb211) ∧ (gb212 ≠ s_) ∧ (s_ ≠ gb212) ∧ (Below w.heap.size w w')) ?_ ?_
                    rotate_left
                    · intro hJ1_3_5
                      refine join_ (σ := Nat × Nat) 3 (bm 8 55) (fun s_ => [(42, .agg #[.int .i64 t215, .int .i64 t216]), (7, .pointer (some ⟨s_.1, 0, none⟩)), (8, .pointer (some ⟨s_.2, 0, none⟩))]) (fun s_ w' => (w'.cell? ⟨gb210, 0, none⟩ = some (.int .i64 a0_0) ∧ w'.cell? ⟨gb210, 1, none⟩ = some (.int .i64 a0_1) ∧ w'.cell? ⟨gb210, 2, none⟩ = some (.int .i64 a0_2) ∧ w'.cell? ⟨gb210, 3, none⟩ = some (.int .i64 a0_3) ∧ w'.cell? ⟨gb211, 0, none⟩ = some (.int .i64 a1_0) ∧ w'.cell? ⟨gb211, 1, none⟩ = some (.int .i64 a1_1) ∧ w'.cell? ⟨gb211, 2, none⟩ = some (.int .i64 a1_2) ∧ w'.cell? ⟨gb211, 3, none⟩ = some (.int .i64 a1_3)) ∧ (w'.heap[gb210]? = some (.cells #[.int .i64 a0_0, .int .i64 a0_1, .int .i64 a0_2, .int .i64 a0_3] 47 (0, 0))) ∧ (w'.heap[gb211]? = some (.cells #[.int .i64 a1_0, .int .i64 a1_1, .int .i64 a1_2, .int .i64 a1_3] 47 (0, 0))) ∧ (w'.heap[gb212]? = some (.cells #[.int .i64 0, .int .i64 0, .int .i64 0, .int .i64 0] 47 (0, 0))) ∧ (w'.heap[s_.1]? = some (.cells #[.int .i64 0, .int .i64 0] 25 (0, 0))) ∧ (w'.heap[s_.2]? = some (.cells #[.int .i64 0, .int .i64 0] 25 (0, 0))) ∧ (w.heap.size ≤ s_.1) ∧ (w.heap.size ≤ s_.1) ∧ (gb210 ≠ s_.1) ∧ (s_.1 ≠ gb210) ∧ (gb211 ≠ s_.1) ∧ (s_.1 ≠ gb211) ∧ (gb212 ≠ s_.1) ∧ (s_.1 ≠ gb212) ∧ (s_.2 ≠ s_.1) ∧ (s_.1 ≠ s_.2) ∧ (w.heap.size ≤ s_.2) ∧ (w.heap.size ≤ s_.2) ∧ (gb210 ≠ s_.2) ∧ (s_.2 ≠ gb210) ∧ (gb211 ≠ s_.2) ∧ (s_.2 ≠ gb211) ∧ (gb212 ≠ s_.2) ∧ (s_.2 ≠ gb212) ∧ (Below w.heap.size w w')) ?_ ?_
                      rotate_left
                      · intro hJ1_4_5
                        refine join_ (σ := Unit) 4 (bm 8 15) (fun s_ => [(42, .agg #[.int .i64 t215, .int .i64 t216]), (44, .agg #[.int .i64 t217, .int .i64 t218])]) (fun s_ w' => (w'.cell? ⟨gb210, 0, none⟩ = some (.int .i64 a0_0) ∧ w'.cell? ⟨gb210, 1, none⟩ = some (.int .i64 a0_1) ∧ w'.cell? ⟨gb210, 2, none⟩ = some (.int .i64 a0_2) ∧ w'.cell? ⟨gb210, 3, none⟩ = some (.int .i64 a0_3) ∧ w'.cell? ⟨gb211, 0, none⟩ = some (.int .i64 a1_0) ∧ w'.cell? ⟨gb211, 1, none⟩ = some (.int .i64 a1_1) ∧ w'.cell? ⟨gb211, 2, none⟩ = some (.int .i64 a1_2) ∧ w'.cell? ⟨gb211, 3, none⟩ = some (.int .i64 a1_3)) ∧ (w'.heap[gb210]? = some (.cells #[.int .i64 a0_0, .int .i64 a0_1, .int .i64 a0_2, .int .i64 a0_3] 47 (0, 0))) ∧ (w'.heap[gb211]? = some (.cells #[.int .i64 a1_0, .int .i64 a1_1, .int .i64 a1_2, .int .i64 a1_3] 47 (0, 0))) ∧ (w'.heap[gb212]? = some (.cells #[.int .i64 0, .int .i64 0, .int .i64 0, .int .i64 0] 47 (0, 0))) ∧ (Below w.heap.size w w')) ?_ ?_
                        rotate_left
                        · intro hJ1_3
                          refine join_ (σ := Nat) 4 (bm 8 23) (fun s_ => [(42, .agg #[.int .i64 t215, .int .i64 t216]), (7, .pointer (some ⟨s_, 0, none⟩))]) (fun s_ w' => (w'.cell? ⟨gb210, 0, none⟩ = some (.int .i64 a0_0) ∧ w'.cell? ⟨gb210, 1, none⟩ = some (.int .i64 a0_1) ∧ w'.cell? ⟨gb210, 2, none⟩ = some (.int .i64 a0_2) ∧ w'.cell? ⟨gb210, 3, none⟩ = some (.int .i64 a0_3) ∧ w'.cell? ⟨gb211, 0, none⟩ = some (.int .i64 a1_0) ∧ w'.cell? ⟨gb211, 1, none⟩ = some (.int .i64 a1_1) ∧ w'.cell? ⟨gb211, 2, none⟩ = some (.int .i64 a1_2) ∧ w'.cell? ⟨gb211, 3, none⟩ = some (.int .i64 a1_3)) ∧ (w'.heap[gb210]? = some (.cells #[.int .i64 a0_0, .int .i64 a0_1, .int .i64 a0_2, .int .i64 a0_3] 47 (0, 0))) ∧ (w'.heap[gb211]? = some (.cells #[.int .i64 a1_0, .int .i64 a1_1, .int .i64 a1_2, .int .i64 a1_3] 47 (0, 0))) ∧ (w'.heap[gb212]? = some (.cells #[.int .i64 0, .int .i64 0, .int .i64 0, .int .i64 0] 47 (0, 0))) ∧ (w'.heap[s_]? = some (.cells #[.int .i64 0, .int .i64 0] 25 (0, 0))) ∧ (w.heap.size ≤ s_) ∧ (w.heap.size ≤ s_) ∧ (gb210 ≠ s_) ∧ (s_ ≠ gb210) ∧ (gb211 ≠ s_) ∧ (s_ ≠ gb211) ∧ (gb212 ≠ s_) ∧ (s_ ≠ gb212) ∧ (Below w.heap.size w w')) ?_ ?_
                          rotate_left
                          · intro hJ1_4
                            refine join_ (σ := Nat) 4 (bm 8 39) (fun s_ => [(42, .agg #[.int .i64 t215, .int .i64 t216]), (8, .pointer (some ⟨s_, 0, none⟩))]) (fun s_ w' => (w'.cell? ⟨gb210, 0, none⟩ = some (.int .i64 a0_0) ∧ w'.cell? ⟨gb210, 1, none⟩ = some (.int .i64 a0_1) ∧ w'.cell? ⟨gb210, 2, none⟩ = some (.int .i64 a0_2) ∧ w'.cell? ⟨gb210, 3, none⟩ = some (.int .i64 a0_3) ∧ w'.cell? ⟨gb211, 0, none⟩ = some (.int .i64 a1_0) ∧ w'.cell? ⟨gb211, 1, none⟩ = some (.int .i64 a1_1) ∧ w'.cell? ⟨gb211, 2, none⟩ = some (.int .i64 a1_2) ∧ w'.cell? ⟨gb211, 3, none⟩ = some (.int .i64 a1_3)) ∧ (w'.heap[gb210]? = some (.cells #[.int .i64 a0_0, .int .i64 a0_1, .int .i64 a0_2, .int .i64 a0_3] 47 (0, 0))) ∧ (w'.heap[gb211]? = some (.cells #[.int .i64 a1_0, .int .i64 a1_1, .int .i64 a1_2, .int .i64 a1_3] 47 (0, 0))) ∧ (w'.heap[gb212]? = some (.cells #[.int .i64 0, .int .i64 0, .int .i64 0, .int .i64 0] 47 (0, 0))) ∧ (w'.heap[s_]? = some (.cells #[.int .i64 0, .int .i64 0] 25 (0, 0))) ∧ (w.heap.size ≤ s_) ∧ (w.heap.size ≤ s_) ∧ (gb210 ≠ s_) ∧ (s_ ≠ gb210) ∧ (gb211 ≠ s_) ∧ (s_ ≠ gb211) ∧ (gb212 ≠ s_) ∧ (s_ ≠ gb212) ∧ (Below w.heap.size w w')) ?_ ?_
                            rotate_left
                            · intro hJ1_5
                              refine join_ (σ := Nat × Nat) 4 (bm 8 53) (fun s_ => [(7, .pointer (some ⟨s_.1, 0, none⟩)), (8, .pointer (some ⟨s_.2, 0, none⟩))]) (fun s_ w' => (w'.cell? ⟨gb210, 0, none⟩ = some (.int .i64 a0_0) ∧ w'.cell? ⟨gb210, 1, none⟩ = some (.int .i64 a0_1) ∧ w'.cell? ⟨gb210, 2, none⟩ = some (.int .i64 a0_2) ∧ w'.cell? ⟨gb210, 3, none⟩ = some (.int .i64 a0_3) ∧ w'.cell? ⟨gb211, 0, none⟩ = some (.int .i64 a1_0) ∧ w'.cell? ⟨gb211, 1, none⟩ = some (.int .i64 a1_1) ∧ w'.cell? ⟨gb211, 2, none⟩ = some (.int .i64 a1_2) ∧ w'.cell? ⟨gb211, 3, none⟩ = some (.int .i64 a1_3)) ∧ (w'.heap[gb210]? = some (.cells #[.int .i64 a0_0, .int .i64 a0_1, .int .i64 a0_2, .int .i64 a0_3] 47 (0, 0))) ∧ (w'.heap[gb211]? = some (.cells #[.int .i64 a1_0, .int .i64 a1_1, .int .i64 a1_2, .int .i64 a1_3] 47 (0, 0))) ∧ (w'.heap[gb212]? = some (.cells #[.int .i64 0, .int .i64 0, .int .i64 0, .int .i64 0] 47 (0, 0))) ∧ (w'.heap[s_.1]? = some (.cells #[.int .i64 0, .int .i64 0] 25 (0, 0))) ∧ (w'.heap[s_.2]? = some (.cells #[.int .i64 0, .int .i64 0] 25 (0, 0))) ∧ (w.heap.size ≤ s_.1) ∧ (w.heap.size ≤ s_.1) ∧ (gb210 ≠ s_.1) ∧ (s_.1 ≠ gb210) ∧ (gb211 ≠ s_.1) ∧ (s_.1 ≠ gb211) ∧ (gb212 ≠ s_.1) ∧ (s_.1 ≠ gb212) ∧ (s_.2 ≠ s_.1) ∧ (s_.1 ≠ s_.2) ∧ (w.heap.size ≤ s_.2) ∧ (w.heap.size ≤ s_.2) ∧ (gb210 ≠ s_.2) ∧ (s_.2 ≠ gb210) ∧ (gb211 ≠ s_.2) ∧ (s_.2 ≠ gb211) ∧ (gb212 ≠ s_.2) ∧ (s_.2 ≠ gb212) ∧ (Below w.heap.size w w')) ?_ ?_
                              rotate_left
                              · intro hJ4_5
                                refine join_ (σ := Unit) 5 (bm 8 7) (fun s_ => [(42, .agg #[.int .i64 t215, .int .i64 t216])]) (fun s_ w' => (w'.cell? ⟨gb210, 0, none⟩ = some (.int .i64 a0_0) ∧ w'.cell? ⟨gb210, 1, none⟩ = some (.int .i64 a0_1) ∧ w'.cell? ⟨gb210, 2, none⟩ = some (.int .i64 a0_2) ∧ w'.cell? ⟨gb210, 3, none⟩ = some (.int .i64 a0_3) ∧ w'.cell? ⟨gb211, 0, none⟩ = some (.int .i64 a1_0) ∧ w'.cell? ⟨gb211, 1, none⟩ = some (.int .i64 a1_1) ∧ w'.cell? ⟨gb211, 2, none⟩ = some (.int .i64 a1_2) ∧ w'.cell? ⟨gb211, 3, none⟩ = some (.int .i64 a1_3)) ∧ (w'.heap[gb210]? = some (.cells #[.int .i64 a0_0, .int .i64 a0_1, .int .i64 a0_2, .int .i64 a0_3] 47 (0, 0))) ∧ (w'.heap[gb211]? = some (.cells #[.int .i64 a1_0, .int .i64 a1_1, .int .i64 a1_2, .int .i64 a1_3] 47 (0, 0))) ∧ (w'.heap[gb212]? = some (.cells #[.int .i64 0, .int .i64 0, .int .i64 0, .int .i64 0] 47 (0, 0))) ∧ (Below w.heap.size w w')) ?_ ?_
                                rotate_left
                                · intro hJ1
                                  refine join_ (σ := Nat) 5 (bm 8 21) (fun s_ => [(7, .pointer (some ⟨s_, 0, none⟩))]) (fun s_ w' => (w'.cell? ⟨gb210, 0, none⟩ = some (.int .i64 a0_0) ∧ w'.cell? ⟨gb210, 1, none⟩ = some (.int .i64 a0_1) ∧ w'.cell? ⟨gb210, 2, none⟩ = some (.int .i64 a0_2) ∧ w'.cell? ⟨gb210, 3, none⟩ = some (.int .i64 a0_3) ∧ w'.cell? ⟨gb211, 0, none⟩ = some (.int .i64 a1_0) ∧ w'.cell? ⟨gb211, 1, none⟩ = some (.int .i64 a1_1) ∧ w'.cell? ⟨gb211, 2, none⟩ = some (.int .i64 a1_2) ∧ w'.cell? ⟨gb211, 3, none⟩ = some (.int .i64 a1_3)) ∧ (w'.heap[gb210]? = some (.cells #[.int .i64 a0_0, .int .i64 a0_1, .int .i64 a0_2, .int .i64 a0_3] 47 (0, 0))) ∧ (w'.heap[gb211]? = some (.cells #[.int .i64 a1_0, .int .i64 a1_1, .int .i64 a1_2, .int .i64 a1_3] 47 (0, 0))) ∧ (w'.heap[gb212]? = some (.cells #[.int .i64 0, .int .i64 0, .int .i64 0, .int .i64 0] 47 (0, 0))) ∧ (w'.heap[s_]? = some (.cells #[.int .i64 0, .int .i64 0] 25 (0, 0))) ∧ (w.heap.size ≤ s_) ∧ (w.heap.size ≤ s_) ∧ (gb210 ≠ s_) ∧ (s_ ≠ gb210) ∧ (gb211 ≠ s_) ∧ (s_ ≠ gb211) ∧ (gb212 ≠ s_) ∧ (s_ ≠ gb212) ∧ (Below w.heap.size w w')) ?_ ?_
                                  rotate_left
                                  · intro hJ4
                                    refine join_ (σ := Nat) 5 (bm 8 37) (fun s_ => [(8, .pointer (some ⟨s_, 0, none⟩))]) (fun s_ w' => (w'.cell? ⟨gb210, 0, none⟩ = some (.int .i64 a0_0) ∧ w'.cell? ⟨gb210, 1, none⟩ = some (.int .i64 a0_1) ∧ w'.cell? ⟨gb210, 2, none⟩ = some (.int .i64 a0_2) ∧ w'.cell? ⟨gb210, 3, none⟩ = some (.int .i64 a0_3) ∧ w'.cell? ⟨gb211, 0, none⟩ = some (.int .i64 a1_0) ∧ w'.cell? ⟨gb211, 1, none⟩ = some (.int .i64 a1_1) ∧ w'.cell? ⟨gb211, 2, none⟩ = some (.int .i64 a1_2) ∧ w'.cell? ⟨gb211, 3, none⟩ = some (.int .i64 a1_3)) ∧ (w'.heap[gb210]? = some (.cells #[.int .i64 a0_0, .int .i64 a0_1, .int .i64 a0_2, .int .i64 a0_3] 47 (0, 0))) ∧ (w'.heap[gb211]? = some (.cells #[.int .i64 a1_0, .int .i64 a1_1, .int .i64 a1_2, .int .i64 a1_3] 47 (0, 0))) ∧ (w'.heap[gb212]? = some (.cells #[.int .i64 0, .int .i64 0, .int .i64 0, .int .i64 0] 47 (0, 0))) ∧ (w'.heap[s_]? = some (.cells #[.int .i64 0, .int .i64 0] 25 (0, 0))) ∧ (w.heap.size ≤ s_) ∧ (w.heap.size ≤ s_) ∧ (gb210 ≠ s_) ∧ (s_ ≠ gb210) ∧ (gb211 ≠ s_) ∧ (s_ ≠ gb211) ∧ (gb212 ≠ s_) ∧ (s_ ≠ gb212) ∧ (Below w.heap.size w w')) ?_ ?_
                                    rotate_left
                                    · intro hJ5
                                      refine three_ (i := 1) (j := 4) (k := 5) (Ni := some 42) (Nj := some 7) (Nk := some 8) (bm 8 7) (bm 8 21) (bm 8 37) rfl rfl rfl rfl rfl rfl (three_of HT_.out (by kernel_rfl)) (by decide) (by decide) (by decide) (fun K hK => ?_) (fun K hK => ?_) (fun K hK => ?_)
                                      · skip
                                        refine goes_ Try.func48 (by kernel_rfl) rfl #[.agg #[.int .i64 a0_0, .int .i64 a0_1, .int .i64 a0_2, .int .i64 a0_3]] (by rfl) rfl rfl (by (try simp only [List.map_toArray, List.map_cons, List.map_nil]); first | done | rfl | (simp only [List.length_drop, List.length_take]; rfl)) ?_
                                        with_reducible refine (phalanxref03_Last.calls a0_0 a0_1 a0_2 a0_3 t215 t216 _ A42.out).mono ?_
                                        rintro e w46 ⟨rfl, hb⟩
                                        refine ⟨_, rfl, ?_⟩
                                        replace BK210 := Aside0.mk (kb BK210 hb)
                                        replace BK211 := Aside0.mk (kb BK211 hb)
                                        replace BK212 := Aside0.mk (kb BK212 hb)
                                        replace HB := Aside0.mk (below_step (bw HB) hb)
                                        (try clear hb)
                                        (try clear hb2)
                                        (try clear hk)
                                        (try clear hi)
                                        refine hK.out _ _ ⟨(blk_cell BK210.out 0).trans rfl, (blk_cell BK210.out 1).trans rfl, (blk_cell BK210.out 2).trans rfl, (blk_cell BK210.out 3).trans rfl, (blk_cell BK211.out 0).trans rfl, (blk_cell BK211.out 1).trans rfl, (blk_cell BK211.out 2).trans rfl, (blk_cell BK211.out 3).trans rfl⟩ (fun hHeld => ?_)
                                        clear hK K
                                        refine norm_ (a' := ?_) ?_ ?_
                                        rotate_left
                                        · show Act.put _ (some 42) _ = _
                                          simp only [Act.put, List.setIfInBounds_toArray, List.set_cons_zero, List.set_cons_succ, i64_w, i32_w]
                                          rfl
                                        exact norm_ (by first | (simp only [putAll, Act.put, List.setIfInBounds_toArray, List.set_cons_zero, List.set_cons_succ]; done) | (simp only [putAll, Act.put, List.setIfInBounds_toArray, List.set_cons_zero, List.set_cons_succ]; rfl)) (hJ1 () _ ⟨hHeld, (kz BK210), (kz BK211), (kz BK212), (bw HB)⟩)
                                      · skip
                                        refine box_step ?hg (N := 7) ?hd (cs := #[.int .i64 0, .int .i64 0]) (t := 25) ?hr ?_; (case hd => rfl); (case hg => rfl); (case hr => first | (go_simp; done) | (go_simp; rfl))
                                        intro gb219 hg w46 hbox hb
                                        have BK219 := Aside0.mk (hbox)
                                        have GW219 := Aside0.mk ((bz HB _ hg : w.heap.size ≤ gb219))
                                        have GE219 := Aside0.mk ((bz HB _ hg : w.heap.size ≤ gb219))
                                        have NB210_219 := Aside0.mk ((nl BK210 hg : gb210 ≠ gb219))
                                        have NB219_210 := Aside0.mk ((ng BK210 hg : gb219 ≠ gb210))
                                        have NB211_219 := Aside0.mk ((nl BK211 hg : gb211 ≠ gb219))
                                        have NB219_211 := Aside0.mk ((ng BK211 hg : gb219 ≠ gb211))
                                        have NB212_219 := Aside0.mk ((nl BK212 hg : gb212 ≠ gb219))
                                        have NB219_212 := Aside0.mk ((ng BK212 hg : gb219 ≠ gb212))
                                        replace BK210 := Aside0.mk (kb BK210 hb)
                                        replace BK211 := Aside0.mk (kb BK211 hb)
                                        replace BK212 := Aside0.mk (kb BK212 hb)
                                        replace HB := Aside0.mk (below_step (bw HB) hb)
                                        clear hb hbox hg
                                        refine hK.out _ _ ⟨(blk_cell BK210.out 0).trans rfl, (blk_cell BK210.out 1).trans rfl, (blk_cell BK210.out 2).trans rfl, (blk_cell BK210.out 3).trans rfl, (blk_cell BK211.out 0).trans rfl, (blk_cell BK211.out 1).trans rfl, (blk_cell BK211.out 2).trans rfl, (blk_cell BK211.out 3).trans rfl⟩ (fun hHeld => ?_)
                                        clear hK K
                                        refine norm_ (a' := ?_) ?_ ?_
                                        rotate_left
                                        · show Act.put _ (some 7) _ = _
                                          simp only [Act.put, List.setIfInBounds_toArray, List.set_cons_zero, List.set_cons_succ, i64_w, i32_w]
                                          rfl
                                        exact norm_ (by first | (simp only [putAll, Act.put, List.setIfInBounds_toArray, List.set_cons_zero, List.set_cons_succ]; done) | (simp only [putAll, Act.put, List.setIfInBounds_toArray, List.set_cons_zero, List.set_cons_succ]; rfl)) (hJ4 (gb219) _ ⟨hHeld, (kz BK210), (kz BK211), (kz BK212), (kz BK219), GW219.out, GE219.out, NB210_219.out, NB219_210.out, NB211_219.out, NB219_211.out, NB212_219.out, NB219_212.out, (bw HB)⟩)
                                      · skip
                                        refine box_step ?hg (N := 8) ?hd (cs := #[.int .i64 0, .int .i64 0]) (t := 25) ?hr ?_; (case hd => rfl); (case hg => rfl); (case hr => first | (go_simp; done) | (go_simp; rfl))
                                        intro gb220 hg w46 hbox hb
                                        have BK220 := Aside0.mk (hbox)
                                        have GW220 := Aside0.mk ((bz HB _ hg : w.heap.size ≤ gb220))
                                        have GE220 := Aside0.mk ((bz HB _ hg : w.heap.size ≤ gb220))
                                        have NB210_220 := Aside0.mk ((nl BK210 hg : gb210 ≠ gb220))
                                        have NB220_210 := Aside0.mk ((ng BK210 hg : gb220 ≠ gb210))
                                        have NB211_220 := Aside0.mk ((nl BK211 hg : gb211 ≠ gb220))
                                        have NB220_211 := Aside0.mk ((ng BK211 hg : gb220 ≠ gb211))
                                        have NB212_220 := Aside0.mk ((nl BK212 hg : gb212 ≠ gb220))
                                        have NB220_212 := Aside0.mk ((ng BK212 hg : gb220 ≠ gb212))
                                        replace BK210 := Aside0.mk (kb BK210 hb)
                                        replace BK211 := Aside0.mk (kb BK211 hb)
                                        replace BK212 := Aside0.mk (kb BK212 hb)
                                        replace HB := Aside0.mk (below_step (bw HB) hb)
                                        clear hb hbox hg
                                        refine hK.out _ _ ⟨(blk_cell BK210.out 0).trans rfl, (blk_cell BK210.out 1).trans rfl, (blk_cell BK210.out 2).trans rfl, (blk_cell BK210.out 3).trans rfl, (blk_cell BK211.out 0).trans rfl, (blk_cell BK211.out 1).trans rfl, (blk_cell BK211.out 2).trans rfl, (blk_cell BK211.out 3).trans rfl⟩ (fun hHeld => ?_)
                                        clear hK K
                                        refine norm_ (a' := ?_) ?_ ?_
                                        rotate_left
                                        · show Act.put _ (some 8) _ = _
                                          simp only [Act.put, List.setIfInBounds_toArray, List.set_cons_zero, List.set_cons_succ, i64_w, i32_w]
                                          rfl
                                        exact norm_ (by first | (simp only [putAll, Act.put, List.setIfInBounds_toArray, List.set_cons_zero, List.set_cons_succ]; done) | (simp only [putAll, Act.put, List.setIfInBounds_toArray, List.set_cons_zero, List.set_cons_succ]; rfl)) (hJ5 (gb220) _ ⟨hHeld, (kz BK210), (kz BK211), (kz BK212), (kz BK220), GW220.out, GE220.out, NB210_220.out, NB220_210.out, NB211_220.out, NB220_211.out, NB212_220.out, NB220_212.out, (bw HB)⟩)
                                    · skip
                                      rintro gb220 w47 ⟨hS_, h0_, h1_, h2_, h3_, h4_, h5_, h6_, h7_, h8_, h9_, h10_, h11_, h12_⟩
                                      clear BK210 BK211 BK212 HB
                                      have BK210 : Aside0 (w47.heap[gb210]? = some (.cells #[.int .i64 a0_0, .int .i64 a0_1, .int .i64 a0_2, .int .i64 a0_3] 47 (0, 0))) := ⟨h0_⟩
                                      have BK211 : Aside0 (w47.heap[gb211]? = some (.cells #[.int .i64 a1_0, .int .i64 a1_1, .int .i64 a1_2, .int .i64 a1_3] 47 (0, 0))) := ⟨h1_⟩
                                      have BK212 : Aside0 (w47.heap[gb212]? = some (.cells #[.int .i64 0, .int .i64 0, .int .i64 0, .int .i64 0] 47 (0, 0))) := ⟨h2_⟩
                                      have BK220 : Aside0 (w47.heap[gb220]? = some (.cells #[.int .i64 0, .int .i64 0] 25 (0, 0))) := ⟨h3_⟩
                                      have GW220 : Aside0 (w.heap.size ≤ gb220) := ⟨h4_⟩
                                      have GE220 : Aside0 (w.heap.size ≤ gb220) := ⟨h5_⟩
                                      have NB210_220 : Aside0 (gb210 ≠ gb220) := ⟨h6_⟩
                                      have NB220_210 : Aside0 (gb220 ≠ gb210) := ⟨h7_⟩
                                      have NB211_220 : Aside0 (gb211 ≠ gb220) := ⟨h8_⟩
                                      have NB220_211 : Aside0 (gb220 ≠ gb211) := ⟨h9_⟩
                                      have NB212_220 : Aside0 (gb212 ≠ gb220) := ⟨h10_⟩
                                      have NB220_212 : Aside0 (gb220 ≠ gb212) := ⟨h11_⟩
                                      have HB : Aside0 (Below w.heap.size w w47) := ⟨h12_⟩
                                      clear h0_ h1_ h2_ h3_ h4_ h5_ h6_ h7_ h8_ h9_ h10_ h11_ h12_
                                      have hHeld : w47.cell? ⟨gb210, 0, none⟩ = some (.int .i64 a0_0) ∧ w47.cell? ⟨gb210, 1, none⟩ = some (.int .i64 a0_1) ∧ w47.cell? ⟨gb210, 2, none⟩ = some (.int .i64 a0_2) ∧ w47.cell? ⟨gb210, 3, none⟩ = some (.int .i64 a0_3) ∧ w47.cell? ⟨gb211, 0, none⟩ = some (.int .i64 a1_0) ∧ w47.cell? ⟨gb211, 1, none⟩ = some (.int .i64 a1_1) ∧ w47.cell? ⟨gb211, 2, none⟩ = some (.int .i64 a1_2) ∧ w47.cell? ⟨gb211, 3, none⟩ = some (.int .i64 a1_3) := hS_
                                      refine norm_ (a' := ?_) ?_ ?_
                                      rotate_left
                                      · simp only [putAll, Act.put, List.setIfInBounds_toArray, List.set_cons_zero, List.set_cons_succ]
                                        rfl
                                      refine two_ (i := 1) (j := 4) (Ni := some 42) (Nj := some 7) (bm 8 39) (bm 8 53) rfl rfl rfl rfl (two_of HT_.out (by kernel_rfl)) (by decide) (by decide) (fun K hK => ?_) (fun K hK => ?_)
                                      · skip
                                        refine goes_ Try.func48 (by kernel_rfl) rfl #[.agg #[.int .i64 a0_0, .int .i64 a0_1, .int .i64 a0_2, .int .i64 a0_3]] (by rfl) rfl rfl (by (try simp only [List.map_toArray, List.map_cons, List.map_nil]); first | done | rfl | (simp only [List.length_drop, List.length_take]; rfl)) ?_
                                        with_reducible refine (phalanxref03_Last.calls a0_0 a0_1 a0_2 a0_3 t215 t216 _ A42.out).mono ?_
                                        rintro e w48 ⟨rfl, hb⟩
                                        refine ⟨_, rfl, ?_⟩
                                        replace BK210 := Aside0.mk (kb BK210 hb)
                                        replace BK211 := Aside0.mk (kb BK211 hb)
                                        replace BK212 := Aside0.mk (kb BK212 hb)
                                        replace BK220 := Aside0.mk (kb BK220 hb)
                                        replace HB := Aside0.mk (below_step (bw HB) hb)
                                        (try clear hb)
                                        (try clear hb2)
                                        (try clear hk)
                                        (try clear hi)
                                        refine hK.out _ _ ⟨(blk_cell BK210.out 0).trans rfl, (blk_cell BK210.out 1).trans rfl, (blk_cell BK210.out 2).trans rfl, (blk_cell BK210.out 3).trans rfl, (blk_cell BK211.out 0).trans rfl, (blk_cell BK211.out 1).trans rfl, (blk_cell BK211.out 2).trans rfl, (blk_cell BK211.out 3).trans rfl⟩ (fun hHeld => ?_)
                                        clear hK K
                                        refine norm_ (a' := ?_) ?_ ?_
                                        rotate_left
                                        · show Act.put _ (some 42) _ = _
                                          simp only [Act.put, List.setIfInBounds_toArray, List.set_cons_zero, List.set_cons_succ, i64_w, i32_w]
                                          rfl
                                        exact norm_ (by first | (simp only [putAll, Act.put, List.setIfInBounds_toArray, List.set_cons_zero, List.set_cons_succ]; done) | (simp only [putAll, Act.put, List.setIfInBounds_toArray, List.set_cons_zero, List.set_cons_succ]; rfl)) (hJ1_5 (gb220) _ ⟨hHeld, (kz BK210), (kz BK211), (kz BK212), (kz BK220), GW220.out, GE220.out, NB210_220.out, NB220_210.out, NB211_220.out, NB220_211.out, NB212_220.out, NB220_212.out, (bw HB)⟩)
                                      · skip
                                        refine box_step ?hg (N := 7) ?hd (cs := #[.int .i64 0, .int .i64 0]) (t := 25) ?hr ?_; (case hd => rfl); (case hg => rfl); (case hr => first | (go_simp; done) | (go_simp; rfl))
                                        intro gb219 hg w48 hbox hb
                                        have BK219 := Aside0.mk (hbox)
                                        have GW219 := Aside0.mk ((bz HB _ hg : w.heap.size ≤ gb219))
                                        have GE219 := Aside0.mk ((bz HB _ hg : w.heap.size ≤ gb219))
                                        have NB210_219 := Aside0.mk ((nl BK210 hg : gb210 ≠ gb219))
                                        have NB219_210 := Aside0.mk ((ng BK210 hg : gb219 ≠ gb210))
                                        have NB211_219 := Aside0.mk ((nl BK211 hg : gb211 ≠ gb219))
                                        have NB219_211 := Aside0.mk ((ng BK211 hg : gb219 ≠ gb211))
                                        have NB212_219 := Aside0.mk ((nl BK212 hg : gb212 ≠ gb219))
                                        have NB219_212 := Aside0.mk ((ng BK212 hg : gb219 ≠ gb212))
                                        have NB220_219 := Aside0.mk ((nl BK220 hg : gb220 ≠ gb219))
                                        have NB219_220 := Aside0.mk ((ng BK220 hg : gb219 ≠ gb220))
                                        replace BK210 := Aside0.mk (kb BK210 hb)
                                        replace BK211 := Aside0.mk (kb BK211 hb)
                                        replace BK212 := Aside0.mk (kb BK212 hb)
                                        replace BK220 := Aside0.mk (kb BK220 hb)
                                        replace HB := Aside0.mk (below_step (bw HB) hb)
                                        clear hb hbox hg
                                        refine hK.out _ _ ⟨(blk_cell BK210.out 0).trans rfl, (blk_cell BK210.out 1).trans rfl, (blk_cell BK210.out 2).trans rfl, (blk_cell BK210.out 3).trans rfl, (blk_cell BK211.out 0).trans rfl, (blk_cell BK211.out 1).trans rfl, (blk_cell BK211.out 2).trans rfl, (blk_cell BK211.out 3).trans rfl⟩ (fun hHeld => ?_)
                                        clear hK K
                                        refine norm_ (a' := ?_) ?_ ?_
                                        rotate_left
                                        · show Act.put _ (some 7) _ = _
                                          simp only [Act.put, List.setIfInBounds_toArray, List.set_cons_zero, List.set_cons_succ, i64_w, i32_w]
                                          rfl
                                        exact norm_ (by first | (simp only [putAll, Act.put, List.setIfInBounds_toArray, List.set_cons_zero, List.set_cons_succ]; done) | (simp only [putAll, Act.put, List.setIfInBounds_toArray, List.set_cons_zero, List.set_cons_succ]; rfl)) (hJ4_5 (gb219, gb220) _ ⟨hHeld, (kz BK210), (kz BK211), (kz BK212), (kz BK219), (kz BK220), GW219.out, GE219.out, NB210_219.out, NB219_210.out, NB211_219.out, NB219_211.out, NB212_219.out, NB219_212.out, NB220_219.out, NB219_220.out, GW220.out, GE220.out, NB210_220.out, NB220_210.out, NB211_220.out, NB220_211.out, NB212_220.out, NB220_212.out, (bw HB)⟩)
                                  · skip
                                    rintro gb219 w47 ⟨hS_, h0_, h1_, h2_, h3_, h4_, h5_, h6_, h7_, h8_, h9_, h10_, h11_, h12_⟩
                                    clear BK210 BK211 BK212 HB
                                    have BK210 : Aside0 (w47.heap[gb210]? = some (.cells #[.int .i64 a0_0, .int .i64 a0_1, .int .i64 a0_2, .int .i64 a0_3] 47 (0, 0))) := ⟨h0_⟩
                                    have BK211 : Aside0 (w47.heap[gb211]? = some (.cells #[.int .i64 a1_0, .int .i64 a1_1, .int .i64 a1_2, .int .i64 a1_3] 47 (0, 0))) := ⟨h1_⟩
                                    have BK212 : Aside0 (w47.heap[gb212]? = some (.cells #[.int .i64 0, .int .i64 0, .int .i64 0, .int .i64 0] 47 (0, 0))) := ⟨h2_⟩
                                    have BK219 : Aside0 (w47.heap[gb219]? = some (.cells #[.int .i64 0, .int .i64 0] 25 (0, 0))) := ⟨h3_⟩
                                    have GW219 : Aside0 (w.heap.size ≤ gb219) := ⟨h4_⟩
                                    have GE219 : Aside0 (w.heap.size ≤ gb219) := ⟨h5_⟩
                                    have NB210_219 : Aside0 (gb210 ≠ gb219) := ⟨h6_⟩
                                    have NB219_210 : Aside0 (gb219 ≠ gb210) := ⟨h7_⟩
                                    have NB211_219 : Aside0 (gb211 ≠ gb219) := ⟨h8_⟩
                                    have NB219_211 : Aside0 (gb219 ≠ gb211) := ⟨h9_⟩
                                    have NB212_219 : Aside0 (gb212 ≠ gb219) := ⟨h10_⟩
                                    have NB219_212 : Aside0 (gb219 ≠ gb212) := ⟨h11_⟩
                                    have HB : Aside0 (Below w.heap.size w w47) := ⟨h12_⟩
                                    clear h0_ h1_ h2_ h3_ h4_ h5_ h6_ h7_ h8_ h9_ h10_ h11_ h12_
                                    have hHeld : w47.cell? ⟨gb210, 0, none⟩ = some (.int .i64 a0_0) ∧ w47.cell? ⟨gb210, 1, none⟩ = some (.int .i64 a0_1) ∧ w47.cell? ⟨gb210, 2, none⟩ = some (.int .i64 a0_2) ∧ w47.cell? ⟨gb210, 3, none⟩ = some (.int .i64 a0_3) ∧ w47.cell? ⟨gb211, 0, none⟩ = some (.int .i64 a1_0) ∧ w47.cell? ⟨gb211, 1, none⟩ = some (.int .i64 a1_1) ∧ w47.cell? ⟨gb211, 2, none⟩ = some (.int .i64 a1_2) ∧ w47.cell? ⟨gb211, 3, none⟩ = some (.int .i64 a1_3) := hS_
                                    refine norm_ (a' := ?_) ?_ ?_
                                    rotate_left
                                    · simp only [putAll, Act.put, List.setIfInBounds_toArray, List.set_cons_zero, List.set_cons_succ]
                                      rfl
                                    refine two_ (i := 1) (j := 5) (Ni := some 42) (Nj := some 8) (bm 8 23) (bm 8 53) rfl rfl rfl rfl (two_of HT_.out (by kernel_rfl)) (by decide) (by decide) (fun K hK => ?_) (fun K hK => ?_)
                                    · skip
                                      refine goes_ Try.func48 (by kernel_rfl) rfl #[.agg #[.int .i64 a0_0, .int .i64 a0_1, .int .i64 a0_2, .int .i64 a0_3]] (by rfl) rfl rfl (by (try simp only [List.map_toArray, List.map_cons, List.map_nil]); first | done | rfl | (simp only [List.length_drop, List.length_take]; rfl)) ?_
                                      with_reducible refine (phalanxref03_Last.calls a0_0 a0_1 a0_2 a0_3 t215 t216 _ A42.out).mono ?_
                                      rintro e w48 ⟨rfl, hb⟩
                                      refine ⟨_, rfl, ?_⟩
                                      replace BK210 := Aside0.mk (kb BK210 hb)
                                      replace BK211 := Aside0.mk (kb BK211 hb)
                                      replace BK212 := Aside0.mk (kb BK212 hb)
                                      replace BK219 := Aside0.mk (kb BK219 hb)
                                      replace HB := Aside0.mk (below_step (bw HB) hb)
                                      (try clear hb)
                                      (try clear hb2)
                                      (try clear hk)
                                      (try clear hi)
                                      refine hK.out _ _ ⟨(blk_cell BK210.out 0).trans rfl, (blk_cell BK210.out 1).trans rfl, (blk_cell BK210.out 2).trans rfl, (blk_cell BK210.out 3).trans rfl, (blk_cell BK211.out 0).trans rfl, (blk_cell BK211.out 1).trans rfl, (blk_cell BK211.out 2).trans rfl, (blk_cell BK211.out 3).trans rfl⟩ (fun hHeld => ?_)
                                      clear hK K
                                      refine norm_ (a' := ?_) ?_ ?_
                                      rotate_left
                                      · show Act.put _ (some 42) _ = _
                                        simp only [Act.put, List.setIfInBounds_toArray, List.set_cons_zero, List.set_cons_succ, i64_w, i32_w]
                                        rfl
                                      exact norm_ (by first | (simp only [putAll, Act.put, List.setIfInBounds_toArray, List.set_cons_zero, List.set_cons_succ]; done) | (simp only [putAll, Act.put, List.setIfInBounds_toArray, List.set_cons_zero, List.set_cons_succ]; rfl)) (hJ1_4 (gb219) _ ⟨hHeld, (kz BK210), (kz BK211), (kz BK212), (kz BK219), GW219.out, GE219.out, NB210_219.out, NB219_210.out, NB211_219.out, NB219_211.out, NB212_219.out, NB219_212.out, (bw HB)⟩)
                                    · skip
                                      refine box_step ?hg (N := 8) ?hd (cs := #[.int .i64 0, .int .i64 0]) (t := 25) ?hr ?_; (case hd => rfl); (case hg => rfl); (case hr => first | (go_simp; done) | (go_simp; rfl))
                                      intro gb220 hg w48 hbox hb
                                      have BK220 := Aside0.mk (hbox)
                                      have GW220 := Aside0.mk ((bz HB _ hg : w.heap.size ≤ gb220))
                                      have GE220 := Aside0.mk ((bz HB _ hg : w.heap.size ≤ gb220))
                                      have NB210_220 := Aside0.mk ((nl BK210 hg : gb210 ≠ gb220))
                                      have NB220_210 := Aside0.mk ((ng BK210 hg : gb220 ≠ gb210))
                                      have NB211_220 := Aside0.mk ((nl BK211 hg : gb211 ≠ gb220))
                                      have NB220_211 := Aside0.mk ((ng BK211 hg : gb220 ≠ gb211))
                                      have NB212_220 := Aside0.mk ((nl BK212 hg : gb212 ≠ gb220))
                                      have NB220_212 := Aside0.mk ((ng BK212 hg : gb220 ≠ gb212))
                                      have NB219_220 := Aside0.mk ((nl BK219 hg : gb219 ≠ gb220))
                                      have NB220_219 := Aside0.mk ((ng BK219 hg : gb220 ≠ gb219))
                                      replace BK210 := Aside0.mk (kb BK210 hb)
                                      replace BK211 := Aside0.mk (kb BK211 hb)
                                      replace BK212 := Aside0.mk (kb BK212 hb)
                                      replace BK219 := Aside0.mk (kb BK219 hb)
                                      replace HB := Aside0.mk (below_step (bw HB) hb)
                                      clear hb hbox hg
                                      refine hK.out _ _ ⟨(blk_cell BK210.out 0).trans rfl, (blk_cell BK210.out 1).trans rfl, (blk_cell BK210.out 2).trans rfl, (blk_cell BK210.out 3).trans rfl, (blk_cell BK211.out 0).trans rfl, (blk_cell BK211.out 1).trans rfl, (blk_cell BK211.out 2).trans rfl, (blk_cell BK211.out 3).trans rfl⟩ (fun hHeld => ?_)
                                      clear hK K
                                      refine norm_ (a' := ?_) ?_ ?_
                                      rotate_left
                                      · show Act.put _ (some 8) _ = _
                                        simp only [Act.put, List.setIfInBounds_toArray, List.set_cons_zero, List.set_cons_succ, i64_w, i32_w]
                                        rfl
                                      exact norm_ (by first | (simp only [putAll, Act.put, List.setIfInBounds_toArray, List.set_cons_zero, List.set_cons_succ]; done) | (simp only [putAll, Act.put, List.setIfInBounds_toArray, List.set_cons_zero, List.set_cons_succ]; rfl)) (hJ4_5 (gb219, gb220) _ ⟨hHeld, (kz BK210), (kz BK211), (kz BK212), (kz BK219), (kz BK220), GW219.out, GE219.out, NB210_219.out, NB219_210.out, NB211_219.out, NB219_211.out, NB212_219.out, NB219_212.out, NB220_219.out, NB219_220.out, GW220.out, GE220.out, NB210_220.out, NB220_210.out, NB211_220.out, NB220_211.out, NB212_220.out, NB220_212.out, (bw HB)⟩)
                                · skip
                                  rintro _ w47 ⟨hS_, h0_, h1_, h2_, h3_⟩
                                  clear BK210 BK211 BK212 HB
                                  have BK210 : Aside0 (w47.heap[gb210]? = some (.cells #[.int .i64 a0_0, .int .i64 a0_1, .int .i64 a0_2, .int .i64 a0_3] 47 (0, 0))) := ⟨h0_⟩
                                  have BK211 : Aside0 (w47.heap[gb211]? = some (.cells #[.int .i64 a1_0, .int .i64 a1_1, .int .i64 a1_2, .int .i64 a1_3] 47 (0, 0))) := ⟨h1_⟩
                                  have BK212 : Aside0 (w47.heap[gb212]? = some (.cells #[.int .i64 0, .int .i64 0, .int .i64 0, .int .i64 0] 47 (0, 0))) := ⟨h2_⟩
                                  have HB : Aside0 (Below w.heap.size w w47) := ⟨h3_⟩
                                  clear h0_ h1_ h2_ h3_
                                  have hHeld : w47.cell? ⟨gb210, 0, none⟩ = some (.int .i64 a0_0) ∧ w47.cell? ⟨gb210, 1, none⟩ = some (.int .i64 a0_1) ∧ w47.cell? ⟨gb210, 2, none⟩ = some (.int .i64 a0_2) ∧ w47.cell? ⟨gb210, 3, none⟩ = some (.int .i64 a0_3) ∧ w47.cell? ⟨gb211, 0, none⟩ = some (.int .i64 a1_0) ∧ w47.cell? ⟨gb211, 1, none⟩ = some (.int .i64 a1_1) ∧ w47.cell? ⟨gb211, 2, none⟩ = some (.int .i64 a1_2) ∧ w47.cell? ⟨gb211, 3, none⟩ = some (.int .i64 a1_3) := hS_
                                  refine norm_ (a' := ?_) ?_ ?_
                                  rotate_left
                                  · simp only [putAll, Act.put, List.setIfInBounds_toArray, List.set_cons_zero, List.set_cons_succ]
                                    rfl
                                  refine three_ (i := 3) (j := 4) (k := 5) (Ni := some 44) (Nj := some 7) (Nk := some 8) (bm 8 15) (bm 8 23) (bm 8 39) rfl rfl rfl rfl rfl rfl (three_of HT_.out (by kernel_rfl)) (by decide) (by decide) (by decide) (fun K hK => ?_) (fun K hK => ?_) (fun K hK => ?_)
                                  · skip
                                    refine goes_ Try.func48 (by kernel_rfl) rfl #[.agg #[.int .i64 a1_0, .int .i64 a1_1, .int .i64 a1_2, .int .i64 a1_3]] (by rfl) rfl rfl (by (try simp only [List.map_toArray, List.map_cons, List.map_nil]); first | done | rfl | (simp only [List.length_drop, List.length_take]; rfl)) ?_
                                    with_reducible refine (phalanxref03_Last.calls a1_0 a1_1 a1_2 a1_3 t217 t218 _ A43.out).mono ?_
                                    rintro e w48 ⟨rfl, hb⟩
                                    refine ⟨_, rfl, ?_⟩
                                    replace BK210 := Aside0.mk (kb BK210 hb)
                                    replace BK211 := Aside0.mk (kb BK211 hb)
                                    replace BK212 := Aside0.mk (kb BK212 hb)
                                    replace HB := Aside0.mk (below_step (bw HB) hb)
                                    (try clear hb)
                                    (try clear hb2)
                                    (try clear hk)
                                    (try clear hi)
                                    refine hK.out _ _ ⟨(blk_cell BK210.out 0).trans rfl, (blk_cell BK210.out 1).trans rfl, (blk_cell BK210.out 2).trans rfl, (blk_cell BK210.out 3).trans rfl, (blk_cell BK211.out 0).trans rfl, (blk_cell BK211.out 1).trans rfl, (blk_cell BK211.out 2).trans rfl, (blk_cell BK211.out 3).trans rfl⟩ (fun hHeld => ?_)
                                    clear hK K
                                    refine norm_ (a' := ?_) ?_ ?_
                                    rotate_left
                                    · show Act.put _ (some 44) _ = _
                                      simp only [Act.put, List.setIfInBounds_toArray, List.set_cons_zero, List.set_cons_succ, i64_w, i32_w]
                                      rfl
                                    exact norm_ (by first | (simp only [putAll, Act.put, List.setIfInBounds_toArray, List.set_cons_zero, List.set_cons_succ]; done) | (simp only [putAll, Act.put, List.setIfInBounds_toArray, List.set_cons_zero, List.set_cons_succ]; rfl)) (hJ1_3 () _ ⟨hHeld, (kz BK210), (kz BK211), (kz BK212), (bw HB)⟩)
                                  · skip
                                    refine box_step ?hg (N := 7) ?hd (cs := #[.int .i64 0, .int .i64 0]) (t := 25) ?hr ?_; (case hd => rfl); (case hg => rfl); (case hr => first | (go_simp; done) | (go_simp; rfl))
                                    intro gb219 hg w48 hbox hb
                                    have BK219 := Aside0.mk (hbox)
                                    have GW219 := Aside0.mk ((bz HB _ hg : w.heap.size ≤ gb219))
                                    have GE219 := Aside0.mk ((bz HB _ hg : w.heap.size ≤ gb219))
                                    have NB210_219 := Aside0.mk ((nl BK210 hg : gb210 ≠ gb219))
                                    have NB219_210 := Aside0.mk ((ng BK210 hg : gb219 ≠ gb210))
                                    have NB211_219 := Aside0.mk ((nl BK211 hg : gb211 ≠ gb219))
                                    have NB219_211 := Aside0.mk ((ng BK211 hg : gb219 ≠ gb211))
                                    have NB212_219 := Aside0.mk ((nl BK212 hg : gb212 ≠ gb219))
                                    have NB219_212 := Aside0.mk ((ng BK212 hg : gb219 ≠ gb212))
                                    replace BK210 := Aside0.mk (kb BK210 hb)
                                    replace BK211 := Aside0.mk (kb BK211 hb)
                                    replace BK212 := Aside0.mk (kb BK212 hb)
                                    replace HB := Aside0.mk (below_step (bw HB) hb)
                                    clear hb hbox hg
                                    refine hK.out _ _ ⟨(blk_cell BK210.out 0).trans rfl, (blk_cell BK210.out 1).trans rfl, (blk_cell BK210.out 2).trans rfl, (blk_cell BK210.out 3).trans rfl, (blk_cell BK211.out 0).trans rfl, (blk_cell BK211.out 1).trans rfl, (blk_cell BK211.out 2).trans rfl, (blk_cell BK211.out 3).trans rfl⟩ (fun hHeld => ?_)
                                    clear hK K
                                    refine norm_ (a' := ?_) ?_ ?_
                                    rotate_left
                                    · show Act.put _ (some 7) _ = _
                                      simp only [Act.put, List.setIfInBounds_toArray, List.set_cons_zero, List.set_cons_succ, i64_w, i32_w]
                                      rfl
                                    exact norm_ (by first | (simp only [putAll, Act.put, List.setIfInBounds_toArray, List.set_cons_zero, List.set_cons_succ]; done) | (simp only [putAll, Act.put, List.setIfInBounds_toArray, List.set_cons_zero, List.set_cons_succ]; rfl)) (hJ1_4 (gb219) _ ⟨hHeld, (kz BK210), (kz BK211), (kz BK212), (kz BK219), GW219.out, GE219.out, NB210_219.out, NB219_210.out, NB211_219.out, NB219_211.out, NB212_219.out, NB219_212.out, (bw HB)⟩)
                                  · skip
                                    refine box_step ?hg (N := 8) ?hd (cs := #[.int .i64 0, .int .i64 0]) (t := 25) ?hr ?_; (case hd => rfl); (case hg => rfl); (case hr => first | (go_simp; done) | (go_simp; rfl))
                                    intro gb220 hg w48 hbox hb
                                    have BK220 := Aside0.mk (hbox)
                                    have GW220 := Aside0.mk ((bz HB _ hg : w.heap.size ≤ gb220))
                                    have GE220 := Aside0.mk ((bz HB _ hg : w.heap.size ≤ gb220))
                                    have NB210_220 := Aside0.mk ((nl BK210 hg : gb210 ≠ gb220))
                                    have NB220_210 := Aside0.mk ((ng BK210 hg : gb220 ≠ gb210))
                                    have NB211_220 := Aside0.mk ((nl BK211 hg : gb211 ≠ gb220))
                                    have NB220_211 := Aside0.mk ((ng BK211 hg : gb220 ≠ gb211))
                                    have NB212_220 := Aside0.mk ((nl BK212 hg : gb212 ≠ gb220))
                                    have NB220_212 := Aside0.mk ((ng BK212 hg : gb220 ≠ gb212))
                                    replace BK210 := Aside0.mk (kb BK210 hb)
                                    replace BK211 := Aside0.mk (kb BK211 hb)
                                    replace BK212 := Aside0.mk (kb BK212 hb)
                                    replace HB := Aside0.mk (below_step (bw HB) hb)
                                    clear hb hbox hg
                                    refine hK.out _ _ ⟨(blk_cell BK210.out 0).trans rfl, (blk_cell BK210.out 1).trans rfl, (blk_cell BK210.out 2).trans rfl, (blk_cell BK210.out 3).trans rfl, (blk_cell BK211.out 0).trans rfl, (blk_cell BK211.out 1).trans rfl, (blk_cell BK211.out 2).trans rfl, (blk_cell BK211.out 3).trans rfl⟩ (fun hHeld => ?_)
                                    clear hK K
                                    refine norm_ (a' := ?_) ?_ ?_
                                    rotate_left
                                    · show Act.put _ (some 8) _ = _
                                      simp only [Act.put, List.setIfInBounds_toArray, List.set_cons_zero, List.set_cons_succ, i64_w, i32_w]
                                      rfl
                                    exact norm_ (by first | (simp only [putAll, Act.put, List.setIfInBounds_toArray, List.set_cons_zero, List.set_cons_succ]; done) | (simp only [putAll, Act.put, List.setIfInBounds_toArray, List.set_cons_zero, List.set_cons_succ]; rfl)) (hJ1_5 (gb220) _ ⟨hHeld, (kz BK210), (kz BK211), (kz BK212), (kz BK220), GW220.out, GE220.out, NB210_220.out, NB220_210.out, NB211_220.out, NB220_211.out, NB212_220.out, NB220_212.out, (bw HB)⟩)
                              · skip
                                rintro ⟨gb219, gb220⟩ w48 ⟨hS_, h0_, h1_, h2_, h3_, h4_, h5_, h6_, h7_, h8_, h9_, h10_, h11_, h12_, h13_, h14_, h15_, h16_, h17_, h18_, h19_, h20_, h21_, h22_, h23_⟩
                                clear BK210 BK211 BK212 HB
                                have BK210 : Aside0 (w48.heap[gb210]? = some (.cells #[.int .i64 a0_0, .int .i64 a0_1, .int .i64 a0_2, .int .i64 a0_3] 47 (0, 0))) := ⟨h0_⟩
                                have BK211 : Aside0 (w48.heap[gb211]? = some (.cells #[.int .i64 a1_0, .int .i64 a1_1, .int .i64 a1_2, .int .i64 a1_3] 47 (0, 0))) := ⟨h1_⟩
                                have BK212 : Aside0 (w48.heap[gb212]? = some (.cells #[.int .i64 0, .int .i64 0, .int .i64 0, .int .i64 0] 47 (0, 0))) := ⟨h2_⟩
                                have BK219 : Aside0 (w48.heap[gb219]? = some (.cells #[.int .i64 0, .int .i64 0] 25 (0, 0))) := ⟨h3_⟩
                                have BK220 : Aside0 (w48.heap[gb220]? = some (.cells #[.int .i64 0, .int .i64 0] 25 (0, 0))) := ⟨h4_⟩
                                have GW219 : Aside0 (w.heap.size ≤ gb219) := ⟨h5_⟩
                                have GE219 : Aside0 (w.heap.size ≤ gb219) := ⟨h6_⟩
                                have NB210_219 : Aside0 (gb210 ≠ gb219) := ⟨h7_⟩
                                have NB219_210 : Aside0 (gb219 ≠ gb210) := ⟨h8_⟩
                                have NB211_219 : Aside0 (gb211 ≠ gb219) := ⟨h9_⟩
                                have NB219_211 : Aside0 (gb219 ≠ gb211) := ⟨h10_⟩
                                have NB212_219 : Aside0 (gb212 ≠ gb219) := ⟨h11_⟩
                                have NB219_212 : Aside0 (gb219 ≠ gb212) := ⟨h12_⟩
                                have NB220_219 : Aside0 (gb220 ≠ gb219) := ⟨h13_⟩
                                have NB219_220 : Aside0 (gb219 ≠ gb220) := ⟨h14_⟩
                                have GW220 : Aside0 (w.heap.size ≤ gb220) := ⟨h15_⟩
                                have GE220 : Aside0 (w.heap.size ≤ gb220) := ⟨h16_⟩
                                have NB210_220 : Aside0 (gb210 ≠ gb220) := ⟨h17_⟩
                                have NB220_210 : Aside0 (gb220 ≠ gb210) := ⟨h18_⟩
                                have NB211_220 : Aside0 (gb211 ≠ gb220) := ⟨h19_⟩
                                have NB220_211 : Aside0 (gb220 ≠ gb211) := ⟨h20_⟩
                                have NB212_220 : Aside0 (gb212 ≠ gb220) := ⟨h21_⟩
                                have NB220_212 : Aside0 (gb220 ≠ gb212) := ⟨h22_⟩
                                have HB : Aside0 (Below w.heap.size w w48) := ⟨h23_⟩
                                clear h0_ h1_ h2_ h3_ h4_ h5_ h6_ h7_ h8_ h9_ h10_ h11_ h12_ h13_ h14_ h15_ h16_ h17_ h18_ h19_ h20_ h21_ h22_ h23_
                                have hHeld : w48.cell? ⟨gb210, 0, none⟩ = some (.int .i64 a0_0) ∧ w48.cell? ⟨gb210, 1, none⟩ = some (.int .i64 a0_1) ∧ w48.cell? ⟨gb210, 2, none⟩ = some (.int .i64 a0_2) ∧ w48.cell? ⟨gb210, 3, none⟩ = some (.int .i64 a0_3) ∧ w48.cell? ⟨gb211, 0, none⟩ = some (.int .i64 a1_0) ∧ w48.cell? ⟨gb211, 1, none⟩ = some (.int .i64 a1_1) ∧ w48.cell? ⟨gb211, 2, none⟩ = some (.int .i64 a1_2) ∧ w48.cell? ⟨gb211, 3, none⟩ = some (.int .i64 a1_3) := hS_
                                refine norm_ (a' := ?_) ?_ ?_
                                rotate_left
                                · simp only [putAll, Act.put, List.setIfInBounds_toArray, List.set_cons_zero, List.set_cons_succ]
                                  rfl
                                refine one_ (i := 1) (N := some 42) (bm 8 55) rfl rfl (one_of HT_.out (by kernel_rfl)) (by decide) (fun K hK => ?_)
                                refine goes_ Try.func48 (by kernel_rfl) rfl #[.agg #[.int .i64 a0_0, .int .i64 a0_1, .int .i64 a0_2, .int .i64 a0_3]] (by rfl) rfl rfl (by (try simp only [List.map_toArray, List.map_cons, List.map_nil]); first | done | rfl | (simp only [List.length_drop, List.length_take]; rfl)) ?_
                                with_reducible refine (phalanxref03_Last.calls a0_0 a0_1 a0_2 a0_3 t215 t216 _ A42.out).mono ?_
                                rintro e w49 ⟨rfl, hb⟩
                                refine ⟨_, rfl, ?_⟩
                                replace BK210 := Aside0.mk (kb BK210 hb)
                                replace BK211 := Aside0.mk (kb BK211 hb)
                                replace BK212 := Aside0.mk (kb BK212 hb)
                                replace BK219 := Aside0.mk (kb BK219 hb)
                                replace BK220 := Aside0.mk (kb BK220 hb)
                                replace HB := Aside0.mk (below_step (bw HB) hb)
                                (try clear hb)
                                (try clear hb2)
                                (try clear hk)
                                (try clear hi)
                                refine hK.out _ _ ⟨(blk_cell BK210.out 0).trans rfl, (blk_cell BK210.out 1).trans rfl, (blk_cell BK210.out 2).trans rfl, (blk_cell BK210.out 3).trans rfl, (blk_cell BK211.out 0).trans rfl, (blk_cell BK211.out 1).trans rfl, (blk_cell BK211.out 2).trans rfl, (blk_cell BK211.out 3).trans rfl⟩ (fun hHeld => ?_)
                                clear hK K
                                refine norm_ (a' := ?_) ?_ ?_
                                rotate_left
                                · show Act.put _ (some 42) _ = _
                                  simp only [Act.put, List.setIfInBounds_toArray, List.set_cons_zero, List.set_cons_succ, i64_w, i32_w]
                                  rfl
                                exact norm_ (by first | (simp only [putAll, Act.put, List.setIfInBounds_toArray, List.set_cons_zero, List.set_cons_succ]; done) | (simp only [putAll, Act.put, List.setIfInBounds_toArray, List.set_cons_zero, List.set_cons_succ]; rfl)) (hJ1_4_5 (gb219, gb220) _ ⟨hHeld, (kz BK210), (kz BK211), (kz BK212), (kz BK219), (kz BK220), GW219.out, GE219.out, NB210_219.out, NB219_210.out, NB211_219.out, NB219_211.out, NB212_219.out, NB219_212.out, NB220_219.out, NB219_220.out, GW220.out, GE220.out, NB210_220.out, NB220_210.out, NB211_220.out, NB220_211.out, NB212_220.out, NB220_212.out, (bw HB)⟩)
                            · skip
                              rintro gb220 w48 ⟨hS_, h0_, h1_, h2_, h3_, h4_, h5_, h6_, h7_, h8_, h9_, h10_, h11_, h12_⟩
                              clear BK210 BK211 BK212 HB
                              have BK210 : Aside0 (w48.heap[gb210]? = some (.cells #[.int .i64 a0_0, .int .i64 a0_1, .int .i64 a0_2, .int .i64 a0_3] 47 (0, 0))) := ⟨h0_⟩
                              have BK211 : Aside0 (w48.heap[gb211]? = some (.cells #[.int .i64 a1_0, .int .i64 a1_1, .int .i64 a1_2, .int .i64 a1_3] 47 (0, 0))) := ⟨h1_⟩
                              have BK212 : Aside0 (w48.heap[gb212]? = some (.cells #[.int .i64 0, .int .i64 0, .int .i64 0, .int .i64 0] 47 (0, 0))) := ⟨h2_⟩
                              have BK220 : Aside0 (w48.heap[gb220]? = some (.cells #[.int .i64 0, .int .i64 0] 25 (0, 0))) := ⟨h3_⟩
                              have GW220 : Aside0 (w.heap.size ≤ gb220) := ⟨h4_⟩
                              have GE220 : Aside0 (w.heap.size ≤ gb220) := ⟨h5_⟩
                              have NB210_220 : Aside0 (gb210 ≠ gb220) := ⟨h6_⟩
                              have NB220_210 : Aside0 (gb220 ≠ gb210) := ⟨h7_⟩
                              have NB211_220 : Aside0 (gb211 ≠ gb220) := ⟨h8_⟩
                              have NB220_211 : Aside0 (gb220 ≠ gb211) := ⟨h9_⟩
                              have NB212_220 : Aside0 (gb212 ≠ gb220) := ⟨h10_⟩
                              have NB220_212 : Aside0 (gb220 ≠ gb212) := ⟨h11_⟩
                              have HB : Aside0 (Below w.heap.size w w48) := ⟨h12_⟩
                              clear h0_ h1_ h2_ h3_ h4_ h5_ h6_ h7_ h8_ h9_ h10_ h11_ h12_
                              have hHeld : w48.cell? ⟨gb210, 0, none⟩ = some (.int .i64 a0_0) ∧ w48.cell? ⟨gb210, 1, none⟩ = some (.int .i64 a0_1) ∧ w48.cell? ⟨gb210, 2, none⟩ = some (.int .i64 a0_2) ∧ w48.cell? ⟨gb210, 3, none⟩ = some (.int .i64 a0_3) ∧ w48.cell? ⟨gb211, 0, none⟩ = some (.int .i64 a1_0) ∧ w48.cell? ⟨gb211, 1, none⟩ = some (.int .i64 a1_1) ∧ w48.cell? ⟨gb211, 2, none⟩ = some (.int .i64 a1_2) ∧ w48.cell? ⟨gb211, 3, none⟩ = some (.int .i64 a1_3) := hS_
                              refine norm_ (a' := ?_) ?_ ?_
                              rotate_left
                              · simp only [putAll, Act.put, List.setIfInBounds_toArray, List.set_cons_zero, List.set_cons_succ]
                                rfl
                              refine two_ (i := 3) (j := 4) (Ni := some 44) (Nj := some 7) (bm 8 47) (bm 8 55) rfl rfl rfl rfl (two_of HT_.out (by kernel_rfl)) (by decide) (by decide) (fun K hK => ?_) (fun K hK => ?_)
                              · skip
                                refine goes_ Try.func48 (by kernel_rfl) rfl #[.agg #[.int .i64 a1_0, .int .i64 a1_1, .int .i64 a1_2, .int .i64 a1_3]] (by rfl) rfl rfl (by (try simp only [List.map_toArray, List.map_cons, List.map_nil]); first | done | rfl | (simp only [List.length_drop, List.length_take]; rfl)) ?_
                                with_reducible refine (phalanxref03_Last.calls a1_0 a1_1 a1_2 a1_3 t217 t218 _ A43.out).mono ?_
                                rintro e w49 ⟨rfl, hb⟩
                                refine ⟨_, rfl, ?_⟩
                                replace BK210 := Aside0.mk (kb BK210 hb)
                                replace BK211 := Aside0.mk (kb BK211 hb)
                                replace BK212 := Aside0.mk (kb BK212 hb)
                                replace BK220 := Aside0.mk (kb BK220 hb)
                                replace HB := Aside0.mk (below_step (bw HB) hb)
                                (try clear hb)
                                (try clear hb2)
                                (try clear hk)
                                (try clear hi)
                                refine hK.out _ _ ⟨(blk_cell BK210.out 0).trans rfl, (blk_cell BK210.out 1).trans rfl, (blk_cell BK210.out 2).trans rfl, (blk_cell BK210.out 3).trans rfl, (blk_cell BK211.out 0).trans rfl, (blk_cell BK211.out 1).trans rfl, (blk_cell BK211.out 2).trans rfl, (blk_cell BK211.out 3).trans rfl⟩ (fun hHeld => ?_)
                                clear hK K
                                refine norm_ (a' := ?_) ?_ ?_
                                rotate_left
                                · show Act.put _ (some 44) _ = _
                                  simp only [Act.put, List.setIfInBounds_toArray, List.set_cons_zero, List.set_cons_succ, i64_w, i32_w]
                                  rfl
                                exact norm_ (by first | (simp only [putAll, Act.put, List.setIfInBounds_toArray, List.set_cons_zero, List.set_cons_succ]; done) | (simp only [putAll, Act.put, List.setIfInBounds_toArray, List.set_cons_zero, List.set_cons_succ]; rfl)) (hJ1_3_5 (gb220) _ ⟨hHeld, (kz BK210), (kz BK211), (kz BK212), (kz BK220), GW220.out, GE220.out, NB210_220.out, NB220_210.out, NB211_220.out, NB220_211.out, NB212_220.out, NB220_212.out, (bw HB)⟩)
                              · skip
                                refine box_step ?hg (N := 7) ?hd (cs := #[.int .i64 0, .int .i64 0]) (t := 25) ?hr ?_; (case hd => rfl); (case hg => rfl); (case hr => first | (go_simp; done) | (go_simp; rfl))
                                intro gb219 hg w49 hbox hb
                                have BK219 := Aside0.mk (hbox)
                                have GW219 := Aside0.mk ((bz HB _ hg : w.heap.size ≤ gb219))
                                have GE219 := Aside0.mk ((bz HB _ hg : w.heap.size ≤ gb219))
                                have NB210_219 := Aside0.mk ((nl BK210 hg : gb210 ≠ gb219))
                                have NB219_210 := Aside0.mk ((ng BK210 hg : gb219 ≠ gb210))
                                have NB211_219 := Aside0.mk ((nl BK211 hg : gb211 ≠ gb219))
                                have NB219_211 := Aside0.mk ((ng BK211 hg : gb219 ≠ gb211))
                                have NB212_219 := Aside0.mk ((nl BK212 hg : gb212 ≠ gb219))
                                have NB219_212 := Aside0.mk ((ng BK212 hg : gb219 ≠ gb212))
                                have NB220_219 := Aside0.mk ((nl BK220 hg : gb220 ≠ gb219))
                                have NB219_220 := Aside0.mk ((ng BK220 hg : gb219 ≠ gb220))
                                replace BK210 := Aside0.mk (kb BK210 hb)
                                replace BK211 := Aside0.mk (kb BK211 hb)
                                replace BK212 := Aside0.mk (kb BK212 hb)
                                replace BK220 := Aside0.mk (kb BK220 hb)
                                replace HB := Aside0.mk (below_step (bw HB) hb)
                                clear hb hbox hg
                                refine hK.out _ _ ⟨(blk_cell BK210.out 0).trans rfl, (blk_cell BK210.out 1).trans rfl, (blk_cell BK210.out 2).trans rfl, (blk_cell BK210.out 3).trans rfl, (blk_cell BK211.out 0).trans rfl, (blk_cell BK211.out 1).trans rfl, (blk_cell BK211.out 2).trans rfl, (blk_cell BK211.out 3).trans rfl⟩ (fun hHeld => ?_)
                                clear hK K
                                refine norm_ (a' := ?_) ?_ ?_
                                rotate_left
                                · show Act.put _ (some 7) _ = _
                                  simp only [Act.put, List.setIfInBounds_toArray, List.set_cons_zero, List.set_cons_succ, i64_w, i32_w]
                                  rfl
                                exact norm_ (by first | (simp only [putAll, Act.put, List.setIfInBounds_toArray, List.set_cons_zero, List.set_cons_succ]; done) | (simp only [putAll, Act.put, List.setIfInBounds_toArray, List.set_cons_zero, List.set_cons_succ]; rfl)) (hJ1_4_5 (gb219, gb220) _ ⟨hHeld, (kz BK210), (kz BK211), (kz BK212), (kz BK219), (kz BK220), GW219.out, GE219.out, NB210_219.out, NB219_210.out, NB211_219.out, NB219_211.out, NB212_219.out, NB219_212.out, NB220_219.out, NB219_220.out, GW220.out, GE220.out, NB210_220.out, NB220_210.out, NB211_220.out, NB220_211.out, NB212_220.out, NB220_212.out, (bw HB)⟩)
                          · skip
                            rintro gb219 w48 ⟨hS_, h0_, h1_, h2_, h3_, h4_, h5_, h6_, h7_, h8_, h9_, h10_, h11_, h12_⟩
                            clear BK210 BK211 BK212 HB
                            have BK210 : Aside0 (w48.heap[gb210]? = some (.cells #[.int .i64 a0_0, .int .i64 a0_1, .int .i64 a0_2, .int .i64 a0_3] 47 (0, 0))) := ⟨h0_⟩
                            have BK211 : Aside0 (w48.heap[gb211]? = some (.cells #[.int .i64 a1_0, .int .i64 a1_1, .int .i64 a1_2, .int .i64 a1_3] 47 (0, 0))) := ⟨h1_⟩
                            have BK212 : Aside0 (w48.heap[gb212]? = some (.cells #[.int .i64 0, .int .i64 0, .int .i64 0, .int .i64 0] 47 (0, 0))) := ⟨h2_⟩
                            have BK219 : Aside0 (w48.heap[gb219]? = some (.cells #[.int .i64 0, .int .i64 0] 25 (0, 0))) := ⟨h3_⟩
                            have GW219 : Aside0 (w.heap.size ≤ gb219) := ⟨h4_⟩
                            have GE219 : Aside0 (w.heap.size ≤ gb219) := ⟨h5_⟩
                            have NB210_219 : Aside0 (gb210 ≠ gb219) := ⟨h6_⟩
                            have NB219_210 : Aside0 (gb219 ≠ gb210) := ⟨h7_⟩
                            have NB211_219 : Aside0 (gb211 ≠ gb219) := ⟨h8_⟩
                            have NB219_211 : Aside0 (gb219 ≠ gb211) := ⟨h9_⟩
                            have NB212_219 : Aside0 (gb212 ≠ gb219) := ⟨h10_⟩
                            have NB219_212 : Aside0 (gb219 ≠ gb212) := ⟨h11_⟩
                            have HB : Aside0 (Below w.heap.size w w48) := ⟨h12_⟩
                            clear h0_ h1_ h2_ h3_ h4_ h5_ h6_ h7_ h8_ h9_ h10_ h11_ h12_
                            have hHeld : w48.cell? ⟨gb210, 0, none⟩ = some (.int .i64 a0_0) ∧ w48.cell? ⟨gb210, 1, none⟩ = some (.int .i64 a0_1) ∧ w48.cell? ⟨gb210, 2, none⟩ = some (.int .i64 a0_2) ∧ w48.cell? ⟨gb210, 3, none⟩ = some (.int .i64 a0_3) ∧ w48.cell? ⟨gb211, 0, none⟩ = some (.int .i64 a1_0) ∧ w48.cell? ⟨gb211, 1, none⟩ = some (.int .i64 a1_1) ∧ w48.cell? ⟨gb211, 2, none⟩ = some (.int .i64 a1_2) ∧ w48.cell? ⟨gb211, 3, none⟩ = some (.int .i64 a1_3) := hS_
                            refine norm_ (a' := ?_) ?_ ?_
                            rotate_left
                            · simp only [putAll, Act.put, List.setIfInBounds_toArray, List.set_cons_zero, List.set_cons_succ]
                              rfl
                            refine two_ (i := 3) (j := 5) (Ni := some 44) (Nj := some 8) (bm 8 31) (bm 8 55) rfl rfl rfl rfl (two_of HT_.out (by kernel_rfl)) (by decide) (by decide) (fun K hK => ?_) (fun K hK => ?_)
                            · skip
                              refine goes_ Try.func48 (by kernel_rfl) rfl #[.agg #[.int .i64 a1_0, .int .i64 a1_1, .int .i64 a1_2, .int .i64 a1_3]] (by rfl) rfl rfl (by (try simp only [List.map_toArray, List.map_cons, List.map_nil]); first | done | rfl | (simp only [List.length_drop, List.length_take]; rfl)) ?_
                              with_reducible refine (phalanxref03_Last.calls a1_0 a1_1 a1_2 a1_3 t217 t218 _ A43.out).mono ?_
                              rintro e w49 ⟨rfl, hb⟩
                              refine ⟨_, rfl, ?_⟩
                              replace BK210 := Aside0.mk (kb BK210 hb)
                              replace BK211 := Aside0.mk (kb BK211 hb)
                              replace BK212 := Aside0.mk (kb BK212 hb)
                              replace BK219 := Aside0.mk (kb BK219 hb)
                              replace HB := Aside0.mk (below_step (bw HB) hb)
                              (try clear hb)
                              (try clear hb2)
                              (try clear hk)
                              (try clear hi)
                              refine hK.out _ _ ⟨(blk_cell BK210.out 0).trans rfl, (blk_cell BK210.out 1).trans rfl, (blk_cell BK210.out 2).trans rfl, (blk_cell BK210.out 3).trans rfl, (blk_cell BK211.out 0).trans rfl, (blk_cell BK211.out 1).trans rfl, (blk_cell BK211.out 2).trans rfl, (blk_cell BK211.out 3).trans rfl⟩ (fun hHeld => ?_)
                              clear hK K
                              refine norm_ (a' := ?_) ?_ ?_
                              rotate_left
                              · show Act.put _ (some 44) _ = _
                                simp only [Act.put, List.setIfInBounds_toArray, List.set_cons_zero, List.set_cons_succ, i64_w, i32_w]
                                rfl
                              exact norm_ (by first | (simp only [putAll, Act.put, List.setIfInBounds_toArray, List.set_cons_zero, List.set_cons_succ]; done) | (simp only [putAll, Act.put, List.setIfInBounds_toArray, List.set_cons_zero, List.set_cons_succ]; rfl)) (hJ1_3_4 (gb219) _ ⟨hHeld, (kz BK210), (kz BK211), (kz BK212), (kz BK219), GW219.out, GE219.out, NB210_219.out, NB219_210.out, NB211_219.out, NB219_211.out, NB212_219.out, NB219_212.out, (bw HB)⟩)
                            · skip
                              refine box_step ?hg (N := 8) ?hd (cs := #[.int .i64 0, .int .i64 0]) (t := 25) ?hr ?_; (case hd => rfl); (case hg => rfl); (case hr => first | (go_simp; done) | (go_simp; rfl))
                              intro gb220 hg w49 hbox hb
                              have BK220 := Aside0.mk (hbox)
                              have GW220 := Aside0.mk ((bz HB _ hg : w.heap.size ≤ gb220))
                              have GE220 := Aside0.mk ((bz HB _ hg : w.heap.size ≤ gb220))
                              have NB210_220 := Aside0.mk ((nl BK210 hg : gb210 ≠ gb220))
                              have NB220_210 := Aside0.mk ((ng BK210 hg : gb220 ≠ gb210))
                              have NB211_220 := Aside0.mk ((nl BK211 hg : gb211 ≠ gb220))
                              have NB220_211 := Aside0.mk ((ng BK211 hg : gb220 ≠ gb211))
                              have NB212_220 := Aside0.mk ((nl BK212 hg : gb212 ≠ gb220))
                              have NB220_212 := Aside0.mk ((ng BK212 hg : gb220 ≠ gb212))
                              have NB219_220 := Aside0.mk ((nl BK219 hg : gb219 ≠ gb220))
                              have NB220_219 := Aside0.mk ((ng BK219 hg : gb220 ≠ gb219))
                              replace BK210 := Aside0.mk (kb BK210 hb)
                              replace BK211 := Aside0.mk (kb BK211 hb)
                              replace BK212 := Aside0.mk (kb BK212 hb)
                              replace BK219 := Aside0.mk (kb BK219 hb)
                              replace HB := Aside0.mk (below_step (bw HB) hb)
                              clear hb hbox hg
                              refine hK.out _ _ ⟨(blk_cell BK210.out 0).trans rfl, (blk_cell BK210.out 1).trans rfl, (blk_cell BK210.out 2).trans rfl, (blk_cell BK210.out 3).trans rfl, (blk_cell BK211.out 0).trans rfl, (blk_cell BK211.out 1).trans rfl, (blk_cell BK211.out 2).trans rfl, (blk_cell BK211.out 3).trans rfl⟩ (fun hHeld => ?_)
                              clear hK K
                              refine norm_ (a' := ?_) ?_ ?_
                              rotate_left
                              · show Act.put _ (some 8) _ = _
                                simp only [Act.put, List.setIfInBounds_toArray, List.set_cons_zero, List.set_cons_succ, i64_w, i32_w]
                                rfl
                              exact norm_ (by first | (simp only [putAll, Act.put, List.setIfInBounds_toArray, List.set_cons_zero, List.set_cons_succ]; done) | (simp only [putAll, Act.put, List.setIfInBounds_toArray, List.set_cons_zero, List.set_cons_succ]; rfl)) (hJ1_4_5 (gb219, gb220) _ ⟨hHeld, (kz BK210), (kz BK211), (kz BK212), (kz BK219), (kz BK220), GW219.out, GE219.out, NB210_219.out, NB219_210.out, NB211_219.out, NB219_211.out, NB212_219.out, NB219_212.out, NB220_219.out, NB219_220.out, GW220.out, GE220.out, NB210_220.out, NB220_210.out, NB211_220.out, NB220_211.out, NB212_220.out, NB220_212.out, (bw HB)⟩)
                        · skip
                          rintro _ w48 ⟨hS_, h0_, h1_, h2_, h3_⟩
                          clear BK210 BK211 BK212 HB
                          have BK210 : Aside0 (w48.heap[gb210]? = some (.cells #[.int .i64 a0_0, .int .i64 a0_1, .int .i64 a0_2, .int .i64 a0_3] 47 (0, 0))) := ⟨h0_⟩
                          have BK211 : Aside0 (w48.heap[gb211]? = some (.cells #[.int .i64 a1_0, .int .i64 a1_1, .int .i64 a1_2, .int .i64 a1_3] 47 (0, 0))) := ⟨h1_⟩
                          have BK212 : Aside0 (w48.heap[gb212]? = some (.cells #[.int .i64 0, .int .i64 0, .int .i64 0, .int .i64 0] 47 (0, 0))) := ⟨h2_⟩
                          have HB : Aside0 (Below w.heap.size w w48) := ⟨h3_⟩
                          clear h0_ h1_ h2_ h3_
                          have hHeld : w48.cell? ⟨gb210, 0, none⟩ = some (.int .i64 a0_0) ∧ w48.cell? ⟨gb210, 1, none⟩ = some (.int .i64 a0_1) ∧ w48.cell? ⟨gb210, 2, none⟩ = some (.int .i64 a0_2) ∧ w48.cell? ⟨gb210, 3, none⟩ = some (.int .i64 a0_3) ∧ w48.cell? ⟨gb211, 0, none⟩ = some (.int .i64 a1_0) ∧ w48.cell? ⟨gb211, 1, none⟩ = some (.int .i64 a1_1) ∧ w48.cell? ⟨gb211, 2, none⟩ = some (.int .i64 a1_2) ∧ w48.cell? ⟨gb211, 3, none⟩ = some (.int .i64 a1_3) := hS_
                          refine norm_ (a' := ?_) ?_ ?_
                          rotate_left
                          · simp only [putAll, Act.put, List.setIfInBounds_toArray, List.set_cons_zero, List.set_cons_succ]
                            rfl
                          refine two_ (i := 4) (j := 5) (Ni := some 7) (Nj := some 8) (bm 8 31) (bm 8 47) rfl rfl rfl rfl (two_of HT_.out (by kernel_rfl)) (by decide) (by decide) (fun K hK => ?_) (fun K hK => ?_)
                          · skip
                            refine box_step ?hg (N := 7) ?hd (cs := #[.int .i64 0, .int .i64 0]) (t := 25) ?hr ?_; (case hd => rfl); (case hg => rfl); (case hr => first | (go_simp; done) | (go_simp; rfl))
                            intro gb219 hg w49 hbox hb
                            have BK219 := Aside0.mk (hbox)
                            have GW219 := Aside0.mk ((bz HB _ hg : w.heap.size ≤ gb219))
                            have GE219 := Aside0.mk ((bz HB _ hg : w.heap.size ≤ gb219))
                            have NB210_219 := Aside0.mk ((nl BK210 hg : gb210 ≠ gb219))
                            have NB219_210 := Aside0.mk ((ng BK210 hg : gb219 ≠ gb210))
                            have NB211_219 := Aside0.mk ((nl BK211 hg : gb211 ≠ gb219))
                            have NB219_211 := Aside0.mk ((ng BK211 hg : gb219 ≠ gb211))
                            have NB212_219 := Aside0.mk ((nl BK212 hg : gb212 ≠ gb219))
                            have NB219_212 := Aside0.mk ((ng BK212 hg : gb219 ≠ gb212))
                            replace BK210 := Aside0.mk (kb BK210 hb)
                            replace BK211 := Aside0.mk (kb BK211 hb)
                            replace BK212 := Aside0.mk (kb BK212 hb)
                            replace HB := Aside0.mk (below_step (bw HB) hb)
                            clear hb hbox hg
                            refine hK.out _ _ ⟨(blk_cell BK210.out 0).trans rfl, (blk_cell BK210.out 1).trans rfl, (blk_cell BK210.out 2).trans rfl, (blk_cell BK210.out 3).trans rfl, (blk_cell BK211.out 0).trans rfl, (blk_cell BK211.out 1).trans rfl, (blk_cell BK211.out 2).trans rfl, (blk_cell BK211.out 3).trans rfl⟩ (fun hHeld => ?_)
                            clear hK K
                            refine norm_ (a' := ?_) ?_ ?_
                            rotate_left
                            · show Act.put _ (some 7) _ = _
                              simp only [Act.put, List.setIfInBounds_toArray, List.set_cons_zero, List.set_cons_succ, i64_w, i32_w]
                              rfl
                            exact norm_ (by first | (simp only [putAll, Act.put, List.setIfInBounds_toArray, List.set_cons_zero, List.set_cons_succ]; done) | (simp only [putAll, Act.put, List.setIfInBounds_toArray, List.set_cons_zero, List.set_cons_succ]; rfl)) (hJ1_3_4 (gb219) _ ⟨hHeld, (kz BK210), (kz BK211), (kz BK212), (kz BK219), GW219.out, GE219.out, NB210_219.out, NB219_210.out, NB211_219.out, NB219_211.out, NB212_219.out, NB219_212.out, (bw HB)⟩)
                          · skip
                            refine box_step ?hg (N := 8) ?hd (cs := #[.int .i64 0, .int .i64 0]) (t := 25) ?hr ?_; (case hd => rfl); (case hg => rfl); (case hr => first | (go_simp; done) | (go_simp; rfl))
                            intro gb220 hg w49 hbox hb
                            have BK220 := Aside0.mk (hbox)
                            have GW220 := Aside0.mk ((bz HB _ hg : w.heap.size ≤ gb220))
                            have GE220 := Aside0.mk ((bz HB _ hg : w.heap.size ≤ gb220))
                            have NB210_220 := Aside0.mk ((nl BK210 hg : gb210 ≠ gb220))
                            have NB220_210 := Aside0.mk ((ng BK210 hg : gb220 ≠ gb210))
                            have NB211_220 := Aside0.mk ((nl BK211 hg : gb211 ≠ gb220))
                            have NB220_211 := Aside0.mk ((ng BK211 hg : gb220 ≠ gb211))
                            have NB212_220 := Aside0.mk ((nl BK212 hg : gb212 ≠ gb220))
                            have NB220_212 := Aside0.mk ((ng BK212 hg : gb220 ≠ gb212))
                            replace BK210 := Aside0.mk (kb BK210 hb)
                            replace BK211 := Aside0.mk (kb BK211 hb)
                            replace BK212 := Aside0.mk (kb BK212 hb)
                            replace HB := Aside0.mk (below_step (bw HB) hb)
                            clear hb hbox hg
                            refine hK.out _ _ ⟨(blk_cell BK210.out 0).trans rfl, (blk_cell BK210.out 1).trans rfl, (blk_cell BK210.out 2).trans rfl, (blk_cell BK210.out 3).trans rfl, (blk_cell BK211.out 0).trans rfl, (blk_cell BK211.out 1).trans rfl, (blk_cell BK211.out 2).trans rfl, (blk_cell BK211.out 3).trans rfl⟩ (fun hHeld => ?_)
                            clear hK K
                            refine norm_ (a' := ?_) ?_ ?_
                            rotate_left
                            · show Act.put _ (some 8) _ = _
                              simp only [Act.put, List.setIfInBounds_toArray, List.set_cons_zero, List.set_cons_succ, i64_w, i32_w]
                              rfl
                            exact norm_ (by first | (simp only [putAll, Act.put, List.setIfInBounds_toArray, List.set_cons_zero, List.set_cons_succ]; done) | (simp only [putAll, Act.put, List.setIfInBounds_toArray, List.set_cons_zero, List.set_cons_succ]; rfl)) (hJ1_3_5 (gb220) _ ⟨hHeld, (kz BK210), (kz BK211), (kz BK212), (kz BK220), GW220.out, GE220.out, NB210_220.out, NB220_210.out, NB211_220.out, NB220_211.out, NB212_220.out, NB220_212.out, (bw HB)⟩)
                      · skip
                        rintro ⟨gb219, gb220⟩ w49 ⟨hS_, h0_, h1_, h2_, h3_, h4_, h5_, h6_, h7_, h8_, h9_, h10_, h11_, h12_, h13_, h14_, h15_, h16_, h17_, h18_, h19_, h20_, h21_, h22_, h23_⟩
                        clear BK210 BK211 BK212 HB
                        have BK210 : Aside0 (w49.heap[gb210]? = some (.cells #[.int .i64 a0_0, .int .i64 a0_1, .int .i64 a0_2, .int .i64 a0_3] 47 (0, 0))) := ⟨h0_⟩
                        have BK211 : Aside0 (w49.heap[gb211]? = some (.cells #[.int .i64 a1_0, .int .i64 a1_1, .int .i64 a1_2, .int .i64 a1_3] 47 (0, 0))) := ⟨h1_⟩
                        have BK212 : Aside0 (w49.heap[gb212]? = some (.cells #[.int .i64 0, .int .i64 0, .int .i64 0, .int .i64 0] 47 (0, 0))) := ⟨h2_⟩
                        have BK219 : Aside0 (w49.heap[gb219]? = some (.cells #[.int .i64 0, .int .i64 0] 25 (0, 0))) := ⟨h3_⟩
                        have BK220 : Aside0 (w49.heap[gb220]? = some (.cells #[.int .i64 0, .int .i64 0] 25 (0, 0))) := ⟨h4_⟩
                        have GW219 : Aside0 (w.heap.size ≤ gb219) := ⟨h5_⟩
                        have GE219 : Aside0 (w.heap.size ≤ gb219) := ⟨h6_⟩
                        have NB210_219 : Aside0 (gb210 ≠ gb219) := ⟨h7_⟩
                        have NB219_210 : Aside0 (gb219 ≠ gb210) := ⟨h8_⟩
                        have NB211_219 : Aside0 (gb211 ≠ gb219) := ⟨h9_⟩
                        have NB219_211 : Aside0 (gb219 ≠ gb211) := ⟨h10_⟩
                        have NB212_219 : Aside0 (gb212 ≠ gb219) := ⟨h11_⟩
                        have NB219_212 : Aside0 (gb219 ≠ gb212) := ⟨h12_⟩
                        have NB220_219 : Aside0 (gb220 ≠ gb219) := ⟨h13_⟩
                        have NB219_220 : Aside0 (gb219 ≠ gb220) := ⟨h14_⟩
                        have GW220 : Aside0 (w.heap.size ≤ gb220) := ⟨h15_⟩
                        have GE220 : Aside0 (w.heap.size ≤ gb220) := ⟨h16_⟩
                        have NB210_220 : Aside0 (gb210 ≠ gb220) := ⟨h17_⟩
                        have NB220_210 : Aside0 (gb220 ≠ gb210) := ⟨h18_⟩
                        have NB211_220 : Aside0 (gb211 ≠ gb220) := ⟨h19_⟩
                        have NB220_211 : Aside0 (gb220 ≠ gb211) := ⟨h20_⟩
                        have NB212_220 : Aside0 (gb212 ≠ gb220) := ⟨h21_⟩
                        have NB220_212 : Aside0 (gb220 ≠ gb212) := ⟨h22_⟩
                        have HB : Aside0 (Below w.heap.size w w49) := ⟨h23_⟩
                        clear h0_ h1_ h2_ h3_ h4_ h5_ h6_ h7_ h8_ h9_ h10_ h11_ h12_ h13_ h14_ h15_ h16_ h17_ h18_ h19_ h20_ h21_ h22_ h23_
                        have hHeld : w49.cell? ⟨gb210, 0, none⟩ = some (.int .i64 a0_0) ∧ w49.cell? ⟨gb210, 1, none⟩ = some (.int .i64 a0_1) ∧ w49.cell? ⟨gb210, 2, none⟩ = some (.int .i64 a0_2) ∧ w49.cell? ⟨gb210, 3, none⟩ = some (.int .i64 a0_3) ∧ w49.cell? ⟨gb211, 0, none⟩ = some (.int .i64 a1_0) ∧ w49.cell? ⟨gb211, 1, none⟩ = some (.int .i64 a1_1) ∧ w49.cell? ⟨gb211, 2, none⟩ = some (.int .i64 a1_2) ∧ w49.cell? ⟨gb211, 3, none⟩ = some (.int .i64 a1_3) := hS_
                        refine norm_ (a' := ?_) ?_ ?_
                        rotate_left
                        · simp only [putAll, Act.put, List.setIfInBounds_toArray, List.set_cons_zero, List.set_cons_succ]
                          rfl
                        refine one_ (i := 3) (N := some 44) (bm 8 63) rfl rfl (one_of HT_.out (by kernel_rfl)) (by decide) (fun K hK => ?_)
                        refine goes_ Try.func48 (by kernel_rfl) rfl #[.agg #[.int .i64 a1_0, .int .i64 a1_1, .int .i64 a1_2, .int .i64 a1_3]] (by rfl) rfl rfl (by (try simp only [List.map_toArray, List.map_cons, List.map_nil]); first | done | rfl | (simp only [List.length_drop, List.length_take]; rfl)) ?_
                        with_reducible refine (phalanxref03_Last.calls a1_0 a1_1 a1_2 a1_3 t217 t218 _ A43.out).mono ?_
                        rintro e w50 ⟨rfl, hb⟩
                        refine ⟨_, rfl, ?_⟩
                        replace BK210 := Aside0.mk (kb BK210 hb)
                        replace BK211 := Aside0.mk (kb BK211 hb)
                        replace BK212 := Aside0.mk (kb BK212 hb)
                        replace BK219 := Aside0.mk (kb BK219 hb)
                        replace BK220 := Aside0.mk (kb BK220 hb)
                        replace HB := Aside0.mk (below_step (bw HB) hb)
                        (try clear hb)
                        (try clear hb2)
                        (try clear hk)
                        (try clear hi)
                        refine hK.out _ _ ⟨(blk_cell BK210.out 0).trans rfl, (blk_cell BK210.out 1).trans rfl, (blk_cell BK210.out 2).trans rfl, (blk_cell BK210.out 3).trans rfl, (blk_cell BK211.out 0).trans rfl, (blk_cell BK211.out 1).trans rfl, (blk_cell BK211.out 2).trans rfl, (blk_cell BK211.out 3).trans rfl⟩ (fun hHeld => ?_)
                        clear hK K
                        refine norm_ (a' := ?_) ?_ ?_
                        rotate_left
                        · show Act.put _ (some 44) _ = _
                          simp only [Act.put, List.setIfInBounds_toArray, List.set_cons_zero, List.set_cons_succ, i64_w, i32_w]
                          rfl
                        exact norm_ (by first | (simp only [putAll, Act.put, List.setIfInBounds_toArray, List.set_cons_zero, List.set_cons_succ]; done) | (simp only [putAll, Act.put, List.setIfInBounds_toArray, List.set_cons_zero, List.set_cons_succ]; rfl)) (hJ1_3_4_5 (gb219, gb220) _ ⟨hHeld, (kz BK210), (kz BK211), (kz BK212), (kz BK219), (kz BK220), GW219.out, GE219.out, NB210_219.out, NB219_210.out, NB211_219.out, NB219_211.out, NB212_219.out, NB219_212.out, NB220_219.out, NB219_220.out, GW220.out, GE220.out, NB210_220.out, NB220_210.out, NB211_220.out, NB220_211.out, NB212_220.out, NB220_212.out, (bw HB)⟩)
                    · skip
                      rintro gb220 w49 ⟨hS_, h0_, h1_, h2_, h3_, h4_, h5_, h6_, h7_, h8_, h9_, h10_, h11_, h12_⟩
                      clear BK210 BK211 BK212 HB
                      have BK210 : Aside0 (w49.heap[gb210]? = some (.cells #[.int .i64 a0_0, .int .i64 a0_1, .int .i64 a0_2, .int .i64 a0_3] 47 (0, 0))) := ⟨h0_⟩
                      have BK211 : Aside0 (w49.heap[gb211]? = some (.cells #[.int .i64 a1_0, .int .i64 a1_1, .int .i64 a1_2, .int .i64 a1_3] 47 (0, 0))) := ⟨h1_⟩
                      have BK212 : Aside0 (w49.heap[gb212]? = some (.cells #[.int .i64 0, .int .i64 0, .int .i64 0, .int .i64 0] 47 (0, 0))) := ⟨h2_⟩
                      have BK220 : Aside0 (w49.heap[gb220]? = some (.cells #[.int .i64 0, .int .i64 0] 25 (0, 0))) := ⟨h3_⟩
                      have GW220 : Aside0 (w.heap.size ≤ gb220) := ⟨h4_⟩
                      have GE220 : Aside0 (w.heap.size ≤ gb220) := ⟨h5_⟩
                      have NB210_220 : Aside0 (gb210 ≠ gb220) := ⟨h6_⟩
                      have NB220_210 : Aside0 (gb220 ≠ gb210) := ⟨h7_⟩
                      have NB211_220 : Aside0 (gb211 ≠ gb220) := ⟨h8_⟩
                      have NB220_211 : Aside0 (gb220 ≠ gb211) := ⟨h9_⟩
                      have NB212_220 : Aside0 (gb212 ≠ gb220) := ⟨h10_⟩
                      have NB220_212 : Aside0 (gb220 ≠ gb212) := ⟨h11_⟩
                      have HB : Aside0 (Below w.heap.size w w49) := ⟨h12_⟩
                      clear h0_ h1_ h2_ h3_ h4_ h5_ h6_ h7_ h8_ h9_ h10_ h11_ h12_
                      have hHeld : w49.cell? ⟨gb210, 0, none⟩ = some (.int .i64 a0_0) ∧ w49.cell? ⟨gb210, 1, none⟩ = some (.int .i64 a0_1) ∧ w49.cell? ⟨gb210, 2, none⟩ = some (.int .i64 a0_2) ∧ w49.cell? ⟨gb210, 3, none⟩ = some (.int .i64 a0_3) ∧ w49.cell? ⟨gb211, 0, none⟩ = some (.int .i64 a1_0) ∧ w49.cell? ⟨gb211, 1, none⟩ = some (.int .i64 a1_1) ∧ w49.cell? ⟨gb211, 2, none⟩ = some (.int .i64 a1_2) ∧ w49.cell? ⟨gb211, 3, none⟩ = some (.int .i64 a1_3) := hS_
                      refine norm_ (a' := ?_) ?_ ?_
                      rotate_left
                      · simp only [putAll, Act.put, List.setIfInBounds_toArray, List.set_cons_zero, List.set_cons_succ]
                        rfl
                      refine one_ (i := 4) (N := some 7) (bm 8 63) rfl rfl (one_of HT_.out (by kernel_rfl)) (by decide) (fun K hK => ?_)
                      refine box_step ?hg (N := 7) ?hd (cs := #[.int .i64 0, .int .i64 0]) (t := 25) ?hr ?_; (case hd => rfl); (case hg => rfl); (case hr => first | (go_simp; done) | (go_simp; rfl))
                      intro gb219 hg w50 hbox hb
                      have BK219 := Aside0.mk (hbox)
                      have GW219 := Aside0.mk ((bz HB _ hg : w.heap.size ≤ gb219))
                      have GE219 := Aside0.mk ((bz HB _ hg : w.heap.size ≤ gb219))
                      have NB210_219 := Aside0.mk ((nl BK210 hg : gb210 ≠ gb219))
                      have NB219_210 := Aside0.mk ((ng BK210 hg : gb219 ≠ gb210))
                      have NB211_219 := Aside0.mk ((nl BK211 hg : gb211 ≠ gb219))
                      have NB219_211 := Aside0.mk ((ng BK211 hg : gb219 ≠ gb211))
                      have NB212_219 := Aside0.mk ((nl BK212 hg : gb212 ≠ gb219))
                      have NB219_212 := Aside0.mk ((ng BK212 hg : gb219 ≠ gb212))
                      have NB220_219 := Aside0.mk ((nl BK220 hg : gb220 ≠ gb219))
                      have NB219_220 := Aside0.mk ((ng BK220 hg : gb219 ≠ gb220))
                      replace BK210 := Aside0.mk (kb BK210 hb)
                      replace BK211 := Aside0.mk (kb BK211 hb)
                      replace BK212 := Aside0.mk (kb BK212 hb)
                      replace BK220 := Aside0.mk (kb BK220 hb)
                      replace HB := Aside0.mk (below_step (bw HB) hb)
                      clear hb hbox hg
                      refine hK.out _ _ ⟨(blk_cell BK210.out 0).trans rfl, (blk_cell BK210.out 1).trans rfl, (blk_cell BK210.out 2).trans rfl, (blk_cell BK210.out 3).trans rfl, (blk_cell BK211.out 0).trans rfl, (blk_cell BK211.out 1).trans rfl, (blk_cell BK211.out 2).trans rfl, (blk_cell BK211.out 3).trans rfl⟩ (fun hHeld => ?_)
                      clear hK K
                      refine norm_ (a' := ?_) ?_ ?_
                      rotate_left
                      · show Act.put _ (some 7) _ = _
                        simp only [Act.put, List.setIfInBounds_toArray, List.set_cons_zero, List.set_cons_succ, i64_w, i32_w]
                        rfl
                      exact norm_ (by first | (simp only [putAll, Act.put, List.setIfInBounds_toArray, List.set_cons_zero, List.set_cons_succ]; done) | (simp only [putAll, Act.put, List.setIfInBounds_toArray, List.set_cons_zero, List.set_cons_succ]; rfl)) (hJ1_3_4_5 (gb219, gb220) _ ⟨hHeld, (kz BK210), (kz BK211), (kz BK212), (kz BK219), (kz BK220), GW219.out, GE219.out, NB210_219.out, NB219_210.out, NB211_219.out, NB219_211.out, NB212_219.out, NB219_212.out, NB220_219.out, NB219_220.out, GW220.out, GE220.out, NB210_220.out, NB220_210.out, NB211_220.out, NB220_211.out, NB212_220.out, NB220_212.out, (bw HB)⟩)
                  · skip
                    rintro gb219 w49 ⟨hS_, h0_, h1_, h2_, h3_, h4_, h5_, h6_, h7_, h8_, h9_, h10_, h11_, h12_⟩
                    clear BK210 BK211 BK212 HB
                    have BK210 : Aside0 (w49.heap[gb210]? = some (.cells #[.int .i64 a0_0, .int .i64 a0_1, .int .i64 a0_2, .int .i64 a0_3] 47 (0, 0))) := ⟨h0_⟩
                    have BK211 : Aside0 (w49.heap[gb211]? = some (.cells #[.int .i64 a1_0, .int .i64 a1_1, .int .i64 a1_2, .int .i64 a1_3] 47 (0, 0))) := ⟨h1_⟩
                    have BK212 : Aside0 (w49.heap[gb212]? = some (.cells #[.int .i64 0, .int .i64 0, .int .i64 0, .int .i64 0] 47 (0, 0))) := ⟨h2_⟩
                    have BK219 : Aside0 (w49.heap[gb219]? = some (.cells #[.int .i64 0, .int .i64 0] 25 (0, 0))) := ⟨h3_⟩
                    have GW219 : Aside0 (w.heap.size ≤ gb219) := ⟨h4_⟩
                    have GE219 : Aside0 (w.heap.size ≤ gb219) := ⟨h5_⟩
                    have NB210_219 : Aside0 (gb210 ≠ gb219) := ⟨h6_⟩
                    have NB219_210 : Aside0 (gb219 ≠ gb210) := ⟨h7_⟩
                    have NB211_219 : Aside0 (gb211 ≠ gb219) := ⟨h8_⟩
                    have NB219_211 : Aside0 (gb219 ≠ gb211) := ⟨h9_⟩
                    have NB212_219 : Aside0 (gb212 ≠ gb219) := ⟨h10_⟩
                    have NB219_212 : Aside0 (gb219 ≠ gb212) := ⟨h11_⟩
                    have HB : Aside0 (Below w.heap.size w w49) := ⟨h12_⟩
                    clear h0_ h1_ h2_ h3_ h4_ h5_ h6_ h7_ h8_ h9_ h10_ h11_ h12_
                    have hHeld : w49.cell? ⟨gb210, 0, none⟩ = some (.int .i64 a0_0) ∧ w49.cell? ⟨gb210, 1, none⟩ = some (.int .i64 a0_1) ∧ w49.cell? ⟨gb210, 2, none⟩ = some (.int .i64 a0_2) ∧ w49.cell? ⟨gb210, 3, none⟩ = some (.int .i64 a0_3) ∧ w49.cell? ⟨gb211, 0, none⟩ = some (.int .i64 a1_0) ∧ w49.cell? ⟨gb211, 1, none⟩ = some (.int .i64 a1_1) ∧ w49.cell? ⟨gb211, 2, none⟩ = some (.int .i64 a1_2) ∧ w49.cell? ⟨gb211, 3, none⟩ = some (.int .i64 a1_3) := hS_
                    refine norm_ (a' := ?_) ?_ ?_
                    rotate_left
                    · simp only [putAll, Act.put, List.setIfInBounds_toArray, List.set_cons_zero, List.set_cons_succ]
                      rfl
                    refine one_ (i := 5) (N := some 8) (bm 8 63) rfl rfl (one_of HT_.out (by kernel_rfl)) (by decide) (fun K hK => ?_)
                    refine box_step ?hg (N := 8) ?hd (cs := #[.int .i64 0, .int .i64 0]) (t := 25) ?hr ?_; (case hd => rfl); (case hg => rfl); (case hr => first | (go_simp; done) | (go_simp; rfl))
                    intro gb220 hg w50 hbox hb
                    have BK220 := Aside0.mk (hbox)
                    have GW220 := Aside0.mk ((bz HB _ hg : w.heap.size ≤ gb220))
                    have GE220 := Aside0.mk ((bz HB _ hg : w.heap.size ≤ gb220))
                    have NB210_220 := Aside0.mk ((nl BK210 hg : gb210 ≠ gb220))
                    have NB220_210 := Aside0.mk ((ng BK210 hg : gb220 ≠ gb210))
                    have NB211_220 := Aside0.mk ((nl BK211 hg : gb211 ≠ gb220))
                    have NB220_211 := Aside0.mk ((ng BK211 hg : gb220 ≠ gb211))
                    have NB212_220 := Aside0.mk ((nl BK212 hg : gb212 ≠ gb220))
                    have NB220_212 := Aside0.mk ((ng BK212 hg : gb220 ≠ gb212))
                    have NB219_220 := Aside0.mk ((nl BK219 hg : gb219 ≠ gb220))
                    have NB220_219 := Aside0.mk ((ng BK219 hg : gb220 ≠ gb219))
                    replace BK210 := Aside0.mk (kb BK210 hb)
                    replace BK211 := Aside0.mk (kb BK211 hb)
                    replace BK212 := Aside0.mk (kb BK212 hb)
                    replace BK219 := Aside0.mk (kb BK219 hb)
                    replace HB := Aside0.mk (below_step (bw HB) hb)
                    clear hb hbox hg
                    refine hK.out _ _ ⟨(blk_cell BK210.out 0).trans rfl, (blk_cell BK210.out 1).trans rfl, (blk_cell BK210.out 2).trans rfl, (blk_cell BK210.out 3).trans rfl, (blk_cell BK211.out 0).trans rfl, (blk_cell BK211.out 1).trans rfl, (blk_cell BK211.out 2).trans rfl, (blk_cell BK211.out 3).trans rfl⟩ (fun hHeld => ?_)
                    clear hK K
                    refine norm_ (a' := ?_) ?_ ?_
                    rotate_left
                    · show Act.put _ (some 8) _ = _
                      simp only [Act.put, List.setIfInBounds_toArray, List.set_cons_zero, List.set_cons_succ, i64_w, i32_w]
                      rfl
                    exact norm_ (by first | (simp only [putAll, Act.put, List.setIfInBounds_toArray, List.set_cons_zero, List.set_cons_succ]; done) | (simp only [putAll, Act.put, List.setIfInBounds_toArray, List.set_cons_zero, List.set_cons_succ]; rfl)) (hJ1_3_4_5 (gb219, gb220) _ ⟨hHeld, (kz BK210), (kz BK211), (kz BK212), (kz BK219), (kz BK220), GW219.out, GE219.out, NB210_219.out, NB219_210.out, NB211_219.out, NB219_211.out, NB212_219.out, NB219_212.out, NB220_219.out, NB219_220.out, GW220.out, GE220.out, NB210_220.out, NB220_210.out, NB211_220.out, NB220_211.out, NB212_220.out, NB220_212.out, (bw HB)⟩)
                rintro ⟨gb219, gb220⟩ w50 ⟨hS_, h0_, h1_, h2_, h3_, h4_, h5_, h6_, h7_, h8_, h9_, h10_, h11_, h12_, h13_, h14_, h15_, h16_, h17_, h18_, h19_, h20_, h21_, h22_, h23_⟩
                clear BK210 BK211 BK212 HB
                have BK210 : Aside0 (w50.heap[gb210]? = some (.cells #[.int .i64 a0_0, .int .i64 a0_1, .int .i64 a0_2, .int .i64 a0_3] 47 (0, 0))) := ⟨h0_⟩
                have BK211 : Aside0 (w50.heap[gb211]? = some (.cells #[.int .i64 a1_0, .int .i64 a1_1, .int .i64 a1_2, .int .i64 a1_3] 47 (0, 0))) := ⟨h1_⟩
                have BK212 : Aside0 (w50.heap[gb212]? = some (.cells #[.int .i64 0, .int .i64 0, .int .i64 0, .int .i64 0] 47 (0, 0))) := ⟨h2_⟩
                have BK219 : Aside0 (w50.heap[gb219]? = some (.cells #[.int .i64 0, .int .i64 0] 25 (0, 0))) := ⟨h3_⟩
                have BK220 : Aside0 (w50.heap[gb220]? = some (.cells #[.int .i64 0, .int .i64 0] 25 (0, 0))) := ⟨h4_⟩
                have GW219 : Aside0 (w.heap.size ≤ gb219) := ⟨h5_⟩
                have GE219 : Aside0 (w.heap.size ≤ gb219) := ⟨h6_⟩
                have NB210_219 : Aside0 (gb210 ≠ gb219) := ⟨h7_⟩
                have NB219_210 : Aside0 (gb219 ≠ gb210) := ⟨h8_⟩
                have NB211_219 : Aside0 (gb211 ≠ gb219) := ⟨h9_⟩
                have NB219_211 : Aside0 (gb219 ≠ gb211) := ⟨h10_⟩
                have NB212_219 : Aside0 (gb212 ≠ gb219) := ⟨h11_⟩
                have NB219_212 : Aside0 (gb219 ≠ gb212) := ⟨h12_⟩
                have NB220_219 : Aside0 (gb220 ≠ gb219) := ⟨h13_⟩
                have NB219_220 : Aside0 (gb219 ≠ gb220) := ⟨h14_⟩
                have GW220 : Aside0 (w.heap.size ≤ gb220) := ⟨h15_⟩
                have GE220 : Aside0 (w.heap.size ≤ gb220) := ⟨h16_⟩
                have NB210_220 : Aside0 (gb210 ≠ gb220) := ⟨h17_⟩
                have NB220_210 : Aside0 (gb220 ≠ gb210) := ⟨h18_⟩
                have NB211_220 : Aside0 (gb211 ≠ gb220) := ⟨h19_⟩
                have NB220_211 : Aside0 (gb220 ≠ gb211) := ⟨h20_⟩
                have NB212_220 : Aside0 (gb212 ≠ gb220) := ⟨h21_⟩
                have NB220_212 : Aside0 (gb220 ≠ gb212) := ⟨h22_⟩
                have HB : Aside0 (Below w.heap.size w w50) := ⟨h23_⟩
                clear h0_ h1_ h2_ h3_ h4_ h5_ h6_ h7_ h8_ h9_ h10_ h11_ h12_ h13_ h14_ h15_ h16_ h17_ h18_ h19_ h20_ h21_ h22_ h23_
                have hHeld : w50.cell? ⟨gb210, 0, none⟩ = some (.int .i64 a0_0) ∧ w50.cell? ⟨gb210, 1, none⟩ = some (.int .i64 a0_1) ∧ w50.cell? ⟨gb210, 2, none⟩ = some (.int .i64 a0_2) ∧ w50.cell? ⟨gb210, 3, none⟩ = some (.int .i64 a0_3) ∧ w50.cell? ⟨gb211, 0, none⟩ = some (.int .i64 a1_0) ∧ w50.cell? ⟨gb211, 1, none⟩ = some (.int .i64 a1_1) ∧ w50.cell? ⟨gb211, 2, none⟩ = some (.int .i64 a1_2) ∧ w50.cell? ⟨gb211, 3, none⟩ = some (.int .i64 a1_3) := hS_
                refine norm_ (a' := ?_) ?_ ?_
                rotate_left
                · simp only [putAll, Act.put, List.setIfInBounds_toArray, List.set_cons_zero, List.set_cons_succ]
                  rfl
                refine one_ (i := 6) (N := none) (bm 8 127) rfl rfl (one_of HT_.out (by kernel_rfl)) (by decide) (fun K hK => ?_)
                have hs51 : w50.cell? ⟨gb219, 0, none⟩ = some (.int .i64 0) := (blk_cell BK219.out 0).trans rfl
                have hfs51 := blk_frozen BK219.out 0
                have hns51_0 := NB210_219.out
                have hns51_1 := NB211_219.out
                have hns51_2 := NB212_219.out
                have hns51_4 := NB220_219.out
                have hms51_0 := NB219_210.out
                have hms51_1 := NB219_211.out
                have hms51_2 := NB219_212.out
                have hms51_4 := NB219_220.out
                have hs52 : w50.cell? ⟨gb219, 1, none⟩ = some (.int .i64 0) := (blk_cell BK219.out 1).trans rfl
                have hfs52 := blk_frozen BK219.out 1
                have hns52_0 := NB210_219.out
                have hns52_1 := NB211_219.out
                have hns52_2 := NB212_219.out
                have hns52_4 := NB220_219.out
                have hms52_0 := NB219_210.out
                have hms52_1 := NB219_211.out
                have hms52_2 := NB219_212.out
                have hms52_4 := NB219_220.out
                refine skip_ (w1 := ?_) (by rfl) rfl ?_ ?_
                rotate_left
                · go_simp
                  rfl
                refine hK.out _ _ ⟨((cell_far (p := ⟨gb219, _, none⟩) NB210_219.out _).trans (((cell_far (p := ⟨gb219, _, none⟩) NB210_219.out _).trans (hHeld.1)))), ((cell_far (p := ⟨gb219, _, none⟩) NB210_219.out _).trans (((cell_far (p := ⟨gb219, _, none⟩) NB210_219.out _).trans (hHeld.2.1)))), ((cell_far (p := ⟨gb219, _, none⟩) NB210_219.out _).trans (((cell_far (p := ⟨gb219, _, none⟩) NB210_219.out _).trans (hHeld.2.2.1)))), ((cell_far (p := ⟨gb219, _, none⟩) NB210_219.out _).trans (((cell_far (p := ⟨gb219, _, none⟩) NB210_219.out _).trans (hHeld.2.2.2.1)))), ((cell_far (p := ⟨gb219, _, none⟩) NB211_219.out _).trans (((cell_far (p := ⟨gb219, _, none⟩) NB211_219.out _).trans (hHeld.2.2.2.2.1)))), ((cell_far (p := ⟨gb219, _, none⟩) NB211_219.out _).trans (((cell_far (p := ⟨gb219, _, none⟩) NB211_219.out _).trans (hHeld.2.2.2.2.2.1)))), ((cell_far (p := ⟨gb219, _, none⟩) NB211_219.out _).trans (((cell_far (p := ⟨gb219, _, none⟩) NB211_219.out _).trans (hHeld.2.2.2.2.2.2.1)))), ((cell_far (p := ⟨gb219, _, none⟩) NB211_219.out _).trans (((cell_far (p := ⟨gb219, _, none⟩) NB211_219.out _).trans (hHeld.2.2.2.2.2.2.2))))⟩ (fun hHeld => ?_)
                clear hK K
                refine one_ (i := 7) (N := none) (bm 8 255) rfl rfl (one_of HT_.out (by kernel_rfl)) (by decide) (fun K hK => ?_)
                have hs53 : w50.cell? ⟨gb220, 0, none⟩ = some (.int .i64 0) := (blk_cell BK220.out 0).trans rfl
                have hfs53 := blk_frozen BK220.out 0
                have hns53_0 := NB210_220.out
                have hns53_1 := NB211_220.out
                have hns53_2 := NB212_220.out
                have hns53_3 := NB219_220.out
                have hms53_0 := NB220_210.out
                have hms53_1 := NB220_211.out
                have hms53_2 := NB220_212.out
                have hms53_3 := NB220_219.out
                have hs54 : w50.cell? ⟨gb220, 1, none⟩ = some (.int .i64 0) := (blk_cell BK220.out 1).trans rfl
                have hfs54 := blk_frozen BK220.out 1
                have hns54_0 := NB210_220.out
                have hns54_1 := NB211_220.out
                have hns54_2 := NB212_220.out
                have hns54_3 := NB219_220.out
                have hms54_0 := NB220_210.out
                have hms54_1 := NB220_211.out
                have hms54_2 := NB220_212.out
                have hms54_3 := NB220_219.out
                refine skip_ (w1 := ?_) (by rfl) rfl ?_ ?_
                rotate_left
                · go_simp
                  rfl
                refine hK.out _ _ ⟨((cell_far (p := ⟨gb220, _, none⟩) NB210_220.out _).trans (((cell_far (p := ⟨gb220, _, none⟩) NB210_220.out _).trans (hHeld.1)))), ((cell_far (p := ⟨gb220, _, none⟩) NB210_220.out _).trans (((cell_far (p := ⟨gb220, _, none⟩) NB210_220.out _).trans (hHeld.2.1)))), ((cell_far (p := ⟨gb220, _, none⟩) NB210_220.out _).trans (((cell_far (p := ⟨gb220, _, none⟩) NB210_220.out _).trans (hHeld.2.2.1)))), ((cell_far (p := ⟨gb220, _, none⟩) NB210_220.out _).trans (((cell_far (p := ⟨gb220, _, none⟩) NB210_220.out _).trans (hHeld.2.2.2.1)))), ((cell_far (p := ⟨gb220, _, none⟩) NB211_220.out _).trans (((cell_far (p := ⟨gb220, _, none⟩) NB211_220.out _).trans (hHeld.2.2.2.2.1)))), ((cell_far (p := ⟨gb220, _, none⟩) NB211_220.out _).trans (((cell_far (p := ⟨gb220, _, none⟩) NB211_220.out _).trans (hHeld.2.2.2.2.2.1)))), ((cell_far (p := ⟨gb220, _, none⟩) NB211_220.out _).trans (((cell_far (p := ⟨gb220, _, none⟩) NB211_220.out _).trans (hHeld.2.2.2.2.2.2.1)))), ((cell_far (p := ⟨gb220, _, none⟩) NB211_220.out _).trans (((cell_far (p := ⟨gb220, _, none⟩) NB211_220.out _).trans (hHeld.2.2.2.2.2.2.2))))⟩ (fun hHeld => ?_)
                clear hK K
                refine done_ (done_of HT_.out (by kernel_rfl)) ?_
                have hnb55 := NB220_210.out
                have hnc55 := NB210_220.out
                have hnb56 := NB220_211.out
                have hnc56 := NB211_220.out
                have hnb57 := NB220_212.out
                have hnc57 := NB212_220.out
                have hnb58 := NB220_219.out
                have hnc58 := NB219_220.out
                obtain ⟨hcz59_0, hcz59_1, hfz59_0, hfz59_1⟩ := cz2 BK220
                have hnb60 := NB219_210.out
                have hnc60 := NB210_219.out
                have hnb61 := NB219_211.out
                have hnc61 := NB211_219.out
                have hnb62 := NB219_212.out
                have hnc62 := NB212_219.out
                obtain ⟨hcz63_0, hcz63_1, hfz63_0, hfz63_1⟩ := cz2 BK219
                go_upto_if 49 with (fail)
                go_cut [] (fun wc => ∃ (kq : Nat) (x220000_43 : Int), Aside0 (phalanxref03_Hull.j3 kq x5_24 x6_33 x220000_43 t216 t217 t218 = some (r1, r2, r3, r4)) ∧ Aside0 (kq ≤ kj33) ∧ Aside0 (wc.heap[gb210]? = some (.cells #[.int .i64 a0_0, .int .i64 a0_1, .int .i64 a0_2, .int .i64 a0_3] 47 (0, 0))) ∧ Aside0 (wc.heap[gb211]? = some (.cells #[.int .i64 a1_0, .int .i64 a1_1, .int .i64 a1_2, .int .i64 a1_3] 47 (0, 0))) ∧ Aside0 (wc.heap[gb212]? = some (.cells #[.int .i64 0, .int .i64 0, .int .i64 0, .int .i64 0] 47 (0, 0))) ∧ Aside0 (wc.heap[gb219]? = some (.cells #[.int .i64 x220000_43, .int .i64 t216] 25 (0, 0))) ∧ Aside0 (wc.heap[gb220]? = some (.cells #[.int .i64 t217, .int .i64 t218] 25 (0, 0))) ∧ Aside0 (Below w.heap.size w wc))
                case first =>
                  have H := HC44.out
                  clear HC44
                  by_cases c64 : t217 > t215
                  · rw [if_pos c64] at H
                    have c64b0 : decide (t215 < t217) = true := decide_eq_true c64
                    clear c64
                    (first | rw [c64b0] | (simp only [i64_w, i32_w]; rw [c64b0]) | rw [c64b1] | skip)
                    have H' := Aside0.mk H
                    clear H
                    have hnb65 := NB220_210.out
                    have hnc65 := NB210_220.out
                    have hnb66 := NB220_211.out
                    have hnc66 := NB211_220.out
                    have hnb67 := NB220_212.out
                    have hnc67 := NB212_220.out
                    have hnb68 := NB220_219.out
                    have hnc68 := NB219_220.out
                    obtain ⟨hcz69_0, hcz69_1, hfz69_0, hfz69_1⟩ := cz2 BK220
                    have hnb70 := NB219_210.out
                    have hnc70 := NB210_219.out
                    have hnb71 := NB219_211.out
                    have hnc71 := NB211_219.out
                    have hnb72 := NB219_212.out
                    have hnc72 := NB212_219.out
                    obtain ⟨hcz73_0, hcz73_1, hfz73_0, hfz73_1⟩ := cz2 BK219
                    go_wp2
                    go_meet
                    case rel => exact ⟨_, (t217), H', ⟨by have := HJ2.out; have := HJ24.out; have := HJ33.out; first | omega | exact Nat.le_refl _⟩, ⟨by (with_reducible repeat (first | refine blk_drewN ?_ _ | refine blk_drew ?_ | refine blk_alloc ?_ _)); refine blk_far ?_ NB210_219.out _; (with_reducible repeat (first | refine blk_drewN ?_ _ | refine blk_drew ?_ | refine blk_alloc ?_ _)); refine blk_far ?_ NB210_220.out _; (with_reducible repeat (first | refine blk_drewN ?_ _ | refine blk_drew ?_ | refine blk_alloc ?_ _)); refine blk_far ?_ NB210_220.out _; (with_reducible repeat (first | refine blk_drewN ?_ _ | refine blk_drew ?_ | refine blk_alloc ?_ _)); refine blk_far ?_ NB210_219.out _; (with_reducible repeat (first | refine blk_drewN ?_ _ | refine blk_drew ?_ | refine blk_alloc ?_ _)); refine blk_far ?_ NB210_219.out _; (with_reducible repeat (first | refine blk_drewN ?_ _ | refine blk_drew ?_ | refine blk_alloc ?_ _)); exact BK210.out⟩, ⟨by (with_reducible repeat (first | refine blk_drewN ?_ _ | refine blk_drew ?_ | refine blk_alloc ?_ _)); refine blk_far ?_ NB211_219.out _; (with_reducible repeat (first | refine blk_drewN ?_ _ | refine blk_drew ?_ | refine blk_alloc ?_ _)); refine blk_far ?_ NB211_220.out _; (with_reducible repeat (first | refine blk_drewN ?_ _ | refine blk_drew ?_ | refine blk_alloc ?_ _)); refine blk_far ?_ NB211_220.out _; (with_reducible repeat (first | refine blk_drewN ?_ _ | refine blk_drew ?_ | refine blk_alloc ?_ _)); refine blk_far ?_ NB211_219.out _; (with_reducible repeat (first | refine blk_drewN ?_ _ | refine blk_drew ?_ | refine blk_alloc ?_ _)); refine blk_far ?_ NB211_219.out _; (with_reducible repeat (first | refine blk_drewN ?_ _ | refine blk_drew ?_ | refine blk_alloc ?_ _)); exact BK211.out⟩, ⟨by (with_reducible repeat (first | refine blk_drewN ?_ _ | refine blk_drew ?_ | refine blk_alloc ?_ _)); refine blk_far ?_ NB212_219.out _; (with_reducible repeat (first | refine blk_drewN ?_ _ | refine blk_drew ?_ | refine blk_alloc ?_ _)); refine blk_far ?_ NB212_220.out _; (with_reducible repeat (first | refine blk_drewN ?_ _ | refine blk_drew ?_ | refine blk_alloc ?_ _)); refine blk_far ?_ NB212_220.out _; (with_reducible repeat (first | refine blk_drewN ?_ _ | refine blk_drew ?_ | refine blk_alloc ?_ _)); refine blk_far ?_ NB212_219.out _; (with_reducible repeat (first | refine blk_drewN ?_ _ | refine blk_drew ?_ | refine blk_alloc ?_ _)); refine blk_far ?_ NB212_219.out _; (with_reducible repeat (first | refine blk_drewN ?_ _ | refine blk_drew ?_ | refine blk_alloc ?_ _)); exact BK212.out⟩, ⟨by (with_reducible repeat (first | refine blk_drewN ?_ _ | refine blk_drew ?_ | refine blk_alloc ?_ _)); refine blk_put (cs := #[.int .i64 t215, .int .i64 t216]) ?_ 0 _ rfl; (with_reducible repeat (first | refine blk_drewN ?_ _ | refine blk_drew ?_ | refine blk_alloc ?_ _)); refine blk_far ?_ NB219_220.out _; (with_reducible repeat (first | refine blk_drewN ?_ _ | refine blk_drew ?_ | refine blk_alloc ?_ _)); refine blk_far ?_ NB219_220.out _; (with_reducible repeat (first | refine blk_drewN ?_ _ | refine blk_drew ?_ | refine blk_alloc ?_ _)); refine blk_put (cs := #[.int .i64 t215, .int .i64 0]) ?_ 1 _ rfl; (with_reducible repeat (first | refine blk_drewN ?_ _ | refine blk_drew ?_ | refine blk_alloc ?_ _)); refine blk_put (cs := #[.int .i64 0, .int .i64 0]) ?_ 0 _ rfl; (with_reducible repeat (first | refine blk_drewN ?_ _ | refine blk_drew ?_ | refine blk_alloc ?_ _)); exact BK219.out⟩, ⟨by (with_reducible repeat (first | refine blk_drewN ?_ _ | refine blk_drew ?_ | refine blk_alloc ?_ _)); refine blk_far ?_ NB220_219.out _; (with_reducible repeat (first | refine blk_drewN ?_ _ | refine blk_drew ?_ | refine blk_alloc ?_ _)); refine blk_put (cs := #[.int .i64 t217, .int .i64 0]) ?_ 1 _ rfl; (with_reducible repeat (first | refine blk_drewN ?_ _ | refine blk_drew ?_ | refine blk_alloc ?_ _)); refine blk_put (cs := #[.int .i64 0, .int .i64 0]) ?_ 0 _ rfl; (with_reducible repeat (first | refine blk_drewN ?_ _ | refine blk_drew ?_ | refine blk_alloc ?_ _)); refine blk_far ?_ NB220_219.out _; (with_reducible repeat (first | refine blk_drewN ?_ _ | refine blk_drew ?_ | refine blk_alloc ?_ _)); refine blk_far ?_ NB220_219.out _; (with_reducible repeat (first | refine blk_drewN ?_ _ | refine blk_drew ?_ | refine blk_alloc ?_ _)); exact BK220.out⟩, ⟨bw HB⟩⟩
                  · rw [if_neg c64] at H
                    have c64b0 : decide (t215 < t217) = false := decide_eq_false c64
                    clear c64
                    (first | rw [c64b0] | (simp only [i64_w, i32_w]; rw [c64b0]) | rw [c64b1] | skip)
                    have H' := Aside0.mk H
                    clear H
                    go_wp2
                    go_meet
                    case rel => exact ⟨_, (t215), H', ⟨by have := HJ2.out; have := HJ24.out; have := HJ33.out; first | omega | exact Nat.le_refl _⟩, ⟨by (with_reducible repeat (first | refine blk_drewN ?_ _ | refine blk_drew ?_ | refine blk_alloc ?_ _)); refine blk_far ?_ NB210_220.out _; (with_reducible repeat (first | refine blk_drewN ?_ _ | refine blk_drew ?_ | refine blk_alloc ?_ _)); refine blk_far ?_ NB210_220.out _; (with_reducible repeat (first | refine blk_drewN ?_ _ | refine blk_drew ?_ | refine blk_alloc ?_ _)); refine blk_far ?_ NB210_219.out _; (with_reducible repeat (first | refine blk_drewN ?_ _ | refine blk_drew ?_ | refine blk_alloc ?_ _)); refine blk_far ?_ NB210_219.out _; (with_reducible repeat (first | refine blk_drewN ?_ _ | refine blk_drew ?_ | refine blk_alloc ?_ _)); exact BK210.out⟩, ⟨by (with_reducible repeat (first | refine blk_drewN ?_ _ | refine blk_drew ?_ | refine blk_alloc ?_ _)); refine blk_far ?_ NB211_220.out _; (with_reducible repeat (first | refine blk_drewN ?_ _ | refine blk_drew ?_ | refine blk_alloc ?_ _)); refine blk_far ?_ NB211_220.out _; (with_reducible repeat (first | refine blk_drewN ?_ _ | refine blk_drew ?_ | refine blk_alloc ?_ _)); refine blk_far ?_ NB211_219.out _; (with_reducible repeat (first | refine blk_drewN ?_ _ | refine blk_drew ?_ | refine blk_alloc ?_ _)); refine blk_far ?_ NB211_219.out _; (with_reducible repeat (first | refine blk_drewN ?_ _ | refine blk_drew ?_ | refine blk_alloc ?_ _)); exact BK211.out⟩, ⟨by (with_reducible repeat (first | refine blk_drewN ?_ _ | refine blk_drew ?_ | refine blk_alloc ?_ _)); refine blk_far ?_ NB212_220.out _; (with_reducible repeat (first | refine blk_drewN ?_ _ | refine blk_drew ?_ | refine blk_alloc ?_ _)); refine blk_far ?_ NB212_220.out _; (with_reducible repeat (first | refine blk_drewN ?_ _ | refine blk_drew ?_ | refine blk_alloc ?_ _)); refine blk_far ?_ NB212_219.out _; (with_reducible repeat (first | refine blk_drewN ?_ _ | refine blk_drew ?_ | refine blk_alloc ?_ _)); refine blk_far ?_ NB212_219.out _; (with_reducible repeat (first | refine blk_drewN ?_ _ | refine blk_drew ?_ | refine blk_alloc ?_ _)); exact BK212.out⟩, ⟨by (with_reducible repeat (first | refine blk_drewN ?_ _ | refine blk_drew ?_ | refine blk_alloc ?_ _)); refine blk_far ?_ NB219_220.out _; (with_reducible repeat (first | refine blk_drewN ?_ _ | refine blk_drew ?_ | refine blk_alloc ?_ _)); refine blk_far ?_ NB219_220.out _; (with_reducible repeat (first | refine blk_drewN ?_ _ | refine blk_drew ?_ | refine blk_alloc ?_ _)); refine blk_put (cs := #[.int .i64 t215, .int .i64 0]) ?_ 1 _ rfl; (with_reducible repeat (first | refine blk_drewN ?_ _ | refine blk_drew ?_ | refine blk_alloc ?_ _)); refine blk_put (cs := #[.int .i64 0, .int .i64 0]) ?_ 0 _ rfl; (with_reducible repeat (first | refine blk_drewN ?_ _ | refine blk_drew ?_ | refine blk_alloc ?_ _)); exact BK219.out⟩, ⟨by (with_reducible repeat (first | refine blk_drewN ?_ _ | refine blk_drew ?_ | refine blk_alloc ?_ _)); refine blk_put (cs := #[.int .i64 t217, .int .i64 0]) ?_ 1 _ rfl; (with_reducible repeat (first | refine blk_drewN ?_ _ | refine blk_drew ?_ | refine blk_alloc ?_ _)); refine blk_put (cs := #[.int .i64 0, .int .i64 0]) ?_ 0 _ rfl; (with_reducible repeat (first | refine blk_drewN ?_ _ | refine blk_drew ?_ | refine blk_alloc ?_ _)); refine blk_far ?_ NB220_219.out _; (with_reducible repeat (first | refine blk_drewN ?_ _ | refine blk_drew ?_ | refine blk_alloc ?_ _)); refine blk_far ?_ NB220_219.out _; (with_reducible repeat (first | refine blk_drewN ?_ _ | refine blk_drew ?_ | refine blk_alloc ?_ _)); exact BK220.out⟩, ⟨bw HB⟩⟩
                case rest =>
                  clear HC44
                  try clear p2
                  try clear c4
                  try clear c5
                  try clear c6
                  try clear c7
                  try clear c48
                  try clear c55
                  try clear c56
                  try clear c57
                  try clear c58
                  try clear c60
                  try clear c61
                  try clear c62
                  try clear c64
                  try clear c64b0
                  try clear c65
                  try clear c66
                  try clear c67
                  try clear c68
                  try clear c70
                  try clear c71
                  try clear c72
                  try clear hcz59_0
                  try clear hcz59_1
                  try clear hcz63_0
                  try clear hcz63_1
                  try clear hcz69_0
                  try clear hcz69_1
                  try clear hcz73_0
                  try clear hcz73_1
                  try clear hfz59_0
                  try clear hfz59_1
                  try clear hfz63_0
                  try clear hfz63_1
                  try clear hfz69_0
                  try clear hfz69_1
                  try clear hfz73_0
                  try clear hfz73_1
                  obtain ⟨kq, x220000_43, HA, HJ43, BK210, BK211, BK212, BK219, BK220, HB⟩ := hcut
                  cases kq with
                  | zero => exact absurd HA.out (by simp [phalanxref03_Hull.j3])
                  | succ kj43 =>
                    have H := HA.out
                    clear HA
                    simp only [phalanxref03_Hull.j3] at H
                    by_cases c74 : t218 > t216
                    · rw [if_pos c74] at H
                      have c74b0 : decide (t216 < t218) = true := decide_eq_true c74
                      clear c74
                      replace H := Option.bind_eq_some_iff.mp H
                      obtain ⟨t222, A750, H⟩ := H
                      replace H : (if t222 = true then (some (x5_24, x6_33, wrap64 ((wrap64 (x220000_43 - x5_24)) + 1), wrap64 ((wrap64 (t218 - x6_33)) + 1))) else (some (0, 0, 0, 0))) = some (r1, r2, r3, r4) := H
                      have A75 := Aside0.mk A750
                      clear A750
                      by_cases c76 : t222 = true
                      · subst c76
                        have H1 : (some (x5_24, x6_33, wrap64 ((wrap64 (x220000_43 - x5_24)) + 1), wrap64 ((wrap64 (t218 - x6_33)) + 1))) = some (r1, r2, r3, r4) := by rw [if_pos rfl] at H; exact H
                        clear H
                        have H := H1
                        clear H1
                        simp only [Option.some.injEq, Prod.mk.injEq] at H
                        obtain ⟨rfl, rfl, rfl, rfl⟩ := H
                        have hnb77 := NB220_210.out
                        have hnc77 := NB210_220.out
                        have hnb78 := NB220_211.out
                        have hnc78 := NB211_220.out
                        have hnb79 := NB220_212.out
                        have hnc79 := NB212_220.out
                        have hnb80 := NB220_219.out
                        have hnc80 := NB219_220.out
                        obtain ⟨hcz81_0, hcz81_1, hfz81_0, hfz81_1⟩ := cz2 BK220
                        have hnb82 := NB219_210.out
                        have hnc82 := NB210_219.out
                        have hnb83 := NB219_211.out
                        have hnc83 := NB211_219.out
                        have hnb84 := NB219_212.out
                        have hnc84 := NB212_219.out
                        obtain ⟨hcz85_0, hcz85_1, hfz85_0, hfz85_1⟩ := cz2 BK219
                        go_wp2_with (first | ((with_reducible refine gate_dst (N := 9) rfl ?_); refine box_event ?hg (N := 9) ?hd (cs := #[.int .i64 0, .int .i64 0, .int .i64 0, .int .i64 0]) (t := 47) ?hr ?_; (case hd => rfl); (case hg => rfl); (case hr => first | (go_simp; done) | (go_simp; rfl)); intro gb221 hg w86 hbox hb; have BK221 := Aside0.mk (hbox); have GW221 := Aside0.mk ((bz HB _ hg : w.heap.size ≤ gb221)); have GE221 := Aside0.mk ((bz HB _ hg : w.heap.size ≤ gb221)); have NB210_221 := Aside0.mk ((by rw [hg]; exact Nat.ne_of_lt (blk_lt (g := gb210) (o := .cells #[.int .i64 a0_0, .int .i64 a0_1, .int .i64 a0_2, .int .i64 a0_3] 47 (0, 0)) (by (with_reducible repeat (first | refine blk_drewN ?_ _ | refine blk_drew ?_ | refine blk_alloc ?_ _)); refine blk_far ?_ NB210_219.out _; (with_reducible repeat (first | refine blk_drewN ?_ _ | refine blk_drew ?_ | refine blk_alloc ?_ _)); exact BK210.out)) : gb210 ≠ gb221)); have NB221_210 := Aside0.mk ((by rw [hg]; exact Nat.ne_of_gt (blk_lt (g := gb210) (o := .cells #[.int .i64 a0_0, .int .i64 a0_1, .int .i64 a0_2, .int .i64 a0_3] 47 (0, 0)) (by (with_reducible repeat (first | refine blk_drewN ?_ _ | refine blk_drew ?_ | refine blk_alloc ?_ _)); refine blk_far ?_ NB210_219.out _; (with_reducible repeat (first | refine blk_drewN ?_ _ | refine blk_drew ?_ | refine blk_alloc ?_ _)); exact BK210.out)) : gb221 ≠ gb210)); have NB211_221 := Aside0.mk ((by rw [hg]; exact Nat.ne_of_lt (blk_lt (g := gb211) (o := .cells #[.int .i64 a1_0, .int .i64 a1_1, .int .i64 a1_2, .int .i64 a1_3] 47 (0, 0)) (by (with_reducible repeat (first | refine blk_drewN ?_ _ | refine blk_drew ?_ | refine blk_alloc ?_ _)); refine blk_far ?_ NB211_219.out _; (with_reducible repeat (first | refine blk_drewN ?_ _ | refine blk_drew ?_ | refine blk_alloc ?_ _)); exact BK211.out)) : gb211 ≠ gb221)); have NB221_211 := Aside0.mk ((by rw [hg]; exact Nat.ne_of_gt (blk_lt (g := gb211) (o := .cells #[.int .i64 a1_0, .int .i64 a1_1, .int .i64 a1_2, .int .i64 a1_3] 47 (0, 0)) (by (with_reducible repeat (first | refine blk_drewN ?_ _ | refine blk_drew ?_ | refine blk_alloc ?_ _)); refine blk_far ?_ NB211_219.out _; (with_reducible repeat (first | refine blk_drewN ?_ _ | refine blk_drew ?_ | refine blk_alloc ?_ _)); exact BK211.out)) : gb221 ≠ gb211)); have NB212_221 := Aside0.mk ((by rw [hg]; exact Nat.ne_of_lt (blk_lt (g := gb212) (o := .cells #[.int .i64 0, .int .i64 0, .int .i64 0, .int .i64 0] 47 (0, 0)) (by (with_reducible repeat (first | refine blk_drewN ?_ _ | refine blk_drew ?_ | refine blk_alloc ?_ _)); refine blk_far ?_ NB212_219.out _; (with_reducible repeat (first | refine blk_drewN ?_ _ | refine blk_drew ?_ | refine blk_alloc ?_ _)); exact BK212.out)) : gb212 ≠ gb221)); have NB221_212 := Aside0.mk ((by rw [hg]; exact Nat.ne_of_gt (blk_lt (g := gb212) (o := .cells #[.int .i64 0, .int .i64 0, .int .i64 0, .int .i64 0] 47 (0, 0)) (by (with_reducible repeat (first | refine blk_drewN ?_ _ | refine blk_drew ?_ | refine blk_alloc ?_ _)); refine blk_far ?_ NB212_219.out _; (with_reducible repeat (first | refine blk_drewN ?_ _ | refine blk_drew ?_ | refine blk_alloc ?_ _)); exact BK212.out)) : gb221 ≠ gb212)); have NB219_221 := Aside0.mk ((by rw [hg]; exact Nat.ne_of_lt (blk_lt (g := gb219) (o := .cells #[.int .i64 x220000_43, .int .i64 t218] 25 (0, 0)) (by (with_reducible repeat (first | refine blk_drewN ?_ _ | refine blk_drew ?_ | refine blk_alloc ?_ _)); refine blk_put (cs := #[.int .i64 x220000_43, .int .i64 t216]) ?_ 1 _ rfl; (with_reducible repeat (first | refine blk_drewN ?_ _ | refine blk_drew ?_ | refine blk_alloc ?_ _)); exact BK219.out)) : gb219 ≠ gb221)); have NB221_219 := Aside0.mk ((by rw [hg]; exact Nat.ne_of_gt (blk_lt (g := gb219) (o := .cells #[.int .i64 x220000_43, .int .i64 t218] 25 (0, 0)) (by (with_reducible repeat (first | refine blk_drewN ?_ _ | refine blk_drew ?_ | refine blk_alloc ?_ _)); refine blk_put (cs := #[.int .i64 x220000_43, .int .i64 t216]) ?_ 1 _ rfl; (with_reducible repeat (first | refine blk_drewN ?_ _ | refine blk_drew ?_ | refine blk_alloc ?_ _)); exact BK219.out)) : gb221 ≠ gb219)); have NB220_221 := Aside0.mk ((by rw [hg]; exact Nat.ne_of_lt (blk_lt (g := gb220) (o := .cells #[.int .i64 t217, .int .i64 t218] 25 (0, 0)) (by (with_reducible repeat (first | refine blk_drewN ?_ _ | refine blk_drew ?_ | refine blk_alloc ?_ _)); refine blk_far ?_ NB220_219.out _; (with_reducible repeat (first | refine blk_drewN ?_ _ | refine blk_drew ?_ | refine blk_alloc ?_ _)); exact BK220.out)) : gb220 ≠ gb221)); have NB221_220 := Aside0.mk ((by rw [hg]; exact Nat.ne_of_gt (blk_lt (g := gb220) (o := .cells #[.int .i64 t217, .int .i64 t218] 25 (0, 0)) (by (with_reducible repeat (first | refine blk_drewN ?_ _ | refine blk_drew ?_ | refine blk_alloc ?_ _)); refine blk_far ?_ NB220_219.out _; (with_reducible repeat (first | refine blk_drewN ?_ _ | refine blk_drew ?_ | refine blk_alloc ?_ _)); exact BK220.out)) : gb221 ≠ gb220)); replace BK210 := Aside0.mk (blk_below (g := gb210) (o := .cells #[.int .i64 a0_0, .int .i64 a0_1, .int .i64 a0_2, .int .i64 a0_3] 47 (0, 0)) (by (with_reducible repeat (first | refine blk_drewN ?_ _ | refine blk_drew ?_ | refine blk_alloc ?_ _)); refine blk_far ?_ NB210_219.out _; (with_reducible repeat (first | refine blk_drewN ?_ _ | refine blk_drew ?_ | refine blk_alloc ?_ _)); exact BK210.out) hb); replace BK211 := Aside0.mk (blk_below (g := gb211) (o := .cells #[.int .i64 a1_0, .int .i64 a1_1, .int .i64 a1_2, .int .i64 a1_3] 47 (0, 0)) (by (with_reducible repeat (first | refine blk_drewN ?_ _ | refine blk_drew ?_ | refine blk_alloc ?_ _)); refine blk_far ?_ NB211_219.out _; (with_reducible repeat (first | refine blk_drewN ?_ _ | refine blk_drew ?_ | refine blk_alloc ?_ _)); exact BK211.out) hb); replace BK212 := Aside0.mk (blk_below (g := gb212) (o := .cells #[.int .i64 0, .int .i64 0, .int .i64 0, .int .i64 0] 47 (0, 0)) (by (with_reducible repeat (first | refine blk_drewN ?_ _ | refine blk_drew ?_ | refine blk_alloc ?_ _)); refine blk_far ?_ NB212_219.out _; (with_reducible repeat (first | refine blk_drewN ?_ _ | refine blk_drew ?_ | refine blk_alloc ?_ _)); exact BK212.out) hb); replace BK219 := Aside0.mk (blk_below (g := gb219) (o := .cells #[.int .i64 x220000_43, .int .i64 t218] 25 (0, 0)) (by (with_reducible repeat (first | refine blk_drewN ?_ _ | refine blk_drew ?_ | refine blk_alloc ?_ _)); refine blk_put (cs := #[.int .i64 x220000_43, .int .i64 t216]) ?_ 1 _ rfl; (with_reducible repeat (first | refine blk_drewN ?_ _ | refine blk_drew ?_ | refine blk_alloc ?_ _)); exact BK219.out) hb); replace BK220 := Aside0.mk (blk_below (g := gb220) (o := .cells #[.int .i64 t217, .int .i64 t218] 25 (0, 0)) (by (with_reducible repeat (first | refine blk_drewN ?_ _ | refine blk_drew ?_ | refine blk_alloc ?_ _)); refine blk_far ?_ NB220_219.out _; (with_reducible repeat (first | refine blk_drewN ?_ _ | refine blk_drew ?_ | refine blk_alloc ?_ _)); exact BK220.out) hb); replace HB := Aside0.mk (below_step (bw HB) hb); clear hb hbox hg; have hnb87 := NB221_210.out; have hnc87 := NB210_221.out; have hnb88 := NB221_211.out; have hnc88 := NB211_221.out; have hnb89 := NB221_212.out; have hnc89 := NB212_221.out; have hnb90 := NB221_219.out; have hnc90 := NB219_221.out; have hnb91 := NB221_220.out; have hnc91 := NB220_221.out; obtain ⟨hcz92_0, hcz92_1, hcz92_2, hcz92_3, hfz92_0, hfz92_1, hfz92_2, hfz92_3⟩ := cz4 BK221) | ((with_reducible refine gate_callee (f := 47) rfl ?_); refine goesL_ (some 76) rfl rfl Try.func47 (by kernel_rfl) rfl #[.agg #[.int .i64 x5_24, .int .i64 x6_33, .int .i64 (wrap64 ((wrap64 (x220000_43 - x5_24)) + 1)), .int .i64 (wrap64 ((wrap64 (t218 - x6_33)) + 1))]] rfl (by (try simp only [List.map_toArray, List.map_cons, List.map_nil]); first | done | rfl | (simp only [List.length_drop, List.length_take]; rfl)) ?_; (with_reducible refine (phalanxref03_May.calls x5_24 x6_33 (wrap64 ((wrap64 (x220000_43 - x5_24)) + 1)) (wrap64 ((wrap64 (t218 - x6_33)) + 1)) true _ A75.out).mono ?_); rintro e w93 ⟨rfl, hb⟩; refine ⟨_, rfl, ?_⟩; replace BK210 := Aside0.mk (blk_below (g := gb210) (o := .cells #[.int .i64 a0_0, .int .i64 a0_1, .int .i64 a0_2, .int .i64 a0_3] 47 (0, 0)) (by (with_reducible repeat (first | refine blk_drewN ?_ _ | refine blk_drew ?_ | refine blk_alloc ?_ _)); refine blk_far ?_ NB210_221.out _; (with_reducible repeat (first | refine blk_drewN ?_ _ | refine blk_drew ?_ | refine blk_alloc ?_ _)); refine blk_far ?_ NB210_221.out _; (with_reducible repeat (first | refine blk_drewN ?_ _ | refine blk_drew ?_ | refine blk_alloc ?_ _)); refine blk_far ?_ NB210_221.out _; (with_reducible repeat (first | refine blk_drewN ?_ _ | refine blk_drew ?_ | refine blk_alloc ?_ _)); refine blk_far ?_ NB210_221.out _; (with_reducible repeat (first | refine blk_drewN ?_ _ | refine blk_drew ?_ | refine blk_alloc ?_ _)); exact BK210.out) hb); replace BK211 := Aside0.mk (blk_below (g := gb211) (o := .cells #[.int .i64 a1_0, .int .i64 a1_1, .int .i64 a1_2, .int .i64 a1_3] 47 (0, 0)) (by (with_reducible repeat (first | refine blk_drewN ?_ _ | refine blk_drew ?_ | refine blk_alloc ?_ _)); refine blk_far ?_ NB211_221.out _; (with_reducible repeat (first | refine blk_drewN ?_ _ | refine blk_drew ?_ | refine blk_alloc ?_ _)); refine blk_far ?_ NB211_221.out _; (with_reducible repeat (first | refine blk_drewN ?_ _ | refine blk_drew ?_ | refine blk_alloc ?_ _)); refine blk_far ?_ NB211_221.out _; (with_reducible repeat (first | refine blk_drewN ?_ _ | refine blk_drew ?_ | refine blk_alloc ?_ _)); refine blk_far ?_ NB211_221.out _; (with_reducible repeat (first | refine blk_drewN ?_ _ | refine blk_drew ?_ | refine blk_alloc ?_ _)); exact BK211.out) hb); replace BK212 := Aside0.mk (blk_below (g := gb212) (o := .cells #[.int .i64 0, .int .i64 0, .int .i64 0, .int .i64 0] 47 (0, 0)) (by (with_reducible repeat (first | refine blk_drewN ?_ _ | refine blk_drew ?_ | refine blk_alloc ?_ _)); refine blk_far ?_ NB212_221.out _; (with_reducible repeat (first | refine blk_drewN ?_ _ | refine blk_drew ?_ | refine blk_alloc ?_ _)); refine blk_far ?_ NB212_221.out _; (with_reducible repeat (first | refine blk_drewN ?_ _ | refine blk_drew ?_ | refine blk_alloc ?_ _)); refine blk_far ?_ NB212_221.out _; (with_reducible repeat (first | refine blk_drewN ?_ _ | refine blk_drew ?_ | refine blk_alloc ?_ _)); refine blk_far ?_ NB212_221.out _; (with_reducible repeat (first | refine blk_drewN ?_ _ | refine blk_drew ?_ | refine blk_alloc ?_ _)); exact BK212.out) hb); replace BK219 := Aside0.mk (blk_below (g := gb219) (o := .cells #[.int .i64 x220000_43, .int .i64 t218] 25 (0, 0)) (by (with_reducible repeat (first | refine blk_drewN ?_ _ | refine blk_drew ?_ | refine blk_alloc ?_ _)); refine blk_far ?_ NB219_221.out _; (with_reducible repeat (first | refine blk_drewN ?_ _ | refine blk_drew ?_ | refine blk_alloc ?_ _)); refine blk_far ?_ NB219_221.out _; (with_reducible repeat (first | refine blk_drewN ?_ _ | refine blk_drew ?_ | refine blk_alloc ?_ _)); refine blk_far ?_ NB219_221.out _; (with_reducible repeat (first | refine blk_drewN ?_ _ | refine blk_drew ?_ | refine blk_alloc ?_ _)); refine blk_far ?_ NB219_221.out _; (with_reducible repeat (first | refine blk_drewN ?_ _ | refine blk_drew ?_ | refine blk_alloc ?_ _)); exact BK219.out) hb); replace BK220 := Aside0.mk (blk_below (g := gb220) (o := .cells #[.int .i64 t217, .int .i64 t218] 25 (0, 0)) (by (with_reducible repeat (first | refine blk_drewN ?_ _ | refine blk_drew ?_ | refine blk_alloc ?_ _)); refine blk_far ?_ NB220_221.out _; (with_reducible repeat (first | refine blk_drewN ?_ _ | refine blk_drew ?_ | refine blk_alloc ?_ _)); refine blk_far ?_ NB220_221.out _; (with_reducible repeat (first | refine blk_drewN ?_ _ | refine blk_drew ?_ | refine blk_alloc ?_ _)); refine blk_far ?_ NB220_221.out _; (with_reducible repeat (first | refine blk_drewN ?_ _ | refine blk_drew ?_ | refine blk_alloc ?_ _)); refine blk_far ?_ NB220_221.out _; (with_reducible repeat (first | refine blk_drewN ?_ _ | refine blk_drew ?_ | refine blk_alloc ?_ _)); exact BK220.out) hb); replace BK221 := Aside0.mk (blk_below (g := gb221) (o := .cells #[.int .i64 x5_24, .int .i64 x6_33, .int .i64 (wrap64 ((wrap64 (x220000_43 - x5_24)) + 1)), .int .i64 (wrap64 ((wrap64 (t218 - x6_33)) + 1))] 47 (0, 0)) (by (with_reducible repeat (first | refine blk_drewN ?_ _ | refine blk_drew ?_ | refine blk_alloc ?_ _)); refine blk_put (cs := #[.int .i64 x5_24, .int .i64 x6_33, .int .i64 (wrap64 ((wrap64 (x220000_43 - x5_24)) + 1)), .int .i64 0]) ?_ 3 _ rfl; (with_reducible repeat (first | refine blk_drewN ?_ _ | refine blk_drew ?_ | refine blk_alloc ?_ _)); refine blk_put (cs := #[.int .i64 x5_24, .int .i64 x6_33, .int .i64 0, .int .i64 0]) ?_ 2 _ rfl; (with_reducible repeat (first | refine blk_drewN ?_ _ | refine blk_drew ?_ | refine blk_alloc ?_ _)); refine blk_put (cs := #[.int .i64 x5_24, .int .i64 0, .int .i64 0, .int .i64 0]) ?_ 1 _ rfl; (with_reducible repeat (first | refine blk_drewN ?_ _ | refine blk_drew ?_ | refine blk_alloc ?_ _)); refine blk_put (cs := #[.int .i64 0, .int .i64 0, .int .i64 0, .int .i64 0]) ?_ 0 _ rfl; (with_reducible repeat (first | refine blk_drewN ?_ _ | refine blk_drew ?_ | refine blk_alloc ?_ _)); exact BK221.out) hb); replace HB := Aside0.mk (below_step (bw HB) hb); (try clear hb); (try clear hb2); (try clear hk); (try clear hi); obtain ⟨hcz94_0, hcz94_1, hcz94_2, hcz94_3, hfz94_0, hfz94_1, hfz94_2, hfz94_3⟩ := cz4 BK221; have hnb95 := NB212_210.out; have hnc95 := NB210_212.out; have hnb96 := NB212_211.out; have hnc96 := NB211_212.out; obtain ⟨hcz97_0, hcz97_1, hcz97_2, hcz97_3, hfz97_0, hfz97_1, hfz97_2, hfz97_3⟩ := cz4 BK212))
                        refine bodyPost_ret (results_cell_row rfl _ _ gb212 47 #[.int .i64 x5_24, .int .i64 x6_33, .int .i64 (wrap64 ((wrap64 (x220000_43 - x5_24)) + 1)), .int .i64 (wrap64 ((wrap64 (t218 - x6_33)) + 1))] (0, 0) _ rfl (by (with_reducible repeat (first | refine blk_drewN ?_ _ | refine blk_drew ?_ | refine blk_alloc ?_ _)); refine blk_put (cs := #[.int .i64 x5_24, .int .i64 x6_33, .int .i64 (wrap64 ((wrap64 (x220000_43 - x5_24)) + 1)), .int .i64 0]) ?_ 3 _ rfl; (with_reducible repeat (first | refine blk_drewN ?_ _ | refine blk_drew ?_ | refine blk_alloc ?_ _)); refine blk_put (cs := #[.int .i64 x5_24, .int .i64 x6_33, .int .i64 0, .int .i64 0]) ?_ 2 _ rfl; (with_reducible repeat (first | refine blk_drewN ?_ _ | refine blk_drew ?_ | refine blk_alloc ?_ _)); refine blk_put (cs := #[.int .i64 x5_24, .int .i64 0, .int .i64 0, .int .i64 0]) ?_ 1 _ rfl; (with_reducible repeat (first | refine blk_drewN ?_ _ | refine blk_drew ?_ | refine blk_alloc ?_ _)); refine blk_put (cs := #[.int .i64 0, .int .i64 0, .int .i64 0, .int .i64 0]) ?_ 0 _ rfl; (with_reducible repeat (first | refine blk_drewN ?_ _ | refine blk_drew ?_ | refine blk_alloc ?_ _)); exact BK212.out) Try.underlying47 rfl (by kernel_rfl)) rfl ?_
                        exact ⟨by first | rfl | (simp [errW_none, errW_some] <;> rfl) | (simp [*, errW_none, errW_some] <;> rfl) | (simp [max_mx, min_mn, *, errW_none, errW_some]), by repeat (first | (with_reducible first | exact HB.out | apply below_alloc | apply pw_below_drewN | apply below_drew1 | refine below_set ?_ GE210.out | refine below_set ?_ GE211.out | refine below_set ?_ GE212.out | refine below_set ?_ GE219.out | refine below_set ?_ GE220.out | refine below_set ?_ GE221.out) | exact HB.out)⟩
                      · replace c76 := Bool.eq_false_iff.mpr c76
                        subst c76
                        have H1 : (some (0, 0, 0, 0)) = some (r1, r2, r3, r4) := by rw [if_neg (show ¬ (false = true) by decide)] at H; exact H
                        clear H
                        have H := H1
                        clear H1
                        simp only [Option.some.injEq, Prod.mk.injEq] at H
                        obtain ⟨rfl, rfl, rfl, rfl⟩ := H
                        have hnb98 := NB220_210.out
                        have hnc98 := NB210_220.out
                        have hnb99 := NB220_211.out
                        have hnc99 := NB211_220.out
                        have hnb100 := NB220_212.out
                        have hnc100 := NB212_220.out
                        have hnb101 := NB220_219.out
                        have hnc101 := NB219_220.out
                        obtain ⟨hcz102_0, hcz102_1, hfz102_0, hfz102_1⟩ := cz2 BK220
                        have hnb103 := NB219_210.out
                        have hnc103 := NB210_219.out
                        have hnb104 := NB219_211.out
                        have hnc104 := NB211_219.out
                        have hnb105 := NB219_212.out
                        have hnc105 := NB212_219.out
                        obtain ⟨hcz106_0, hcz106_1, hfz106_0, hfz106_1⟩ := cz2 BK219
                        go_wp2_with (first | ((with_reducible refine gate_dst (N := 9) rfl ?_); refine box_event ?hg (N := 9) ?hd (cs := #[.int .i64 0, .int .i64 0, .int .i64 0, .int .i64 0]) (t := 47) ?hr ?_; (case hd => rfl); (case hg => rfl); (case hr => first | (go_simp; done) | (go_simp; rfl)); intro gb221 hg w107 hbox hb; have BK221 := Aside0.mk (hbox); have GW221 := Aside0.mk ((bz HB _ hg : w.heap.size ≤ gb221)); have GE221 := Aside0.mk ((bz HB _ hg : w.heap.size ≤ gb221)); have NB210_221 := Aside0.mk ((by rw [hg]; exact Nat.ne_of_lt (blk_lt (g := gb210) (o := .cells #[.int .i64 a0_0, .int .i64 a0_1, .int .i64 a0_2, .int .i64 a0_3] 47 (0, 0)) (by (with_reducible repeat (first | refine blk_drewN ?_ _ | refine blk_drew ?_ | refine blk_alloc ?_ _)); refine blk_far ?_ NB210_219.out _; (with_reducible repeat (first | refine blk_drewN ?_ _ | refine blk_drew ?_ | refine blk_alloc ?_ _)); exact BK210.out)) : gb210 ≠ gb221)); have NB221_210 := Aside0.mk ((by rw [hg]; exact Nat.ne_of_gt (blk_lt (g := gb210) (o := .cells #[.int .i64 a0_0, .int .i64 a0_1, .int .i64 a0_2, .int .i64 a0_3] 47 (0, 0)) (by (with_reducible repeat (first | refine blk_drewN ?_ _ | refine blk_drew ?_ | refine blk_alloc ?_ _)); refine blk_far ?_ NB210_219.out _; (with_reducible repeat (first | refine blk_drewN ?_ _ | refine blk_drew ?_ | refine blk_alloc ?_ _)); exact BK210.out)) : gb221 ≠ gb210)); have NB211_221 := Aside0.mk ((by rw [hg]; exact Nat.ne_of_lt (blk_lt (g := gb211) (o := .cells #[.int .i64 a1_0, .int .i64 a1_1, .int .i64 a1_2, .int .i64 a1_3] 47 (0, 0)) (by (with_reducible repeat (first | refine blk_drewN ?_ _ | refine blk_drew ?_ | refine blk_alloc ?_ _)); refine blk_far ?_ NB211_219.out _; (with_reducible repeat (first | refine blk_drewN ?_ _ | refine blk_drew ?_ | refine blk_alloc ?_ _)); exact BK211.out)) : gb211 ≠ gb221)); have NB221_211 := Aside0.mk ((by rw [hg]; exact Nat.ne_of_gt (blk_lt (g := gb211) (o := .cells #[.int .i64 a1_0, .int .i64 a1_1, .int .i64 a1_2, .int .i64 a1_3] 47 (0, 0)) (by (with_reducible repeat (first | refine blk_drewN ?_ _ | refine blk_drew ?_ | refine blk_alloc ?_ _)); refine blk_far ?_ NB211_219.out _; (with_reducible repeat (first | refine blk_drewN ?_ _ | refine blk_drew ?_ | refine blk_alloc ?_ _)); exact BK211.out)) : gb221 ≠ gb211)); have NB212_221 := Aside0.mk ((by rw [hg]; exact Nat.ne_of_lt (blk_lt (g := gb212) (o := .cells #[.int .i64 0, .int .i64 0, .int .i64 0, .int .i64 0] 47 (0, 0)) (by (with_reducible repeat (first | refine blk_drewN ?_ _ | refine blk_drew ?_ | refine blk_alloc ?_ _)); refine blk_far ?_ NB212_219.out _; (with_reducible repeat (first | refine blk_drewN ?_ _ | refine blk_drew ?_ | refine blk_alloc ?_ _)); exact BK212.out)) : gb212 ≠ gb221)); have NB221_212 := Aside0.mk ((by rw [hg]; exact Nat.ne_of_gt (blk_lt (g := gb212) (o := .cells #[.int .i64 0, .int .i64 0, .int .i64 0, .int .i64 0] 47 (0, 0)) (by (with_reducible repeat (first | refine blk_drewN ?_ _ | refine blk_drew ?_ | refine blk_alloc ?_ _)); refine blk_far ?_ NB212_219.out _; (with_reducible repeat (first | refine blk_drewN ?_ _ | refine blk_drew ?_ | refine blk_alloc ?_ _)); exact BK212.out)) : gb221 ≠ gb212)); have NB219_221 := Aside0.mk ((by rw [hg]; exact Nat.ne_of_lt (blk_lt (g := gb219) (o := .cells #[.int .i64 x220000_43, .int .i64 t218] 25 (0, 0)) (by (with_reducible repeat (first | refine blk_drewN ?_ _ | refine blk_drew ?_ | refine blk_alloc ?_ _)); refine blk_put (cs := #[.int .i64 x220000_43, .int .i64 t216]) ?_ 1 _ rfl; (with_reducible repeat (first | refine blk_drewN ?_ _ | refine blk_drew ?_ | refine blk_alloc ?_ _)); exact BK219.out)) : gb219 ≠ gb221)); have NB221_219 := Aside0.mk ((by rw [hg]; exact Nat.ne_of_gt (blk_lt (g := gb219) (o := .cells #[.int .i64 x220000_43, .int .i64 t218] 25 (0, 0)) (by (with_reducible repeat (first | refine blk_drewN ?_ _ | refine blk_drew ?_ | refine blk_alloc ?_ _)); refine blk_put (cs := #[.int .i64 x220000_43, .int .i64 t216]) ?_ 1 _ rfl; (with_reducible repeat (first | refine blk_drewN ?_ _ | refine blk_drew ?_ | refine blk_alloc ?_ _)); exact BK219.out)) : gb221 ≠ gb219)); have NB220_221 := Aside0.mk ((by rw [hg]; exact Nat.ne_of_lt (blk_lt (g := gb220) (o := .cells #[.int .i64 t217, .int .i64 t218] 25 (0, 0)) (by (with_reducible repeat (first | refine blk_drewN ?_ _ | refine blk_drew ?_ | refine blk_alloc ?_ _)); refine blk_far ?_ NB220_219.out _; (with_reducible repeat (first | refine blk_drewN ?_ _ | refine blk_drew ?_ | refine blk_alloc ?_ _)); exact BK220.out)) : gb220 ≠ gb221)); have NB221_220 := Aside0.mk ((by rw [hg]; exact Nat.ne_of_gt (blk_lt (g := gb220) (o := .cells #[.int .i64 t217, .int .i64 t218] 25 (0, 0)) (by (with_reducible repeat (first | refine blk_drewN ?_ _ | refine blk_drew ?_ | refine blk_alloc ?_ _)); refine blk_far ?_ NB220_219.out _; (with_reducible repeat (first | refine blk_drewN ?_ _ | refine blk_drew ?_ | refine blk_alloc ?_ _)); exact BK220.out)) : gb221 ≠ gb220)); replace BK210 := Aside0.mk (blk_below (g := gb210) (o := .cells #[.int .i64 a0_0, .int .i64 a0_1, .int .i64 a0_2, .int .i64 a0_3] 47 (0, 0)) (by (with_reducible repeat (first | refine blk_drewN ?_ _ | refine blk_drew ?_ | refine blk_alloc ?_ _)); refine blk_far ?_ NB210_219.out _; (with_reducible repeat (first | refine blk_drewN ?_ _ | refine blk_drew ?_ | refine blk_alloc ?_ _)); exact BK210.out) hb); replace BK211 := Aside0.mk (blk_below (g := gb211) (o := .cells #[.int .i64 a1_0, .int .i64 a1_1, .int .i64 a1_2, .int .i64 a1_3] 47 (0, 0)) (by (with_reducible repeat (first | refine blk_drewN ?_ _ | refine blk_drew ?_ | refine blk_alloc ?_ _)); refine blk_far ?_ NB211_219.out _; (with_reducible repeat (first | refine blk_drewN ?_ _ | refine blk_drew ?_ | refine blk_alloc ?_ _)); exact BK211.out) hb); replace BK212 := Aside0.mk (blk_below (g := gb212) (o := .cells #[.int .i64 0, .int .i64 0, .int .i64 0, .int .i64 0] 47 (0, 0)) (by (with_reducible repeat (first | refine blk_drewN ?_ _ | refine blk_drew ?_ | refine blk_alloc ?_ _)); refine blk_far ?_ NB212_219.out _; (with_reducible repeat (first | refine blk_drewN ?_ _ | refine blk_drew ?_ | refine blk_alloc ?_ _)); exact BK212.out) hb); replace BK219 := Aside0.mk (blk_below (g := gb219) (o := .cells #[.int .i64 x220000_43, .int .i64 t218] 25 (0, 0)) (by (with_reducible repeat (first | refine blk_drewN ?_ _ | refine blk_drew ?_ | refine blk_alloc ?_ _)); refine blk_put (cs := #[.int .i64 x220000_43, .int .i64 t216]) ?_ 1 _ rfl; (with_reducible repeat (first | refine blk_drewN ?_ _ | refine blk_drew ?_ | refine blk_alloc ?_ _)); exact BK219.out) hb); replace BK220 := Aside0.mk (blk_below (g := gb220) (o := .cells #[.int .i64 t217, .int .i64 t218] 25 (0, 0)) (by (with_reducible repeat (first | refine blk_drewN ?_ _ | refine blk_drew ?_ | refine blk_alloc ?_ _)); refine blk_far ?_ NB220_219.out _; (with_reducible repeat (first | refine blk_drewN ?_ _ | refine blk_drew ?_ | refine blk_alloc ?_ _)); exact BK220.out) hb); replace HB := Aside0.mk (below_step (bw HB) hb); clear hb hbox hg; have hnb108 := NB221_210.out; have hnc108 := NB210_221.out; have hnb109 := NB221_211.out; have hnc109 := NB211_221.out; have hnb110 := NB221_212.out; have hnc110 := NB212_221.out; have hnb111 := NB221_219.out; have hnc111 := NB219_221.out; have hnb112 := NB221_220.out; have hnc112 := NB220_221.out; obtain ⟨hcz113_0, hcz113_1, hcz113_2, hcz113_3, hfz113_0, hfz113_1, hfz113_2, hfz113_3⟩ := cz4 BK221) | ((with_reducible refine gate_callee (f := 47) rfl ?_); refine goesL_ (some 76) rfl rfl Try.func47 (by kernel_rfl) rfl #[.agg #[.int .i64 x5_24, .int .i64 x6_33, .int .i64 (wrap64 ((wrap64 (x220000_43 - x5_24)) + 1)), .int .i64 (wrap64 ((wrap64 (t218 - x6_33)) + 1))]] rfl (by (try simp only [List.map_toArray, List.map_cons, List.map_nil]); first | done | rfl | (simp only [List.length_drop, List.length_take]; rfl)) ?_; (with_reducible refine (phalanxref03_May.calls x5_24 x6_33 (wrap64 ((wrap64 (x220000_43 - x5_24)) + 1)) (wrap64 ((wrap64 (t218 - x6_33)) + 1)) false _ A75.out).mono ?_); rintro e w114 ⟨rfl, hb⟩; refine ⟨_, rfl, ?_⟩; replace BK210 := Aside0.mk (blk_below (g := gb210) (o := .cells #[.int .i64 a0_0, .int .i64 a0_1, .int .i64 a0_2, .int .i64 a0_3] 47 (0, 0)) (by (with_reducible repeat (first | refine blk_drewN ?_ _ | refine blk_drew ?_ | refine blk_alloc ?_ _)); refine blk_far ?_ NB210_221.out _; (with_reducible repeat (first | refine blk_drewN ?_ _ | refine blk_drew ?_ | refine blk_alloc ?_ _)); refine blk_far ?_ NB210_221.out _; (with_reducible repeat (first | refine blk_drewN ?_ _ | refine blk_drew ?_ | refine blk_alloc ?_ _)); refine blk_far ?_ NB210_221.out _; (with_reducible repeat (first | refine blk_drewN ?_ _ | refine blk_drew ?_ | refine blk_alloc ?_ _)); refine blk_far ?_ NB210_221.out _; (with_reducible repeat (first | refine blk_drewN ?_ _ | refine blk_drew ?_ | refine blk_alloc ?_ _)); exact BK210.out) hb); replace BK211 := Aside0.mk (blk_below (g := gb211) (o := .cells #[.int .i64 a1_0, .int .i64 a1_1, .int .i64 a1_2, .int .i64 a1_3] 47 (0, 0)) (by (with_reducible repeat (first | refine blk_drewN ?_ _ | refine blk_drew ?_ | refine blk_alloc ?_ _)); refine blk_far ?_ NB211_221.out _; (with_reducible repeat (first | refine blk_drewN ?_ _ | refine blk_drew ?_ | refine blk_alloc ?_ _)); refine blk_far ?_ NB211_221.out _; (with_reducible repeat (first | refine blk_drewN ?_ _ | refine blk_drew ?_ | refine blk_alloc ?_ _)); refine blk_far ?_ NB211_221.out _; (with_reducible repeat (first | refine blk_drewN ?_ _ | refine blk_drew ?_ | refine blk_alloc ?_ _)); refine blk_far ?_ NB211_221.out _; (with_reducible repeat (first | refine blk_drewN ?_ _ | refine blk_drew ?_ | refine blk_alloc ?_ _)); exact BK211.out) hb); replace BK212 := Aside0.mk (blk_below (g := gb212) (o := .cells #[.int .i64 0, .int .i64 0, .int .i64 0, .int .i64 0] 47 (0, 0)) (by (with_reducible repeat (first | refine blk_drewN ?_ _ | refine blk_drew ?_ | refine blk_alloc ?_ _)); refine blk_far ?_ NB212_221.out _; (with_reducible repeat (first | refine blk_drewN ?_ _ | refine blk_drew ?_ | refine blk_alloc ?_ _)); refine blk_far ?_ NB212_221.out _; (with_reducible repeat (first | refine blk_drewN ?_ _ | refine blk_drew ?_ | refine blk_alloc ?_ _)); refine blk_far ?_ NB212_221.out _; (with_reducible repeat (first | refine blk_drewN ?_ _ | refine blk_drew ?_ | refine blk_alloc ?_ _)); refine blk_far ?_ NB212_221.out _; (with_reducible repeat (first | refine blk_drewN ?_ _ | refine blk_drew ?_ | refine blk_alloc ?_ _)); exact BK212.out) hb); replace BK219 := Aside0.mk (blk_below (g := gb219) (o := .cells #[.int .i64 x220000_43, .int .i64 t218] 25 (0, 0)) (by (with_reducible repeat (first | refine blk_drewN ?_ _ | refine blk_drew ?_ | refine blk_alloc ?_ _)); refine blk_far ?_ NB219_221.out _; (with_reducible repeat (first | refine blk_drewN ?_ _ | refine blk_drew ?_ | refine blk_alloc ?_ _)); refine blk_far ?_ NB219_221.out _; (with_reducible repeat (first | refine blk_drewN ?_ _ | refine blk_drew ?_ | refine blk_alloc ?_ _)); refine blk_far ?_ NB219_221.out _; (with_reducible repeat (first | refine blk_drewN ?_ _ | refine blk_drew ?_ | refine blk_alloc ?_ _)); refine blk_far ?_ NB219_221.out _; (with_reducible repeat (first | refine blk_drewN ?_ _ | refine blk_drew ?_ | refine blk_alloc ?_ _)); exact BK219.out) hb); replace BK220 := Aside0.mk (blk_below (g := gb220) (o := .cells #[.int .i64 t217, .int .i64 t218] 25 (0, 0)) (by (with_reducible repeat (first | refine blk_drewN ?_ _ | refine blk_drew ?_ | refine blk_alloc ?_ _)); refine blk_far ?_ NB220_221.out _; (with_reducible repeat (first | refine blk_drewN ?_ _ | refine blk_drew ?_ | refine blk_alloc ?_ _)); refine blk_far ?_ NB220_221.out _; (with_reducible repeat (first | refine blk_drewN ?_ _ | refine blk_drew ?_ | refine blk_alloc ?_ _)); refine blk_far ?_ NB220_221.out _; (with_reducible repeat (first | refine blk_drewN ?_ _ | refine blk_drew ?_ | refine blk_alloc ?_ _)); refine blk_far ?_ NB220_221.out _; (with_reducible repeat (first | refine blk_drewN ?_ _ | refine blk_drew ?_ | refine blk_alloc ?_ _)); exact BK220.out) hb); replace BK221 := Aside0.mk (blk_below (g := gb221) (o := .cells #[.int .i64 x5_24, .int .i64 x6_33, .int .i64 (wrap64 ((wrap64 (x220000_43 - x5_24)) + 1)), .int .i64 (wrap64 ((wrap64 (t218 - x6_33)) + 1))] 47 (0, 0)) (by (with_reducible repeat (first | refine blk_drewN ?_ _ | refine blk_drew ?_ | refine blk_alloc ?_ _)); refine blk_put (cs := #[.int .i64 x5_24, .int .i64 x6_33, .int .i64 (wrap64 ((wrap64 (x220000_43 - x5_24)) + 1)), .int .i64 0]) ?_ 3 _ rfl; (with_reducible repeat (first | refine blk_drewN ?_ _ | refine blk_drew ?_ | refine blk_alloc ?_ _)); refine blk_put (cs := #[.int .i64 x5_24, .int .i64 x6_33, .int .i64 0, .int .i64 0]) ?_ 2 _ rfl; (with_reducible repeat (first | refine blk_drewN ?_ _ | refine blk_drew ?_ | refine blk_alloc ?_ _)); refine blk_put (cs := #[.int .i64 x5_24, .int .i64 0, .int .i64 0, .int .i64 0]) ?_ 1 _ rfl; (with_reducible repeat (first | refine blk_drewN ?_ _ | refine blk_drew ?_ | refine blk_alloc ?_ _)); refine blk_put (cs := #[.int .i64 0, .int .i64 0, .int .i64 0, .int .i64 0]) ?_ 0 _ rfl; (with_reducible repeat (first | refine blk_drewN ?_ _ | refine blk_drew ?_ | refine blk_alloc ?_ _)); exact BK221.out) hb); replace HB := Aside0.mk (below_step (bw HB) hb); (try clear hb); (try clear hb2); (try clear hk); (try clear hi); have hnb115 := NB212_210.out; have hnc115 := NB210_212.out; have hnb116 := NB212_211.out; have hnc116 := NB211_212.out; obtain ⟨hcz117_0, hcz117_1, hcz117_2, hcz117_3, hfz117_0, hfz117_1, hfz117_2, hfz117_3⟩ := cz4 BK212))
                        refine bodyPost_ret (results_cell_row rfl _ _ gb212 47 #[.int .i64 0, .int .i64 0, .int .i64 0, .int .i64 0] (0, 0) _ rfl (by (with_reducible repeat (first | refine blk_drewN ?_ _ | refine blk_drew ?_ | refine blk_alloc ?_ _)); refine blk_put (cs := #[.int .i64 0, .int .i64 0, .int .i64 0, .int .i64 0]) ?_ 3 _ rfl; (with_reducible repeat (first | refine blk_drewN ?_ _ | refine blk_drew ?_ | refine blk_alloc ?_ _)); refine blk_put (cs := #[.int .i64 0, .int .i64 0, .int .i64 0, .int .i64 0]) ?_ 2 _ rfl; (with_reducible repeat (first | refine blk_drewN ?_ _ | refine blk_drew ?_ | refine blk_alloc ?_ _)); refine blk_put (cs := #[.int .i64 0, .int .i64 0, .int .i64 0, .int .i64 0]) ?_ 1 _ rfl; (with_reducible repeat (first | refine blk_drewN ?_ _ | refine blk_drew ?_ | refine blk_alloc ?_ _)); refine blk_put (cs := #[.int .i64 0, .int .i64 0, .int .i64 0, .int .i64 0]) ?_ 0 _ rfl; (with_reducible repeat (first | refine blk_drewN ?_ _ | refine blk_drew ?_ | refine blk_alloc ?_ _)); exact BK212.out) Try.underlying47 rfl (by kernel_rfl)) rfl ?_
                        exact ⟨by first | rfl | (simp [errW_none, errW_some] <;> rfl) | (simp [*, errW_none, errW_some] <;> rfl) | (simp [max_mx, min_mn, *, errW_none, errW_some]), by repeat (first | (with_reducible first | exact HB.out | apply below_alloc | apply pw_below_drewN | apply below_drew1 | refine below_set ?_ GE210.out | refine below_set ?_ GE211.out | refine below_set ?_ GE212.out | refine below_set ?_ GE219.out | refine below_set ?_ GE220.out | refine below_set ?_ GE221.out) | exact HB.out)⟩
                    · rw [if_neg c74] at H
                      have c74b0 : decide (t216 < t218) = false := decide_eq_false c74
                      clear c74
                      replace H := Option.bind_eq_some_iff.mp H
                      obtain ⟨t224, A1180, H⟩ := H
                      replace H : (if t224 = true then (some (x5_24, x6_33, wrap64 ((wrap64 (x220000_43 - x5_24)) + 1), wrap64 ((wrap64 (t216 - x6_33)) + 1))) else (some (0, 0, 0, 0))) = some (r1, r2, r3, r4) := H
                      have A118 := Aside0.mk A1180
                      clear A1180
                      by_cases c119 : t224 = true
                      · subst c119
                        have H1 : (some (x5_24, x6_33, wrap64 ((wrap64 (x220000_43 - x5_24)) + 1), wrap64 ((wrap64 (t216 - x6_33)) + 1))) = some (r1, r2, r3, r4) := by rw [if_pos rfl] at H; exact H
                        clear H
                        have H := H1
                        clear H1
                        simp only [Option.some.injEq, Prod.mk.injEq] at H
                        obtain ⟨rfl, rfl, rfl, rfl⟩ := H
                        have hnb120 := NB220_210.out
                        have hnc120 := NB210_220.out
                        have hnb121 := NB220_211.out
                        have hnc121 := NB211_220.out
                        have hnb122 := NB220_212.out
                        have hnc122 := NB212_220.out
                        have hnb123 := NB220_219.out
                        have hnc123 := NB219_220.out
                        obtain ⟨hcz124_0, hcz124_1, hfz124_0, hfz124_1⟩ := cz2 BK220
                        have hnb125 := NB219_210.out
                        have hnc125 := NB210_219.out
                        have hnb126 := NB219_211.out
                        have hnc126 := NB211_219.out
                        have hnb127 := NB219_212.out
                        have hnc127 := NB212_219.out
                        obtain ⟨hcz128_0, hcz128_1, hfz128_0, hfz128_1⟩ := cz2 BK219
                        go_wp2_with (first | ((with_reducible refine gate_dst (N := 9) rfl ?_); refine box_event ?hg (N := 9) ?hd (cs := #[.int .i64 0, .int .i64 0, .int .i64 0, .int .i64 0]) (t := 47) ?hr ?_; (case hd => rfl); (case hg => rfl); (case hr => first | (go_simp; done) | (go_simp; rfl)); intro gb223 hg w129 hbox hb; have BK223 := Aside0.mk (hbox); have GW223 := Aside0.mk ((bz HB _ hg : w.heap.size ≤ gb223)); have GE223 := Aside0.mk ((bz HB _ hg : w.heap.size ≤ gb223)); have NB210_223 := Aside0.mk ((nl BK210 hg : gb210 ≠ gb223)); have NB223_210 := Aside0.mk ((ng BK210 hg : gb223 ≠ gb210)); have NB211_223 := Aside0.mk ((nl BK211 hg : gb211 ≠ gb223)); have NB223_211 := Aside0.mk ((ng BK211 hg : gb223 ≠ gb211)); have NB212_223 := Aside0.mk ((nl BK212 hg : gb212 ≠ gb223)); have NB223_212 := Aside0.mk ((ng BK212 hg : gb223 ≠ gb212)); have NB219_223 := Aside0.mk ((nl BK219 hg : gb219 ≠ gb223)); have NB223_219 := Aside0.mk ((ng BK219 hg : gb223 ≠ gb219)); have NB220_223 := Aside0.mk ((nl BK220 hg : gb220 ≠ gb223)); have NB223_220 := Aside0.mk ((ng BK220 hg : gb223 ≠ gb220)); replace BK210 := Aside0.mk (kb BK210 hb); replace BK211 := Aside0.mk (kb BK211 hb); replace BK212 := Aside0.mk (kb BK212 hb); replace BK219 := Aside0.mk (kb BK219 hb); replace BK220 := Aside0.mk (kb BK220 hb); replace HB := Aside0.mk (below_step (bw HB) hb); clear hb hbox hg; have hnb130 := NB223_210.out; have hnc130 := NB210_223.out; have hnb131 := NB223_211.out; have hnc131 := NB211_223.out; have hnb132 := NB223_212.out; have hnc132 := NB212_223.out; have hnb133 := NB223_219.out; have hnc133 := NB219_223.out; have hnb134 := NB223_220.out; have hnc134 := NB220_223.out; obtain ⟨hcz135_0, hcz135_1, hcz135_2, hcz135_3, hfz135_0, hfz135_1, hfz135_2, hfz135_3⟩ := cz4 BK223) | ((with_reducible refine gate_callee (f := 47) rfl ?_); refine goesL_ (some 76) rfl rfl Try.func47 (by kernel_rfl) rfl #[.agg #[.int .i64 x5_24, .int .i64 x6_33, .int .i64 (wrap64 ((wrap64 (x220000_43 - x5_24)) + 1)), .int .i64 (wrap64 ((wrap64 (t216 - x6_33)) + 1))]] rfl (by (try simp only [List.map_toArray, List.map_cons, List.map_nil]); first | done | rfl | (simp only [List.length_drop, List.length_take]; rfl)) ?_; (with_reducible refine (phalanxref03_May.calls x5_24 x6_33 (wrap64 ((wrap64 (x220000_43 - x5_24)) + 1)) (wrap64 ((wrap64 (t216 - x6_33)) + 1)) true _ A118.out).mono ?_); rintro e w136 ⟨rfl, hb⟩; refine ⟨_, rfl, ?_⟩; replace BK210 := Aside0.mk (blk_below (g := gb210) (o := .cells #[.int .i64 a0_0, .int .i64 a0_1, .int .i64 a0_2, .int .i64 a0_3] 47 (0, 0)) (by (with_reducible repeat (first | refine blk_drewN ?_ _ | refine blk_drew ?_ | refine blk_alloc ?_ _)); refine blk_far ?_ NB210_223.out _; (with_reducible repeat (first | refine blk_drewN ?_ _ | refine blk_drew ?_ | refine blk_alloc ?_ _)); refine blk_far ?_ NB210_223.out _; (with_reducible repeat (first | refine blk_drewN ?_ _ | refine blk_drew ?_ | refine blk_alloc ?_ _)); refine blk_far ?_ NB210_223.out _; (with_reducible repeat (first | refine blk_drewN ?_ _ | refine blk_drew ?_ | refine blk_alloc ?_ _)); refine blk_far ?_ NB210_223.out _; (with_reducible repeat (first | refine blk_drewN ?_ _ | refine blk_drew ?_ | refine blk_alloc ?_ _)); exact BK210.out) hb); replace BK211 := Aside0.mk (blk_below (g := gb211) (o := .cells #[.int .i64 a1_0, .int .i64 a1_1, .int .i64 a1_2, .int .i64 a1_3] 47 (0, 0)) (by (with_reducible repeat (first | refine blk_drewN ?_ _ | refine blk_drew ?_ | refine blk_alloc ?_ _)); refine blk_far ?_ NB211_223.out _; (with_reducible repeat (first | refine blk_drewN ?_ _ | refine blk_drew ?_ | refine blk_alloc ?_ _)); refine blk_far ?_ NB211_223.out _; (with_reducible repeat (first | refine blk_drewN ?_ _ | refine blk_drew ?_ | refine blk_alloc ?_ _)); refine blk_far ?_ NB211_223.out _; (with_reducible repeat (first | refine blk_drewN ?_ _ | refine blk_drew ?_ | refine blk_alloc ?_ _)); refine blk_far ?_ NB211_223.out _; (with_reducible repeat (first | refine blk_drewN ?_ _ | refine blk_drew ?_ | refine blk_alloc ?_ _)); exact BK211.out) hb); replace BK212 := Aside0.mk (blk_below (g := gb212) (o := .cells #[.int .i64 0, .int .i64 0, .int .i64 0, .int .i64 0] 47 (0, 0)) (by (with_reducible repeat (first | refine blk_drewN ?_ _ | refine blk_drew ?_ | refine blk_alloc ?_ _)); refine blk_far ?_ NB212_223.out _; (with_reducible repeat (first | refine blk_drewN ?_ _ | refine blk_drew ?_ | refine blk_alloc ?_ _)); refine blk_far ?_ NB212_223.out _; (with_reducible repeat (first | refine blk_drewN ?_ _ | refine blk_drew ?_ | refine blk_alloc ?_ _)); refine blk_far ?_ NB212_223.out _; (with_reducible repeat (first | refine blk_drewN ?_ _ | refine blk_drew ?_ | refine blk_alloc ?_ _)); refine blk_far ?_ NB212_223.out _; (with_reducible repeat (first | refine blk_drewN ?_ _ | refine blk_drew ?_ | refine blk_alloc ?_ _)); exact BK212.out) hb); replace BK219 := Aside0.mk (blk_below (g := gb219) (o := .cells #[.int .i64 x220000_43, .int .i64 t216] 25 (0, 0)) (by (with_reducible repeat (first | refine blk_drewN ?_ _ | refine blk_drew ?_ | refine blk_alloc ?_ _)); refine blk_far ?_ NB219_223.out _; (with_reducible repeat (first | refine blk_drewN ?_ _ | refine blk_drew ?_ | refine blk_alloc ?_ _)); refine blk_far ?_ NB219_223.out _; (with_reducible repeat (first | refine blk_drewN ?_ _ | refine blk_drew ?_ | refine blk_alloc ?_ _)); refine blk_far ?_ NB219_223.out _; (with_reducible repeat (first | refine blk_drewN ?_ _ | refine blk_drew ?_ | refine blk_alloc ?_ _)); refine blk_far ?_ NB219_223.out _; (with_reducible repeat (first | refine blk_drewN ?_ _ | refine blk_drew ?_ | refine blk_alloc ?_ _)); exact BK219.out) hb); replace BK220 := Aside0.mk (blk_below (g := gb220) (o := .cells #[.int .i64 t217, .int .i64 t218] 25 (0, 0)) (by (with_reducible repeat (first | refine blk_drewN ?_ _ | refine blk_drew ?_ | refine blk_alloc ?_ _)); refine blk_far ?_ NB220_223.out _; (with_reducible repeat (first | refine blk_drewN ?_ _ | refine blk_drew ?_ | refine blk_alloc ?_ _)); refine blk_far ?_ NB220_223.out _; (with_reducible repeat (first | refine blk_drewN ?_ _ | refine blk_drew ?_ | refine blk_alloc ?_ _)); refine blk_far ?_ NB220_223.out _; (with_reducible repeat (first | refine blk_drewN ?_ _ | refine blk_drew ?_ | refine blk_alloc ?_ _)); refine blk_far ?_ NB220_223.out _; (with_reducible repeat (first | refine blk_drewN ?_ _ | refine blk_drew ?_ | refine blk_alloc ?_ _)); exact BK220.out) hb); replace BK223 := Aside0.mk (blk_below (g := gb223) (o := .cells #[.int .i64 x5_24, .int .i64 x6_33, .int .i64 (wrap64 ((wrap64 (x220000_43 - x5_24)) + 1)), .int .i64 (wrap64 ((wrap64 (t216 - x6_33)) + 1))] 47 (0, 0)) (by (with_reducible repeat (first | refine blk_drewN ?_ _ | refine blk_drew ?_ | refine blk_alloc ?_ _)); refine blk_put (cs := #[.int .i64 x5_24, .int .i64 x6_33, .int .i64 (wrap64 ((wrap64 (x220000_43 - x5_24)) + 1)), .int .i64 0]) ?_ 3 _ rfl; (with_reducible repeat (first | refine blk_drewN ?_ _ | refine blk_drew ?_ | refine blk_alloc ?_ _)); refine blk_put (cs := #[.int .i64 x5_24, .int .i64 x6_33, .int .i64 0, .int .i64 0]) ?_ 2 _ rfl; (with_reducible repeat (first | refine blk_drewN ?_ _ | refine blk_drew ?_ | refine blk_alloc ?_ _)); refine blk_put (cs := #[.int .i64 x5_24, .int .i64 0, .int .i64 0, .int .i64 0]) ?_ 1 _ rfl; (with_reducible repeat (first | refine blk_drewN ?_ _ | refine blk_drew ?_ | refine blk_alloc ?_ _)); refine blk_put (cs := #[.int .i64 0, .int .i64 0, .int .i64 0, .int .i64 0]) ?_ 0 _ rfl; (with_reducible repeat (first | refine blk_drewN ?_ _ | refine blk_drew ?_ | refine blk_alloc ?_ _)); exact BK223.out) hb); replace HB := Aside0.mk (below_step (bw HB) hb); (try clear hb); (try clear hb2); (try clear hk); (try clear hi); obtain ⟨hcz137_0, hcz137_1, hcz137_2, hcz137_3, hfz137_0, hfz137_1, hfz137_2, hfz137_3⟩ := cz4 BK223; have hnb138 := NB212_210.out; have hnc138 := NB210_212.out; have hnb139 := NB212_211.out; have hnc139 := NB211_212.out; obtain ⟨hcz140_0, hcz140_1, hcz140_2, hcz140_3, hfz140_0, hfz140_1, hfz140_2, hfz140_3⟩ := cz4 BK212))
                        refine bodyPost_ret (results_cell_row rfl _ _ gb212 47 #[.int .i64 x5_24, .int .i64 x6_33, .int .i64 (wrap64 ((wrap64 (x220000_43 - x5_24)) + 1)), .int .i64 (wrap64 ((wrap64 (t216 - x6_33)) + 1))] (0, 0) _ rfl (by (with_reducible repeat (first | refine blk_drewN ?_ _ | refine blk_drew ?_ | refine blk_alloc ?_ _)); refine blk_put (cs := #[.int .i64 x5_24, .int .i64 x6_33, .int .i64 (wrap64 ((wrap64 (x220000_43 - x5_24)) + 1)), .int .i64 0]) ?_ 3 _ rfl; (with_reducible repeat (first | refine blk_drewN ?_ _ | refine blk_drew ?_ | refine blk_alloc ?_ _)); refine blk_put (cs := #[.int .i64 x5_24, .int .i64 x6_33, .int .i64 0, .int .i64 0]) ?_ 2 _ rfl; (with_reducible repeat (first | refine blk_drewN ?_ _ | refine blk_drew ?_ | refine blk_alloc ?_ _)); refine blk_put (cs := #[.int .i64 x5_24, .int .i64 0, .int .i64 0, .int .i64 0]) ?_ 1 _ rfl; (with_reducible repeat (first | refine blk_drewN ?_ _ | refine blk_drew ?_ | refine blk_alloc ?_ _)); refine blk_put (cs := #[.int .i64 0, .int .i64 0, .int .i64 0, .int .i64 0]) ?_ 0 _ rfl; (with_reducible repeat (first | refine blk_drewN ?_ _ | refine blk_drew ?_ | refine blk_alloc ?_ _)); exact BK212.out) Try.underlying47 rfl (by kernel_rfl)) rfl ?_
                        exact ⟨by first | rfl | (simp [errW_none, errW_some] <;> rfl) | (simp [*, errW_none, errW_some] <;> rfl) | (simp [max_mx, min_mn, *, errW_none, errW_some]), by repeat (first | (with_reducible first | exact HB.out | apply below_alloc | apply pw_below_drewN | apply below_drew1 | refine below_set ?_ GE210.out | refine below_set ?_ GE211.out | refine below_set ?_ GE212.out | refine below_set ?_ GE219.out | refine below_set ?_ GE220.out | refine below_set ?_ GE223.out) | exact HB.out)⟩
                      · replace c119 := Bool.eq_false_iff.mpr c119
                        subst c119
                        have H1 : (some (0, 0, 0, 0)) = some (r1, r2, r3, r4) := by rw [if_neg (show ¬ (false = true) by decide)] at H; exact H
                        clear H
                        have H := H1
                        clear H1
                        simp only [Option.some.injEq, Prod.mk.injEq] at H
                        obtain ⟨rfl, rfl, rfl, rfl⟩ := H
                        have hnb141 := NB220_210.out
                        have hnc141 := NB210_220.out
                        have hnb142 := NB220_211.out
                        have hnc142 := NB211_220.out
                        have hnb143 := NB220_212.out
                        have hnc143 := NB212_220.out
                        have hnb144 := NB220_219.out
                        have hnc144 := NB219_220.out
                        obtain ⟨hcz145_0, hcz145_1, hfz145_0, hfz145_1⟩ := cz2 BK220
                        have hnb146 := NB219_210.out
                        have hnc146 := NB210_219.out
                        have hnb147 := NB219_211.out
                        have hnc147 := NB211_219.out
                        have hnb148 := NB219_212.out
                        have hnc148 := NB212_219.out
                        obtain ⟨hcz149_0, hcz149_1, hfz149_0, hfz149_1⟩ := cz2 BK219
                        go_wp2_with (first | ((with_reducible refine gate_dst (N := 9) rfl ?_); refine box_event ?hg (N := 9) ?hd (cs := #[.int .i64 0, .int .i64 0, .int .i64 0, .int .i64 0]) (t := 47) ?hr ?_; (case hd => rfl); (case hg => rfl); (case hr => first | (go_simp; done) | (go_simp; rfl)); intro gb223 hg w150 hbox hb; have BK223 := Aside0.mk (hbox); have GW223 := Aside0.mk ((bz HB _ hg : w.heap.size ≤ gb223)); have GE223 := Aside0.mk ((bz HB _ hg : w.heap.size ≤ gb223)); have NB210_223 := Aside0.mk ((nl BK210 hg : gb210 ≠ gb223)); have NB223_210 := Aside0.mk ((ng BK210 hg : gb223 ≠ gb210)); have NB211_223 := Aside0.mk ((nl BK211 hg : gb211 ≠ gb223)); have NB223_211 := Aside0.mk ((ng BK211 hg : gb223 ≠ gb211)); have NB212_223 := Aside0.mk ((nl BK212 hg : gb212 ≠ gb223)); have NB223_212 := Aside0.mk ((ng BK212 hg : gb223 ≠ gb212)); have NB219_223 := Aside0.mk ((nl BK219 hg : gb219 ≠ gb223)); have NB223_219 := Aside0.mk ((ng BK219 hg : gb223 ≠ gb219)); have NB220_223 := Aside0.mk ((nl BK220 hg : gb220 ≠ gb223)); have NB223_220 := Aside0.mk ((ng BK220 hg : gb223 ≠ gb220)); replace BK210 := Aside0.mk (kb BK210 hb); replace BK211 := Aside0.mk (kb BK211 hb); replace BK212 := Aside0.mk (kb BK212 hb); replace BK219 := Aside0.mk (kb BK219 hb); replace BK220 := Aside0.mk (kb BK220 hb); replace HB := Aside0.mk (below_step (bw HB) hb); clear hb hbox hg; have hnb151 := NB223_210.out; have hnc151 := NB210_223.out; have hnb152 := NB223_211.out; have hnc152 := NB211_223.out; have hnb153 := NB223_212.out; have hnc153 := NB212_223.out; have hnb154 := NB223_219.out; have hnc154 := NB219_223.out; have hnb155 := NB223_220.out; have hnc155 := NB220_223.out; obtain ⟨hcz156_0, hcz156_1, hcz156_2, hcz156_3, hfz156_0, hfz156_1, hfz156_2, hfz156_3⟩ := cz4 BK223) | ((with_reducible refine gate_callee (f := 47) rfl ?_); refine goesL_ (some 76) rfl rfl Try.func47 (by kernel_rfl) rfl #[.agg #[.int .i64 x5_24, .int .i64 x6_33, .int .i64 (wrap64 ((wrap64 (x220000_43 - x5_24)) + 1)), .int .i64 (wrap64 ((wrap64 (t216 - x6_33)) + 1))]] rfl (by (try simp only [List.map_toArray, List.map_cons, List.map_nil]); first | done | rfl | (simp only [List.length_drop, List.length_take]; rfl)) ?_; (with_reducible refine (phalanxref03_May.calls x5_24 x6_33 (wrap64 ((wrap64 (x220000_43 - x5_24)) + 1)) (wrap64 ((wrap64 (t216 - x6_33)) + 1)) false _ A118.out).mono ?_); rintro e w157 ⟨rfl, hb⟩; refine ⟨_, rfl, ?_⟩; replace BK210 := Aside0.mk (blk_below (g := gb210) (o := .cells #[.int .i64 a0_0, .int .i64 a0_1, .int .i64 a0_2, .int .i64 a0_3] 47 (0, 0)) (by (with_reducible repeat (first | refine blk_drewN ?_ _ | refine blk_drew ?_ | refine blk_alloc ?_ _)); refine blk_far ?_ NB210_223.out _; (with_reducible repeat (first | refine blk_drewN ?_ _ | refine blk_drew ?_ | refine blk_alloc ?_ _)); refine blk_far ?_ NB210_223.out _; (with_reducible repeat (first | refine blk_drewN ?_ _ | refine blk_drew ?_ | refine blk_alloc ?_ _)); refine blk_far ?_ NB210_223.out _; (with_reducible repeat (first | refine blk_drewN ?_ _ | refine blk_drew ?_ | refine blk_alloc ?_ _)); refine blk_far ?_ NB210_223.out _; (with_reducible repeat (first | refine blk_drewN ?_ _ | refine blk_drew ?_ | refine blk_alloc ?_ _)); exact BK210.out) hb); replace BK211 := Aside0.mk (blk_below (g := gb211) (o := .cells #[.int .i64 a1_0, .int .i64 a1_1, .int .i64 a1_2, .int .i64 a1_3] 47 (0, 0)) (by (with_reducible repeat (first | refine blk_drewN ?_ _ | refine blk_drew ?_ | refine blk_alloc ?_ _)); refine blk_far ?_ NB211_223.out _; (with_reducible repeat (first | refine blk_drewN ?_ _ | refine blk_drew ?_ | refine blk_alloc ?_ _)); refine blk_far ?_ NB211_223.out _; (with_reducible repeat (first | refine blk_drewN ?_ _ | refine blk_drew ?_ | refine blk_alloc ?_ _)); refine blk_far ?_ NB211_223.out _; (with_reducible repeat (first | refine blk_drewN ?_ _ | refine blk_drew ?_ | refine blk_alloc ?_ _)); refine blk_far ?_ NB211_223.out _; (with_reducible repeat (first | refine blk_drewN ?_ _ | refine blk_drew ?_ | refine blk_alloc ?_ _)); exact BK211.out) hb); replace BK212 := Aside0.mk (blk_below (g := gb212) (o := .cells #[.int .i64 0, .int .i64 0, .int .i64 0, .int .i64 0] 47 (0, 0)) (by (with_reducible repeat (first | refine blk_drewN ?_ _ | refine blk_drew ?_ | refine blk_alloc ?_ _)); refine blk_far ?_ NB212_223.out _; (with_reducible repeat (first | refine blk_drewN ?_ _ | refine blk_drew ?_ | refine blk_alloc ?_ _)); refine blk_far ?_ NB212_223.out _; (with_reducible repeat (first | refine blk_drewN ?_ _ | refine blk_drew ?_ | refine blk_alloc ?_ _)); refine blk_far ?_ NB212_223.out _; (with_reducible repeat (first | refine blk_drewN ?_ _ | refine blk_drew ?_ | refine blk_alloc ?_ _)); refine blk_far ?_ NB212_223.out _; (with_reducible repeat (first | refine blk_drewN ?_ _ | refine blk_drew ?_ | refine blk_alloc ?_ _)); exact BK212.out) hb); replace BK219 := Aside0.mk (blk_below (g := gb219) (o := .cells #[.int .i64 x220000_43, .int .i64 t216] 25 (0, 0)) (by (with_reducible repeat (first | refine blk_drewN ?_ _ | refine blk_drew ?_ | refine blk_alloc ?_ _)); refine blk_far ?_ NB219_223.out _; (with_reducible repeat (first | refine blk_drewN ?_ _ | refine blk_drew ?_ | refine blk_alloc ?_ _)); refine blk_far ?_ NB219_223.out _; (with_reducible repeat (first | refine blk_drewN ?_ _ | refine blk_drew ?_ | refine blk_alloc ?_ _)); refine blk_far ?_ NB219_223.out _; (with_reducible repeat (first | refine blk_drewN ?_ _ | refine blk_drew ?_ | refine blk_alloc ?_ _)); refine blk_far ?_ NB219_223.out _; (with_reducible repeat (first | refine blk_drewN ?_ _ | refine blk_drew ?_ | refine blk_alloc ?_ _)); exact BK219.out) hb); replace BK220 := Aside0.mk (blk_below (g := gb220) (o := .cells #[.int .i64 t217, .int .i64 t218] 25 (0, 0)) (by (with_reducible repeat (first | refine blk_drewN ?_ _ | refine blk_drew ?_ | refine blk_alloc ?_ _)); refine blk_far ?_ NB220_223.out _; (with_reducible repeat (first | refine blk_drewN ?_ _ | refine blk_drew ?_ | refine blk_alloc ?_ _)); refine blk_far ?_ NB220_223.out _; (with_reducible repeat (first | refine blk_drewN ?_ _ | refine blk_drew ?_ | refine blk_alloc ?_ _)); refine blk_far ?_ NB220_223.out _; (with_reducible repeat (first | refine blk_drewN ?_ _ | refine blk_drew ?_ | refine blk_alloc ?_ _)); refine blk_far ?_ NB220_223.out _; (with_reducible repeat (first | refine blk_drewN ?_ _ | refine blk_drew ?_ | refine blk_alloc ?_ _)); exact BK220.out) hb); replace BK223 := Aside0.mk (blk_below (g := gb223) (o := .cells #[.int .i64 x5_24, .int .i64 x6_33, .int .i64 (wrap64 ((wrap64 (x220000_43 - x5_24)) + 1)), .int .i64 (wrap64 ((wrap64 (t216 - x6_33)) + 1))] 47 (0, 0)) (by (with_reducible repeat (first | refine blk_drewN ?_ _ | refine blk_drew ?_ | refine blk_alloc ?_ _)); refine blk_put (cs := #[.int .i64 x5_24, .int .i64 x6_33, .int .i64 (wrap64 ((wrap64 (x220000_43 - x5_24)) + 1)), .int .i64 0]) ?_ 3 _ rfl; (with_reducible repeat (first | refine blk_drewN ?_ _ | refine blk_drew ?_ | refine blk_alloc ?_ _)); refine blk_put (cs := #[.int .i64 x5_24, .int .i64 x6_33, .int .i64 0, .int .i64 0]) ?_ 2 _ rfl; (with_reducible repeat (first | refine blk_drewN ?_ _ | refine blk_drew ?_ | refine blk_alloc ?_ _)); refine blk_put (cs := #[.int .i64 x5_24, .int .i64 0, .int .i64 0, .int .i64 0]) ?_ 1 _ rfl; (with_reducible repeat (first | refine blk_drewN ?_ _ | refine blk_drew ?_ | refine blk_alloc ?_ _)); refine blk_put (cs := #[.int .i64 0, .int .i64 0, .int .i64 0, .int .i64 0]) ?_ 0 _ rfl; (with_reducible repeat (first | refine blk_drewN ?_ _ | refine blk_drew ?_ | refine blk_alloc ?_ _)); exact BK223.out) hb); replace HB := Aside0.mk (below_step (bw HB) hb); (try clear hb); (try clear hb2); (try clear hk); (try clear hi); have hnb158 := NB212_210.out; have hnc158 := NB210_212.out; have hnb159 := NB212_211.out; have hnc159 := NB211_212.out; obtain ⟨hcz160_0, hcz160_1, hcz160_2, hcz160_3, hfz160_0, hfz160_1, hfz160_2, hfz160_3⟩ := cz4 BK212))
                        refine bodyPost_ret (results_cell_row rfl _ _ gb212 47 #[.int .i64 0, .int .i64 0, .int .i64 0, .int .i64 0] (0, 0) _ rfl (by (with_reducible repeat (first | refine blk_drewN ?_ _ | refine blk_drew ?_ | refine blk_alloc ?_ _)); refine blk_put (cs := #[.int .i64 0, .int .i64 0, .int .i64 0, .int .i64 0]) ?_ 3 _ rfl; (with_reducible repeat (first | refine blk_drewN ?_ _ | refine blk_drew ?_ | refine blk_alloc ?_ _)); refine blk_put (cs := #[.int .i64 0, .int .i64 0, .int .i64 0, .int .i64 0]) ?_ 2 _ rfl; (with_reducible repeat (first | refine blk_drewN ?_ _ | refine blk_drew ?_ | refine blk_alloc ?_ _)); refine blk_put (cs := #[.int .i64 0, .int .i64 0, .int .i64 0, .int .i64 0]) ?_ 1 _ rfl; (with_reducible repeat (first | refine blk_drewN ?_ _ | refine blk_drew ?_ | refine blk_alloc ?_ _)); refine blk_put (cs := #[.int .i64 0, .int .i64 0, .int .i64 0, .int .i64 0]) ?_ 0 _ rfl; (with_reducible repeat (first | refine blk_drewN ?_ _ | refine blk_drew ?_ | refine blk_alloc ?_ _)); exact BK212.out) Try.underlying47 rfl (by kernel_rfl)) rfl ?_
                        exact ⟨by first | rfl | (simp [errW_none, errW_some] <;> rfl) | (simp [*, errW_none, errW_some] <;> rfl) | (simp [max_mx, min_mn, *, errW_none, errW_some]), by repeat (first | (with_reducible first | exact HB.out | apply below_alloc | apply pw_below_drewN | apply below_drew1 | refine below_set ?_ GE210.out | refine below_set ?_ GE211.out | refine below_set ?_ GE212.out | refine below_set ?_ GE219.out | refine below_set ?_ GE220.out | refine below_set ?_ GE223.out) | exact HB.out)⟩

end Go.Proofs.Ytjehijlpdeadiaa.P17b
