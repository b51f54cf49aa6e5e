/- SlotsBoxes: for any group and any place, package slots and the reference tell one and the same least rectangle and error. Conditions: none. -/
import Derived.Test.YtjehijlpdeadiaaM17b
set_option linter.unusedVariables false
set_option linter.unusedSimpArgs false
namespace Go.Proofs.Ytjehijlpdeadiaa.Pure
open Go.RowKit Go.Proofs.Ytjehijlpdeadiaa.P17b Go.Proofs.Ytjehijlpdeadiaa.M17b Go.Proofs.YtjehijlpdeadiaaW.PrintWords

theorem lp_facts : ∀ (l : List S23) (p0 p : Int), lp l p0 = some p → p0 ≤ p ∧ (p0 ≤ 4 → p ≤ 4) ∧ ∀ j, j < l.length → may (rd_T23 l (j : Int)) = true ∧ (rd_T23 l (j : Int)).f1 ≤ p
  | [], p0, p, h => by
    simp only [lp, Option.some.injEq] at h
    subst h
    exact ⟨Int.le_refl _, id, fun j hj => by simp at hj⟩
  | s :: t, p0, p, h => by
    rw [lp] at h
    by_cases hm : may s = true
    · rw [if_pos hm] at h
      obtain ⟨h1, h2, h3⟩ := lp_facts t _ p h
      have hs : s.f1 ≤ 4 := by
        unfold may at hm
        simp only [Bool.and_eq_true, decide_eq_true_eq] at hm
        exact hm.2.2.2
      have a1 : p0 ≤ mx p0 s.f1 := by unfold mx; split <;> omega
      have a2 : s.f1 ≤ mx p0 s.f1 := by unfold mx; split <;> omega
      have a3 : p0 ≤ 4 → mx p0 s.f1 ≤ 4 := by unfold mx; split <;> omega
      refine ⟨by omega, fun h => h2 (a3 h), fun j hj => ?_⟩
      cases j with
      | zero => exact ⟨hm, by show s.f1 ≤ p; omega⟩
      | succ j =>
        have e : rd_T23 (s :: t) ((j + 1 : Nat) : Int) = rd_T23 t (j : Int) := by unfold rd_T23; rw [Int.toNat_natCast, Int.toNat_natCast]; rfl
        rw [e]
        exact h3 j (by simpa using hj)
    · rw [if_neg hm] at h
      exact absurd h (by simp)
theorem rd_fr (c r p X Y : Int) : ∀ (m : Nat) (i : Int) (j : Nat), j < m → rd_T25 (fr c r p X Y i m) (j : Int) = cl c r p X Y (i + j)
  | m + 1, i, 0, h => by rw [fr]; show cl c r p X Y i = _; rw [show i + ((0 : Nat) : Int) = i by omega]
  | m + 1, i, j + 1, h => by
    have e : rd_T25 (fr c r p X Y i (m + 1)) ((j + 1 : Nat) : Int) = rd_T25 (fr c r p X Y (i + 1) m) (j : Int) := by unfold rd_T25; rw [Int.toNat_natCast, Int.toNat_natCast]; rfl
    rw [e, rd_fr c r p X Y m (i + 1) j (by omega)]
    congr 1
    omega

theorem mul_small {u p : Int} (u0 : -100 ≤ u) (u1 : u ≤ 100) (p0 : 0 ≤ p) (p1 : p ≤ 4) : -400 ≤ u * p ∧ u * p ≤ 400 := by
  have : p = 0 ∨ p = 1 ∨ p = 2 ∨ p = 3 ∨ p = 4 := by omega
  rcases this with rfl | rfl | rfl | rfl | rfl <;> omega
theorem may_size {x : S23} (hm : may x = true) : 1 ≤ x.f1 ∧ x.f1 ≤ 4 := by
  unfold may at hm
  simp only [Bool.and_eq_true, decide_eq_true_eq] at hm
  exact hm.2.2


/-- The cell of a unit, where nothing wraps. -/
theorem cl_at {c r p i X Y : Int} (c0 : 0 < c) (c1 : c ≤ 8) (r0 : 0 < r) (r1 : r ≤ 8) (i0 : 0 ≤ i) (i1 : i ≤ 64) (p0 : 0 ≤ p) (p1 : p ≤ 4) (X0 : -128 ≤ X) (X1 : X ≤ 256) (Y0 : -128 ≤ Y) (Y1 : Y ≤ 256) :
    -600 ≤ (cl c r p X Y i).f0 ∧ (cl c r p X Y i).f0 ≤ 700 ∧ -600 ≤ (cl c r p X Y i).f1 ∧ (cl c r p X Y i).f1 ≤ 700 := by
  have m0 : 0 ≤ i % c := Int.emod_nonneg _ (by omega)
  have m1 : i % c < c := Int.emod_lt_of_pos _ c0
  have d0 : 0 ≤ i / c := Int.ediv_nonneg i0 (by omega)
  have d1 : i / c ≤ 64 := Int.le_trans (Int.ediv_le_self _ i0) i1
  have b1 := mul_small (u := i % c - c / 2) (p := p) (by omega) (by omega) p0 p1
  have b2 := mul_small (u := i / c - r / 2) (p := p) (by omega) (by omega) p0 p1
  unfold cl
  rw [Int.tmod_eq_emod_of_nonneg i0, Int.tdiv_eq_ediv_of_nonneg i0, w_small (n := i / c) (by omega) (by omega), w_small (n := i % c - c / 2) (by omega) (by omega), w_small (n := i / c - r / 2) (by omega) (by omega), w_small (n := (i % c - c / 2) * p) (by omega) (by omega), w_small (n := (i / c - r / 2) * p) (by omega) (by omega), w_small (n := X + (i % c - c / 2) * p) (by omega) (by omega), w_small (n := Y + (i / c - r / 2) * p) (by omega) (by omega)]
  exact ⟨by show _ ≤ X + _; omega, by show X + _ ≤ _; omega, by show _ ≤ Y + _; omega, by show Y + _ ≤ _; omega⟩

/-- A rectangle: its first cell, its width, its height. -/
abbrev R4 := Int × Int × Int × Int
/-- A rectangle near nought. -/
structure Sm (x y w h : Int) : Prop where
  x0 : -600 ≤ x
  w0 : 1 ≤ w
  xw : x + w ≤ 710
  y0 : -600 ≤ y
  h0 : 1 ≤ h
  yh : y + h ≤ 710
theorem w_mid {n : Int} (h0 : -100000 ≤ n) (h1 : n ≤ 100000) : wrap64 n = n := by unfold wrap64; omega
theorem near3 {x : Int} (h0 : -100000 ≤ x) (h1 : x ≤ 100000) : phalanxref03_near.f x = some true := by
  unfold phalanxref03_near.f
  rw [if_pos (by omega), decide_eq_true (by omega)]
theorem near2 {x y : Int} (h0 : -100000 ≤ x) (h1 : x ≤ 100000) (g0 : -100000 ≤ y) (g1 : y ≤ 100000) : phalanxref03_Near.f x y = some true := by
  unfold phalanxref03_Near.f
  rw [near3 h0 h1, Option.bind_some, if_pos rfl, near3 g0 g1, Option.bind_some]
theorem last3 {x y w h : Int} (s : Sm x y w h) : phalanxref03_Last.f x y w h = some (x + w - 1, y + h - 1) := by
  have := s.x0; have := s.w0; have := s.xw; have := s.y0; have := s.h0; have := s.yh
  unfold phalanxref03_Last.f
  rw [w_mid (n := x + w) (by omega) (by omega), w_mid (n := y + h) (by omega) (by omega), w_mid (n := x + w - 1) (by omega) (by omega), w_mid (n := y + h - 1) (by omega) (by omega)]
theorem may3 {x y w h : Int} (s : Sm x y w h) : phalanxref03_May.f x y w h = some true := by
  have := s.x0; have := s.w0; have := s.xw; have := s.y0; have := s.h0; have := s.yh
  unfold phalanxref03_May.f
  rw [near2 (by omega) (by omega) (by omega) (by omega), Option.bind_some, if_pos rfl, if_pos (by omega), if_pos (by omega), if_pos (by omega), if_pos (by omega), last3 s, Option.bind_some, near2 (by omega) (by omega) (by omega) (by omega), Option.bind_some]
theorem side1 {n : Int} (h0 : 1 ≤ n) (h1 : n ≤ 100000) : cell_side.f n = some true := by
  unfold cell_side.f
  rw [if_pos (by omega), decide_eq_true (by omega)]
theorem cmay {x y w h : Int} (s : Sm x y w h) : cell_May.f x y w h = some true := by
  have := s.x0; have := s.w0; have := s.xw; have := s.y0; have := s.h0; have := s.yh
  have n2 : ∀ {x y : Int}, -100000 ≤ x → x ≤ 100000 → -100000 ≤ y → y ≤ 100000 → cell_Near.f x y = some true := fun a b c d => near2 a b c d
  have e : cell_last.f x y w h = some (x + w - 1, y + h - 1) := last3 s
  unfold cell_May.f
  rw [n2 (by omega) (by omega) (by omega) (by omega), Option.bind_some, if_pos rfl, side1 (by omega) (by omega), Option.bind_some, if_pos rfl, side1 (by omega) (by omega), Option.bind_some, if_pos rfl, e, Option.bind_some, n2 (by omega) (by omega) (by omega) (by omega), Option.bind_some]
/-- The least rectangle that has two. -/
def hl (a b : R4) : R4 := (mn a.1 b.1, mn a.2.1 b.2.1, mx (a.1 + a.2.2.1 - 1) (b.1 + b.2.2.1 - 1) - mn a.1 b.1 + 1, mx (a.2.1 + a.2.2.2 - 1) (b.2.1 + b.2.2.2 - 1) - mn a.2.1 b.2.1 + 1)
/-- A rectangle near nought. -/
def Smr (a : R4) : Prop := Sm a.1 a.2.1 a.2.2.1 a.2.2.2
theorem mnmx (a b : Int) : (mn a b ≤ a ∧ mn a b ≤ b ∧ (mn a b = a ∨ mn a b = b)) ∧ (a ≤ mx a b ∧ b ≤ mx a b ∧ (mx a b = a ∨ mx a b = b)) := by
  unfold mn mx
  by_cases h : a < b
  · rw [if_pos h, if_neg (by omega)]; omega
  · rw [if_neg h]; split <;> omega
theorem hl_sm {a b : R4} (ha : Smr a) (hb : Smr b) : Smr (hl a b) := by
  obtain ⟨a1, a2, a3, a4⟩ := a
  obtain ⟨b1, b2, b3, b4⟩ := b
  have p := ha.x0; have q := ha.w0; have r := ha.xw; have s := ha.y0; have t := ha.h0; have u := ha.yh
  have p' := hb.x0; have q' := hb.w0; have r' := hb.xw; have s' := hb.y0; have t' := hb.h0; have u' := hb.yh
  have m1 := (mnmx a1 b1).1
  have m2 := (mnmx a2 b2).1
  have m3 := (mnmx (a1 + a3 - 1) (b1 + b3 - 1)).2
  have m4 := (mnmx (a2 + a4 - 1) (b2 + b4 - 1)).2
  simp only at p q r s t u p' q' r' s' t' u'
  refine ⟨?_, ?_, ?_, ?_, ?_, ?_⟩ <;> simp only [hl] <;> omega
theorem hl_self (a : R4) : hl a a = a := by
  obtain ⟨a1, a2, a3, a4⟩ := a
  have m1 := (mnmx a1 a1).1
  have m2 := (mnmx a2 a2).1
  have m3 := (mnmx (a1 + a3 - 1) (a1 + a3 - 1)).2
  have m4 := (mnmx (a2 + a4 - 1) (a2 + a4 - 1)).2
  have e1 : mn a1 a1 = a1 := by omega
  have e2 : mn a2 a2 = a2 := by omega
  have e3 : mx (a1 + a3 - 1) (a1 + a3 - 1) - mn a1 a1 + 1 = a3 := by omega
  have e4 : mx (a2 + a4 - 1) (a2 + a4 - 1) - mn a2 a2 + 1 = a4 := by omega
  unfold hl
  simp only [e1, e2] at e3 e4 ⊢
  rw [e3, e4]
theorem ev_hull {a b : R4} (ha : Smr a) (hb : Smr b) : Ev (fun k => cell_Hull.f k a.1 a.2.1 a.2.2.1 a.2.2.2 b.1 b.2.1 b.2.2.1 b.2.2.2) (hl a b) := by
  have hs := hl_sm ha hb
  have e0 : ∀ k, cell_Hull.f k a.1 a.2.1 a.2.2.1 a.2.2.2 b.1 b.2.1 b.2.2.1 b.2.2.2 = cell_Hull.j0 k false a.1 a.2.1 a.2.2.1 a.2.2.2 b.1 b.2.1 b.2.2.1 b.2.2.2 := by
    intro k
    rw [cell_Hull.f, cmay ha, Option.bind_some, if_pos rfl, cmay hb, Option.bind_some]
    rfl
  refine Ev.congr e0 ?_
  have la : cell_last.f a.1 a.2.1 a.2.2.1 a.2.2.2 = some (a.1 + a.2.2.1 - 1, a.2.1 + a.2.2.2 - 1) := last3 ha
  have lb : cell_last.f b.1 b.2.1 b.2.2.1 b.2.2.2 = some (b.1 + b.2.2.1 - 1, b.2.1 + b.2.2.2 - 1) := last3 hb
  have q1 := hs.x0; have q2 := hs.w0; have q3 := hs.xw; have q4 := hs.y0; have q5 := hs.h0; have q6 := hs.yh
  have bt : cell_between.f (mn a.1 b.1) (mn a.2.1 b.2.1) (mx (a.1 + a.2.2.1 - 1) (b.1 + b.2.2.1 - 1)) (mx (a.2.1 + a.2.2.2 - 1) (b.2.1 + b.2.2.2 - 1)) = some (hl a b) := by
    unfold cell_between.f
    simp only [hl] at q1 q2 q3 q4 q5 q6 ⊢
    rw [w_mid (n := mx (a.1 + a.2.2.1 - 1) (b.1 + b.2.2.1 - 1) - mn a.1 b.1) (by omega) (by omega), w_mid (n := mx (a.2.1 + a.2.2.2 - 1) (b.2.1 + b.2.2.2 - 1) - mn a.2.1 b.2.1) (by omega) (by omega), w_mid (n := mx (a.1 + a.2.2.1 - 1) (b.1 + b.2.2.1 - 1) - mn a.1 b.1 + 1) (by omega) (by omega), w_mid (n := mx (a.2.1 + a.2.2.2 - 1) (b.2.1 + b.2.2.2 - 1) - mn a.2.1 b.2.1 + 1) (by omega) (by omega)]
  have e : ∀ k, cell_Hull.j0 (k + 1) false a.1 a.2.1 a.2.2.1 a.2.2.2 b.1 b.2.1 b.2.2.1 b.2.2.2 = some (hl a b) := by
    intro k
    rw [cell_Hull.j0, if_neg (by decide), la, Option.bind_some, lb, Option.bind_some, bt, Option.bind_some, cmay hs, Option.bind_some, if_pos rfl]
  exact Ev.step e (Ev.now _)
theorem ev_hullr {a b : R4} (ha : Smr a) (hb : Smr b) : Ev (fun k => phalanxref03_Hull.f k a.1 a.2.1 a.2.2.1 a.2.2.2 b.1 b.2.1 b.2.2.1 b.2.2.2) (hl a b) := by
  have hs := hl_sm ha hb
  have e0 : ∀ k, phalanxref03_Hull.f k a.1 a.2.1 a.2.2.1 a.2.2.2 b.1 b.2.1 b.2.2.1 b.2.2.2 = phalanxref03_Hull.j0 k false a.1 a.2.1 a.2.2.1 a.2.2.2 b.1 b.2.1 b.2.2.1 b.2.2.2 := by
    intro k
    rw [phalanxref03_Hull.f, may3 ha, Option.bind_some, if_pos rfl, may3 hb, Option.bind_some]
    rfl
  refine Ev.congr e0 ?_
  have la := last3 ha
  have lb := last3 hb
  have q1 := hs.x0; have q2 := hs.w0; have q3 := hs.xw; have q4 := hs.y0; have q5 := hs.h0; have q6 := hs.yh
  have j3 : ∀ X Y lx u, X = (hl a b).1 → Y = (hl a b).2.1 → lx = mx (a.1 + a.2.2.1 - 1) (b.1 + b.2.2.1 - 1) → Ev (fun k => phalanxref03_Hull.j3 k X Y lx (a.2.1 + a.2.2.2 - 1) u (b.2.1 + b.2.2.2 - 1)) (hl a b) := by
    intro X Y lx u hX hY hl'
    subst hX hY hl'
    have wx : wrap64 (wrap64 (mx (a.1 + a.2.2.1 - 1) (b.1 + b.2.2.1 - 1) - (hl a b).1) + 1) = (hl a b).2.2.1 := by
      simp only [hl] at q1 q2 q3 ⊢
      rw [w_mid (n := mx (a.1 + a.2.2.1 - 1) (b.1 + b.2.2.1 - 1) - mn a.1 b.1) (by omega) (by omega), w_mid (by omega) (by omega)]
    have wy : wrap64 (wrap64 (mx (a.2.1 + a.2.2.2 - 1) (b.2.1 + b.2.2.2 - 1) - (hl a b).2.1) + 1) = (hl a b).2.2.2 := by
      simp only [hl] at q4 q5 q6 ⊢
      rw [w_mid (n := mx (a.2.1 + a.2.2.2 - 1) (b.2.1 + b.2.2.2 - 1) - mn a.2.1 b.2.1) (by omega) (by omega), w_mid (by omega) (by omega)]
    have e : ∀ k, phalanxref03_Hull.j3 (k + 1) (hl a b).1 (hl a b).2.1 (mx (a.1 + a.2.2.1 - 1) (b.1 + b.2.2.1 - 1)) (a.2.1 + a.2.2.2 - 1) u (b.2.1 + b.2.2.2 - 1) = some (hl a b) := by
      intro k
      rw [phalanxref03_Hull.j3, wx]
      by_cases c : b.2.1 + b.2.2.2 - 1 > a.2.1 + a.2.2.2 - 1
      · have ey : mx (a.2.1 + a.2.2.2 - 1) (b.2.1 + b.2.2.2 - 1) = b.2.1 + b.2.2.2 - 1 := if_pos c
        rw [ey] at wy
        rw [if_pos c, wy, may3 hs, Option.bind_some, if_pos rfl]
      · have ey : mx (a.2.1 + a.2.2.2 - 1) (b.2.1 + b.2.2.2 - 1) = a.2.1 + a.2.2.2 - 1 := if_neg c
        rw [ey] at wy
        rw [if_neg c, wy, may3 hs, Option.bind_some, if_pos rfl]
    exact Ev.step e (Ev.now _)
  have j2 : ∀ X Y, X = (hl a b).1 → Y = (hl a b).2.1 → Ev (fun k => phalanxref03_Hull.j2 k X Y a.1 a.2.1 a.2.2.1 a.2.2.2 b.1 b.2.1 b.2.2.1 b.2.2.2) (hl a b) := by
    intro X Y hX hY
    have e : ∀ k, phalanxref03_Hull.j2 (k + 1) X Y a.1 a.2.1 a.2.2.1 a.2.2.2 b.1 b.2.1 b.2.2.1 b.2.2.2 = if b.1 + b.2.2.1 - 1 > a.1 + a.2.2.1 - 1 then (phalanxref03_Hull.j3 k X Y (b.1 + b.2.2.1 - 1) (a.2.1 + a.2.2.2 - 1) (b.1 + b.2.2.1 - 1) (b.2.1 + b.2.2.2 - 1)) else (phalanxref03_Hull.j3 k X Y (a.1 + a.2.2.1 - 1) (a.2.1 + a.2.2.2 - 1) (b.1 + b.2.2.1 - 1) (b.2.1 + b.2.2.2 - 1)) := by
      intro k
      rw [phalanxref03_Hull.j2, la, Option.bind_some, lb, Option.bind_some]
    refine Ev.step e ?_
    by_cases c : b.1 + b.2.2.1 - 1 > a.1 + a.2.2.1 - 1
    · exact Ev.congr (fun k => if_pos c) (j3 _ _ _ _ hX hY (if_pos c).symm)
    · exact Ev.congr (fun k => if_neg c) (j3 _ _ _ _ hX hY (if_neg c).symm)
  have j1 : ∀ X, X = (hl a b).1 → Ev (fun k => phalanxref03_Hull.j1 k X a.2.1 a.1 a.2.1 a.2.2.1 a.2.2.2 b.1 b.2.1 b.2.2.1 b.2.2.2) (hl a b) := by
    intro X hX
    have e : ∀ k, phalanxref03_Hull.j1 (k + 1) X a.2.1 a.1 a.2.1 a.2.2.1 a.2.2.2 b.1 b.2.1 b.2.2.1 b.2.2.2 = if b.2.1 < a.2.1 then (phalanxref03_Hull.j2 k X b.2.1 a.1 a.2.1 a.2.2.1 a.2.2.2 b.1 b.2.1 b.2.2.1 b.2.2.2) else (phalanxref03_Hull.j2 k X a.2.1 a.1 a.2.1 a.2.2.1 a.2.2.2 b.1 b.2.1 b.2.2.1 b.2.2.2) := fun k => by rw [phalanxref03_Hull.j1]
    refine Ev.step e ?_
    by_cases c : b.2.1 < a.2.1
    · exact Ev.congr (fun k => if_pos c) (j2 _ _ hX (if_pos c).symm)
    · exact Ev.congr (fun k => if_neg c) (j2 _ _ hX (if_neg c).symm)
  have e : ∀ k, phalanxref03_Hull.j0 (k + 1) false a.1 a.2.1 a.2.2.1 a.2.2.2 b.1 b.2.1 b.2.2.1 b.2.2.2 = if b.1 < a.1 then (phalanxref03_Hull.j1 k b.1 a.2.1 a.1 a.2.1 a.2.2.1 a.2.2.2 b.1 b.2.1 b.2.2.1 b.2.2.2) else (phalanxref03_Hull.j1 k a.1 a.2.1 a.1 a.2.1 a.2.2.1 a.2.2.2 b.1 b.2.1 b.2.2.1 b.2.2.2) := fun k => by rw [phalanxref03_Hull.j0, if_neg (by decide)]
  refine Ev.step e ?_
  by_cases c : b.1 < a.1
  · exact Ev.congr (fun k => if_pos c) (j1 _ (if_pos c).symm)
  · exact Ev.congr (fun k => if_neg c) (j1 _ (if_neg c).symm)

/-- The footprint at i. -/
def ft (l : List S23) (L : List S25) (i : Nat) : R4 := ((rd_T25 L (i : Int)).f0, (rd_T25 L (i : Int)).f1, (rd_T23 l (i : Int)).f1, (rd_T23 l (i : Int)).f1)
/-- A rectangle and m footprints from i. -/
def gr (l : List S23) (L : List S25) : Nat → Nat → R4 → R4
  | _, 0, b => b
  | i, m + 1, b => gr l L (i + 1) m (hl b (ft l L i))
/-- A group and its layout, all near nought. -/
structure Laid (l : List S23) (L : List S25) (n : Nat) : Prop where
  len : l.length = n
  lenL : L.length = n
  n1 : 1 ≤ n
  n2 : n ≤ 64
  may : ∀ j, j < n → M17b.may (rd_T23 l (j : Int)) = true
  sm : ∀ j, j < n → Smr (ft l L j)
theorem cfoot {l : List S23} {L : List S25} {n : Nat} (h : Laid l L n) {i : Nat} (hi : i < n) : class_Foot.f (rd_T23 l (i : Int)).f0 (rd_T23 l (i : Int)).f1 (rd_T25 L (i : Int)).f0 (rd_T25 L (i : Int)).f1 = some (ft l L i) := by
  unfold class_Foot.f
  have e : cell_May.f (rd_T25 L (i : Int)).f0 (rd_T25 L (i : Int)).f1 (rd_T23 l (i : Int)).f1 (rd_T23 l (i : Int)).f1 = some true := cmay (h.sm i hi)
  rw [may_slots, h.may i hi, Option.bind_some, if_pos rfl, e, Option.bind_some, if_pos rfl]
  rfl
theorem sb_loop {l : List S23} {L : List S25} {n : Nat} (h : Laid l L n) : ∀ (m i : Nat) (b : R4), Smr b → i + m = n →
    Ev (fun k => slots_Box.l0 k l L (n : Int) (i : Int) b.1 b.2.1 b.2.2.1 b.2.2.2) ((gr l L i m b).1, (gr l L i m b).2.1, (gr l L i m b).2.2.1, (gr l L i m b).2.2.2, 0)
  | 0, i, b, hb, e => by
    have e2 : ∀ k, slots_Box.l0 (k + 1) l L (n : Int) (i : Int) b.1 b.2.1 b.2.2.1 b.2.2.2 = some (b.1, b.2.1, b.2.2.1, b.2.2.2, 0) := fun k => by rw [slots_Box.l0, if_neg (by omega)]
    exact Ev.step e2 (Ev.now _)
  | m + 1, i, b, hb, e => by
    have h1 := h.len
    have h2 := h.lenL
    have h3 := h.n2
    have e2 : ∀ k, slots_Box.l0 (k + 1) l L (n : Int) (i : Int) b.1 b.2.1 b.2.2.1 b.2.2.2 = (cell_Hull.f k b.1 b.2.1 b.2.2.1 b.2.2.2 (ft l L i).1 (ft l L i).2.1 (ft l L i).2.2.1 (ft l L i).2.2.2).bind fun bt181 => (slots_Box.l0 k l L (n : Int) ((i + 1 : Nat) : Int) bt181.1 bt181.2.1 bt181.2.2.1 bt181.2.2.2) := by
      intro k
      rw [slots_Box.l0, if_pos (by omega), if_pos (by omega), if_pos (by omega), if_pos (by omega), cfoot h (by omega), Option.bind_some, w_mid (n := (i : Int) + 1) (by omega) (by omega)]
      rfl
    exact Ev.step e2 (Ev.bind (ev_hull hb (h.sm i (by omega))) (sb_loop h m (i + 1) _ (hl_sm hb (h.sm i (by omega))) (by omega)))
theorem sb_loopr {l : List S23} {L : List S25} {n : Nat} (h : Laid l L n) : ∀ (m i : Nat) (b : R4), Smr b → i + m = n →
    Ev (fun k => phalanxref17_Box.l0 k l L (i : Int) b.1 b.2.1 b.2.2.1 b.2.2.2) ((gr l L i m b).1, (gr l L i m b).2.1, (gr l L i m b).2.2.1, (gr l L i m b).2.2.2, 0)
  | 0, i, b, hb, e => by
    have h2 := h.lenL
    have e2 : ∀ k, phalanxref17_Box.l0 (k + 1) l L (i : Int) b.1 b.2.1 b.2.2.1 b.2.2.2 = some (b.1, b.2.1, b.2.2.1, b.2.2.2, 0) := fun k => by rw [phalanxref17_Box.l0, if_neg (by omega)]
    exact Ev.step e2 (Ev.now _)
  | m + 1, i, b, hb, e => by
    have h1 := h.len
    have h2 := h.lenL
    have h3 := h.n2
    have e2 : ∀ k, phalanxref17_Box.l0 (k + 1) l L (i : Int) b.1 b.2.1 b.2.2.1 b.2.2.2 = (phalanxref03_Hull.f k b.1 b.2.1 b.2.2.1 b.2.2.2 (ft l L i).1 (ft l L i).2.1 (ft l L i).2.2.1 (ft l L i).2.2.2).bind fun bt238 => (phalanxref17_Box.l0 k l L ((i + 1 : Nat) : Int) bt238.1 bt238.2.1 bt238.2.2.1 bt238.2.2.2) := by
      intro k
      rw [phalanxref17_Box.l0, if_pos (by omega), if_pos (by omega), if_pos (by omega), w_mid (n := (i : Int) + 1) (by omega) (by omega)]
      rfl
    exact Ev.step e2 (Ev.bind (ev_hullr hb (h.sm i (by omega))) (sb_loopr h m (i + 1) _ (hl_sm hb (h.sm i (by omega))) (by omega)))

theorem lay_cases (l : List S23) (X Y : Int) : (∃ e, e ≠ 0 ∧ lay l X Y = ([], e)) ∨ ∃ L, lay l X Y = (L, 0) ∧ Laid l L l.length := by
  unfold lay
  by_cases h64 : 64 < l.length
  · exact .inl ⟨3, by decide, if_pos h64⟩
  · rw [if_neg h64]
    cases hp : lp l 0 with
    | none => exact .inl ⟨1, by decide, rfl⟩
    | some p =>
      by_cases hxy : l.length = 0 ∨ nearB X = false ∨ nearB Y = false
      · exact .inl ⟨1, by decide, if_pos hxy⟩
      · refine .inr ⟨_, if_neg hxy, ?_⟩
        have hX : nearB X = true := by cases h : nearB X with | true => rfl | false => exact absurd (.inr (.inl h)) hxy
        have hY : nearB Y = true := by cases h : nearB Y with | true => rfl | false => exact absurd (.inr (.inr h)) hxy
        unfold nearB at hX hY
        simp only [Bool.and_eq_true, decide_eq_true_eq] at hX hY
        rcases col_facts l.length (List.mem_range.2 (by omega)) with h | ⟨f1, f2, f3, f4, f5, f6, f7⟩
        · omega
        obtain ⟨q0, q1, q2⟩ := lp_facts l 0 p hp
        refine ⟨rfl, fr_length _ _ _ _ _ _ _, by omega, by omega, fun j hj => (q2 j hj).1, fun j hj => ?_⟩
        have hm := may_size (q2 j hj).1
        obtain ⟨a1, a2, a3, a4⟩ := cl_at (r := rows l.length) (p := p) (i := (j : Int)) f1 f2 f6 f7 (by omega) (by omega) q0 (q1 (by decide)) hX.1 hX.2 hY.1 hY.2
        have er := rd_fr (col l.length) (rows l.length) p X Y l.length 0 j hj
        rw [Int.zero_add] at er
        unfold ft
        rw [er]
        have b2 : (cl (col l.length) (rows l.length) p X Y (j : Int)).f0 + (rd_T23 l (j : Int)).f1 ≤ 710 := by have := hm.2; omega
        have b4 : (cl (col l.length) (rows l.length) p X Y (j : Int)).f1 + (rd_T23 l (j : Int)).f1 ≤ 710 := by have := hm.2; omega
        exact ⟨a1, hm.1, b2, a3, hm.1, b4⟩

theorem ev_box {l : List S23} {X Y : Int} {R : Int × Int × Int × Int × Int} (h1 : Ev (fun k => slots_Box.f k l X Y) R) (h2 : Ev (fun k => phalanxref17_Box.f k l X Y) R) : Ev (fun k => phalanxlaw17_SlotsBoxes.f k l X Y) true := by
  refine Ev.bind h1 (Ev.bind h2 ?_)
  exact Ev.congr (fun k => (if_pos (by simp)).trans (if_pos rfl)) (Ev.bind ev_awake (Ev.now _))
theorem SlotsBoxes : phalanxlaw17_SlotsBoxes.Pure := by
  intro l X Y _ _ _ _ _
  have h : Ev (fun k => phalanxlaw17_SlotsBoxes.f k l X Y) true := by
    have h1 := ev_lay l X Y
    have h2 := ev_layr l X Y
    rcases lay_cases l X Y with ⟨e, he, eq⟩ | ⟨L, eq, hl⟩
    · rw [eq] at h1 h2
      exact ev_box (R := (0, 0, 0, 0, e)) (Ev.bind h1 (Ev.congr (fun k => if_neg he) (Ev.now _))) (Ev.bind h2 (Ev.congr (fun k => if_neg he) (Ev.now _)))
    · rw [eq] at h1 h2
      have n1 := hl.n1
      have nL := hl.lenL
      have s0 := hl.sm 0 (by omega)
      obtain ⟨m, hm⟩ : ∃ m, l.length = m + 1 := ⟨l.length - 1, by omega⟩
      have z := sb_loop hl (m + 1) 0 (ft l L 0) s0 (by omega)
      have z2 := sb_loopr hl m 1 (ft l L 0) s0 (by omega)
      rw [gr, hl_self] at z
      refine ev_box (Ev.bind h1 ?_) (Ev.bind h2 ?_) (R := ((gr l L 1 m (ft l L 0)).1, (gr l L 1 m (ft l L 0)).2.1, (gr l L 1 m (ft l L 0)).2.2.1, (gr l L 1 m (ft l L 0)).2.2.2, 0))
      · refine Ev.congr (fun k => ?_) z
        have c0 := cfoot hl (i := 0) (by omega)
        show (if (0 : Int) = 0 then _ else _) = _
        rw [if_pos rfl, if_pos (by omega), if_pos (by show (0 : Int) < (L.length : Int); omega)]
        show (class_Foot.f (rd_T23 l ((0 : Nat) : Int)).f0 (rd_T23 l ((0 : Nat) : Int)).f1 (rd_T25 L ((0 : Nat) : Int)).f0 (rd_T25 L ((0 : Nat) : Int)).f1).bind _ = _
        rw [c0, Option.bind_some]
        show slots_Box.l0 k l L (L.length : Int) _ _ _ _ _ = _
        rw [nL]
        rfl
      · refine Ev.congr (fun k => ?_) z2
        show (if (0 : Int) = 0 then _ else _) = _
        rw [if_pos rfl, if_pos (by show (0 : Int) < (L.length : Int); omega), if_pos (by omega)]
        rfl
  exact h.rounds
end Go.Proofs.Ytjehijlpdeadiaa.Pure
