/- SlotsApart: for any group and any place, the footprints of a layout are apart, and a layout elsewhere is the same one, moved. Conditions: none. -/
import Derived.Test.YtjehijlpdeadiaaM17t
set_option linter.unusedVariables false
set_option linter.unusedSimpArgs false
namespace Go.Proofs.Ytjehijlpdeadiaa.Pure
open Go.RowKit Go.Proofs.Ytjehijlpdeadiaa.P17t Go.Proofs.Ytjehijlpdeadiaa.M17t Go.Proofs.YtjehijlpdeadiaaW.PrintWords

theorem lp_facts : ∀ (l : List S23) (p0 p : Int), lp l p0 = some p → p0 ≤ p ∧ (p0 ≤ 4 → p ≤ 4) ∧ ∀ j, j < l.length → may (rd_T23 l (j : Int)) = true ∧ (rd_T23 l (j : Int)).f1 ≤ p
  | [], p0, p, h => by
    simp only [lp, Option.some.injEq] at h
    subst h
    exact ⟨Int.le_refl _, id, fun j hj => by simp at hj⟩
  | s :: t, p0, p, h => by
    rw [lp] at h
    by_cases hm : may s = true
    · rw [if_pos hm] at h
      obtain ⟨h1, h2, h3⟩ := lp_facts t _ p h
      have hs : s.f1 ≤ 4 := by
        unfold may at hm
        simp only [Bool.and_eq_true, decide_eq_true_eq] at hm
        exact hm.2.2.2
      have a1 : p0 ≤ mx p0 s.f1 := by unfold mx; split <;> omega
      have a2 : s.f1 ≤ mx p0 s.f1 := by unfold mx; split <;> omega
      have a3 : p0 ≤ 4 → mx p0 s.f1 ≤ 4 := by unfold mx; split <;> omega
      refine ⟨by omega, fun h => h2 (a3 h), fun j hj => ?_⟩
      cases j with
      | zero => exact ⟨hm, by show s.f1 ≤ p; omega⟩
      | succ j =>
        have e : rd_T23 (s :: t) ((j + 1 : Nat) : Int) = rd_T23 t (j : Int) := by unfold rd_T23; rw [Int.toNat_natCast, Int.toNat_natCast]; rfl
        rw [e]
        exact h3 j (by simpa using hj)
    · rw [if_neg hm] at h
      exact absurd h (by simp)
theorem rd_fr (c r p X Y : Int) : ∀ (m : Nat) (i : Int) (j : Nat), j < m → rd_T25 (fr c r p X Y i m) (j : Int) = cl c r p X Y (i + j)
  | m + 1, i, 0, h => by rw [fr]; show cl c r p X Y i = _; rw [show i + ((0 : Nat) : Int) = i by omega]
  | m + 1, i, j + 1, h => by
    have e : rd_T25 (fr c r p X Y i (m + 1)) ((j + 1 : Nat) : Int) = rd_T25 (fr c r p X Y (i + 1) m) (j : Int) := by unfold rd_T25; rw [Int.toNat_natCast, Int.toNat_natCast]; rfl
    rw [e, rd_fr c r p X Y m (i + 1) j (by omega)]
    congr 1
    omega

theorem near3 {x : Int} (h0 : -100000 ≤ x) (h1 : x ≤ 100000) : phalanxref03_near.f x = some true := by
  unfold phalanxref03_near.f
  rw [if_pos (by omega), decide_eq_true (by omega)]
theorem near2 {x y : Int} (h0 : -100000 ≤ x) (h1 : x ≤ 100000) (g0 : -100000 ≤ y) (g1 : y ≤ 100000) : phalanxref03_Near.f x y = some true := by
  unfold phalanxref03_Near.f
  rw [near3 h0 h1, Option.bind_some, if_pos rfl, near3 g0 g1, Option.bind_some]
theorem last3 {x y s : Int} (h0 : -1000 ≤ x) (h1 : x ≤ 1000) (g0 : -1000 ≤ y) (g1 : y ≤ 1000) (s0 : 1 ≤ s) (s1 : s ≤ 4) : phalanxref03_Last.f x y s s = some (x + s - 1, y + s - 1) := by
  unfold phalanxref03_Last.f wrap64
  congr 2 <;> omega
theorem may3 {x y s : Int} (h0 : -1000 ≤ x) (h1 : x ≤ 1000) (g0 : -1000 ≤ y) (g1 : y ≤ 1000) (s0 : 1 ≤ s) (s1 : s ≤ 4) : phalanxref03_May.f x y s s = some true := by
  unfold phalanxref03_May.f
  rw [near2 (by omega) (by omega) (by omega) (by omega), Option.bind_some, if_pos rfl, if_pos (by omega), if_pos (by omega), if_pos (by omega), if_pos (by omega), last3 h0 h1 g0 g1 s0 s1, Option.bind_some, near2 (by omega) (by omega) (by omega) (by omega), Option.bind_some]
theorem foot3 {a : S23} {x y : Int} (hm : may a = true) (h0 : -1000 ≤ x) (h1 : x ≤ 1000) (g0 : -1000 ≤ y) (g1 : y ≤ 1000) : phalanxref06_Foot.f a.f0 a.f1 x y = some (x, y, a.f1, a.f1) := by
  have hb : 1 ≤ a.f1 ∧ a.f1 ≤ 4 := by
    have h := hm
    unfold may at h
    simp only [Bool.and_eq_true, decide_eq_true_eq] at h
    exact h.2.2
  have e : phalanxref06_May.f a.f0 a.f1 = some true := (may_slots a).trans (by rw [hm])
  unfold phalanxref06_Foot.f
  rw [e, Option.bind_some, if_pos rfl, may3 h0 h1 g0 g1 hb.1 hb.2, Option.bind_some, if_pos rfl]
theorem meet_no {x y s x' y' s' : Int} (h0 : -1000 ≤ x) (h1 : x ≤ 1000) (g0 : -1000 ≤ y) (g1 : y ≤ 1000) (s0 : 1 ≤ s) (s1 : s ≤ 4)
    (h0' : -1000 ≤ x') (h1' : x' ≤ 1000) (g0' : -1000 ≤ y') (g1' : y' ≤ 1000) (s0' : 1 ≤ s') (s1' : s' ≤ 4)
    (ha : x + s ≤ x' ∨ x' + s' ≤ x ∨ y + s ≤ y' ∨ y' + s' ≤ y) : Ev (fun k => phalanxref03_Meet.f k x y s s x' y' s' s') (0, 0, 0, 0, false) := by
  have j3 : ∀ X Y lx ly ly', X = x ∨ X = x' → x ≤ X → x' ≤ X → Y = y ∨ Y = y' → y ≤ Y → y' ≤ Y → lx ≤ x + s - 1 → lx ≤ x' + s' - 1 → ly = y + s - 1 → ly' = y' + s' - 1 → ∀ u, Ev (fun k => phalanxref03_Meet.j3 k X Y lx ly u ly') (0, 0, 0, 0, false) := by
    intro X Y lx ly ly' _ _ _ _ _ _ _ _ _ _ u
    have e : ∀ k, phalanxref03_Meet.j3 (k + 1) X Y lx ly u ly' = some (0, 0, 0, 0, false) := by
      intro k
      rw [phalanxref03_Meet.j3]
      by_cases c1 : ly' < ly
      · rw [if_pos c1]
        by_cases c2 : lx < X
        · rw [if_pos c2]
        · rw [if_neg c2, if_pos (by omega)]
      · rw [if_neg c1]
        by_cases c2 : lx < X
        · rw [if_pos c2]
        · rw [if_neg c2, if_pos (by omega)]
    exact Ev.step e (Ev.now _)
  have j2 : ∀ X Y, X = x ∨ X = x' → x ≤ X → x' ≤ X → Y = y ∨ Y = y' → y ≤ Y → y' ≤ Y → Ev (fun k => phalanxref03_Meet.j2 k X Y x y s s x' y' s' s') (0, 0, 0, 0, false) := by
    intro X Y a1 a2 a3 a4 a5 a6
    have e : ∀ k, phalanxref03_Meet.j2 (k + 1) X Y x y s s x' y' s' s' = if x' + s' - 1 < x + s - 1 then (phalanxref03_Meet.j3 k X Y (x' + s' - 1) (y + s - 1) (x' + s' - 1) (y' + s' - 1)) else (phalanxref03_Meet.j3 k X Y (x + s - 1) (y + s - 1) (x' + s' - 1) (y' + s' - 1)) := by
      intro k
      rw [phalanxref03_Meet.j2, last3 h0 h1 g0 g1 s0 s1, Option.bind_some, last3 h0' h1' g0' g1' s0' s1', Option.bind_some]
    refine Ev.step e ?_
    by_cases c : x' + s' - 1 < x + s - 1
    · exact Ev.congr (fun k => if_pos c) (j3 _ _ _ _ _ a1 a2 a3 a4 a5 a6 (by omega) (by omega) rfl rfl _)
    · exact Ev.congr (fun k => if_neg c) (j3 _ _ _ _ _ a1 a2 a3 a4 a5 a6 (by omega) (by omega) rfl rfl _)
  have j1 : ∀ X, X = x ∨ X = x' → x ≤ X → x' ≤ X → Ev (fun k => phalanxref03_Meet.j1 k X y x y s s x' y' s' s') (0, 0, 0, 0, false) := by
    intro X a1 a2 a3
    have e : ∀ k, phalanxref03_Meet.j1 (k + 1) X y x y s s x' y' s' s' = if y' > y then (phalanxref03_Meet.j2 k X y' x y s s x' y' s' s') else (phalanxref03_Meet.j2 k X y x y s s x' y' s' s') := fun k => by rw [phalanxref03_Meet.j1]
    refine Ev.step e ?_
    by_cases c : y' > y
    · exact Ev.congr (fun k => if_pos c) (j2 _ _ a1 a2 a3 (.inr rfl) (by omega) (by omega))
    · exact Ev.congr (fun k => if_neg c) (j2 _ _ a1 a2 a3 (.inl rfl) (by omega) (by omega))
  have e0 : ∀ k, phalanxref03_Meet.f k x y s s x' y' s' s' = phalanxref03_Meet.j0 k false x y s s x' y' s' s' := by
    intro k
    rw [phalanxref03_Meet.f, may3 h0 h1 g0 g1 s0 s1, Option.bind_some, if_pos rfl, may3 h0' h1' g0' g1' s0' s1', Option.bind_some]
    rfl
  refine Ev.congr e0 ?_
  have e : ∀ k, phalanxref03_Meet.j0 (k + 1) false x y s s x' y' s' s' = if x' > x then (phalanxref03_Meet.j1 k x' y x y s s x' y' s' s') else (phalanxref03_Meet.j1 k x y x y s s x' y' s' s') := fun k => by rw [phalanxref03_Meet.j0, if_neg (by decide)]
  refine Ev.step e ?_
  by_cases c : x' > x
  · exact Ev.congr (fun k => if_pos c) (j1 _ (.inr rfl) (by omega) (by omega))
  · exact Ev.congr (fun k => if_neg c) (j1 _ (.inl rfl) (by omega) (by omega))

/-- The column and the row of a unit, and the place of its cell. -/
theorem mul_small {u p : Int} (u0 : -100 ≤ u) (u1 : u ≤ 100) (p0 : 0 ≤ p) (p1 : p ≤ 4) : -400 ≤ u * p ∧ u * p ≤ 400 := by
  have : p = 0 ∨ p = 1 ∨ p = 2 ∨ p = 3 ∨ p = 4 := by omega
  rcases this with rfl | rfl | rfl | rfl | rfl <;> omega
theorem cl_at {c r p i : Int} (c0 : 0 < c) (c1 : c ≤ 8) (r0 : 0 < r) (r1 : r ≤ 8) (i0 : 0 ≤ i) (i1 : i ≤ 64) (p0 : 0 ≤ p) (p1 : p ≤ 4) :
    cl c r p 0 0 i = ⟨(i % c - c / 2) * p, (i / c - r / 2) * p⟩ ∧ -400 ≤ (i % c - c / 2) * p ∧ (i % c - c / 2) * p ≤ 400 ∧ -400 ≤ (i / c - r / 2) * p ∧ (i / c - r / 2) * p ≤ 400 := by
  have m0 : 0 ≤ i % c := Int.emod_nonneg _ (by omega)
  have m1 : i % c < c := Int.emod_lt_of_pos _ c0
  have d0 : 0 ≤ i / c := Int.ediv_nonneg i0 (by omega)
  have d1 : i / c ≤ 64 := Int.le_trans (Int.ediv_le_self _ i0) i1
  have b1 := mul_small (u := i % c - c / 2) (p := p) (by omega) (by omega) p0 p1
  have b2 := mul_small (u := i / c - r / 2) (p := p) (by omega) (by omega) p0 p1
  refine ⟨?_, b1.1, b1.2, b2.1, b2.2⟩
  unfold cl
  rw [Int.tmod_eq_emod_of_nonneg i0, Int.tdiv_eq_ediv_of_nonneg i0, w_small (n := i / c) (by omega) (by omega), w_small (n := i % c - c / 2) (by omega) (by omega), w_small (n := i / c - r / 2) (by omega) (by omega), w_small (n := (i % c - c / 2) * p) (by omega) (by omega), w_small (n := (i / c - r / 2) * p) (by omega) (by omega), Int.zero_add, Int.zero_add, w_small (n := (i % c - c / 2) * p) (by omega) (by omega), w_small (n := (i / c - r / 2) * p) (by omega) (by omega)]
theorem step_mul {u v p s : Int} (h : u < v) (hs : s ≤ p) (p0 : 0 ≤ p) : u * p + s ≤ v * p := by
  have h1 : (u + 1) * p ≤ v * p := Int.mul_le_mul_of_nonneg_right (by omega) p0
  rw [Int.add_mul, Int.one_mul] at h1
  omega
theorem apart {c r p i j s s' : Int} (c0 : 0 < c) (p0 : 0 ≤ p) (hj : j < i) (h1 : s ≤ p) (h2 : s' ≤ p) :
    (i % c - c / 2) * p + s ≤ (j % c - c / 2) * p ∨ (j % c - c / 2) * p + s' ≤ (i % c - c / 2) * p ∨ (i / c - r / 2) * p + s ≤ (j / c - r / 2) * p ∨ (j / c - r / 2) * p + s' ≤ (i / c - r / 2) * p := by
  have e1 : c * (i / c) + i % c = i := Int.mul_ediv_add_emod i c
  have e2 : c * (j / c) + j % c = j := Int.mul_ediv_add_emod j c
  rcases Int.lt_trichotomy (i % c) (j % c) with h | h | h
  · exact .inl (step_mul (by omega) h1 p0)
  · rcases Int.lt_trichotomy (i / c) (j / c) with g | g | g
    · exact .inr (.inr (.inl (step_mul (by omega) h1 p0)))
    · rw [g] at e1; exact absurd hj (by omega)
    · exact .inr (.inr (.inr (step_mul (by omega) h2 p0)))
  · exact .inr (.inl (step_mul (by omega) h2 p0))

theorem moved (X t : Int) : wrap64 (X + wrap64 t) = wrap64 (wrap64 (0 + wrap64 t) + X) := by
  unfold wrap64
  omega
theorem sa_moved {c r p X Y : Int} {n : Nat} (hn : n ≤ 64) : ∀ (m i : Nat), i + m = n → Ev (fun k => phalanxlaw17_SlotsApart.l2 k (fr c r p 0 0 0 n) (fr c r p X Y 0 n) (i : Int) X Y) true
  | 0, i, h => by
    have e : ∀ k, phalanxlaw17_SlotsApart.l2 (k + 1) (fr c r p 0 0 0 n) (fr c r p X Y 0 n) (i : Int) X Y = (phalanxlaw17_awake.f k).bind fun t183 => some t183 := by
      intro k
      rw [phalanxlaw17_SlotsApart.l2, if_neg (by rw [fr_length]; omega)]
    exact Ev.step e (Ev.bind ev_awake (Ev.now _))
  | m + 1, i, h => by
    have e : ∀ k, phalanxlaw17_SlotsApart.l2 (k + 1) (fr c r p 0 0 0 n) (fr c r p X Y 0 n) (i : Int) X Y = phalanxlaw17_SlotsApart.l2 k (fr c r p 0 0 0 n) (fr c r p X Y 0 n) ((i + 1 : Nat) : Int) X Y := by
      intro k
      rw [phalanxlaw17_SlotsApart.l2, if_pos (by rw [fr_length]; omega), if_pos (by omega), if_pos (by rw [fr_length]; omega), rd_fr c r p X Y n 0 i (by omega), rd_fr c r p 0 0 n 0 i (by omega), if_neg ?_, w_small (n := (i : Int) + 1) (by omega) (by omega)]
      · rfl
      · unfold cl
        simp only [moved X, moved Y, beq_self_eq_true, Bool.not_true, Bool.or_self, Bool.false_eq_true, not_false_eq_true]
    exact Ev.step e (sa_moved hn m (i + 1) (by omega))

/-- What both sides need of a group whose layout is told. -/
structure Laid (l : List S23) (n : Nat) (c r p : Int) : Prop where
  len : l.length = n
  n1 : 1 ≤ n
  n2 : n ≤ 64
  c0 : 0 < c
  c1 : c ≤ 8
  r0 : 0 < r
  r1 : r ≤ 8
  p0 : 0 ≤ p
  p1 : p ≤ 4
  each : ∀ j, j < n → may (rd_T23 l (j : Int)) = true ∧ (rd_T23 l (j : Int)).f1 ≤ p
theorem may_size {x : S23} (hm : may x = true) : 1 ≤ x.f1 ∧ x.f1 ≤ 4 := by
  unfold may at hm
  simp only [Bool.and_eq_true, decide_eq_true_eq] at hm
  exact hm.2.2

theorem sa_inner {l : List S23} {n : Nat} {c r p X Y : Int} (L : Laid l n c r p) {i : Nat} (hi : i < n) {R : Bool} (hR : Ev (fun k => phalanxlaw17_SlotsApart.l0 k l (fr c r p 0 0 0 n) ((i + 1 : Nat) : Int) X Y) R) :
    ∀ (m j : Nat), j + m = i → Ev (fun k => phalanxlaw17_SlotsApart.l1 k l (fr c r p 0 0 0 n) (i : Int) (j : Int) X Y) R
  | 0, j, h => by
    have hn := L.n2
    have e : ∀ k, phalanxlaw17_SlotsApart.l1 (k + 1) l (fr c r p 0 0 0 n) (i : Int) (j : Int) X Y = phalanxlaw17_SlotsApart.l0 k l (fr c r p 0 0 0 n) ((i + 1 : Nat) : Int) X Y := by
      intro k
      rw [phalanxlaw17_SlotsApart.l1, if_neg (by omega), w_small (n := (i : Int) + 1) (by omega) (by omega)]
      rfl
    exact Ev.step e hR
  | m + 1, j, h => by
    have hn := L.n2
    have hl := L.len
    obtain ⟨ei, a1, a2, a3, a4⟩ := cl_at (r := r) (p := p) (i := (i : Int)) L.c0 L.c1 L.r0 L.r1 (by omega) (by omega) L.p0 L.p1
    obtain ⟨ej, b1, b2, b3, b4⟩ := cl_at (r := r) (p := p) (i := (j : Int)) L.c0 L.c1 L.r0 L.r1 (by omega) (by omega) L.p0 L.p1
    obtain ⟨mi, si⟩ := L.each i hi
    obtain ⟨mj, sj⟩ := L.each j (by omega)
    have zi := may_size mi
    have zj := may_size mj
    have fi : phalanxref06_Foot.f (rd_T23 l (i : Int)).f0 (rd_T23 l (i : Int)).f1 (cl c r p 0 0 (i : Int)).f0 (cl c r p 0 0 (i : Int)).f1 = some (((i : Int) % c - c / 2) * p, ((i : Int) / c - r / 2) * p, (rd_T23 l (i : Int)).f1, (rd_T23 l (i : Int)).f1) := by
      rw [ei]
      exact foot3 (x := ((i : Int) % c - c / 2) * p) (y := ((i : Int) / c - r / 2) * p) mi (by omega) (by omega) (by omega) (by omega)
    have fj : phalanxref06_Foot.f (rd_T23 l (j : Int)).f0 (rd_T23 l (j : Int)).f1 (cl c r p 0 0 (j : Int)).f0 (cl c r p 0 0 (j : Int)).f1 = some (((j : Int) % c - c / 2) * p, ((j : Int) / c - r / 2) * p, (rd_T23 l (j : Int)).f1, (rd_T23 l (j : Int)).f1) := by
      rw [ej]
      exact foot3 (x := ((j : Int) % c - c / 2) * p) (y := ((j : Int) / c - r / 2) * p) mj (by omega) (by omega) (by omega) (by omega)
    have e : ∀ k, phalanxlaw17_SlotsApart.l1 (k + 1) l (fr c r p 0 0 0 n) (i : Int) (j : Int) X Y = (phalanxref03_Meet.f k (((i : Int) % c - c / 2) * p) (((i : Int) / c - r / 2) * p) (rd_T23 l (i : Int)).f1 (rd_T23 l (i : Int)).f1 (((j : Int) % c - c / 2) * p) (((j : Int) / c - r / 2) * p) (rd_T23 l (j : Int)).f1 (rd_T23 l (j : Int)).f1).bind fun bt169 => (if bt169.2.2.2.2 = true then (some false) else (phalanxlaw17_SlotsApart.l1 k l (fr c r p 0 0 0 n) (i : Int) ((j + 1 : Nat) : Int) X Y)) := by
      intro k
      rw [phalanxlaw17_SlotsApart.l1, if_pos (by omega), if_pos (by omega), if_pos (by omega), if_pos (by rw [fr_length]; omega), rd_fr c r p 0 0 n 0 i (by omega), rd_fr c r p 0 0 n 0 j (by omega), Int.zero_add, Int.zero_add, fi, Option.bind_some, if_pos (by omega), if_pos (by omega), if_pos (by rw [fr_length]; omega), fj, Option.bind_some, w_small (n := (j : Int) + 1) (by omega) (by omega)]
      rfl
    refine Ev.step e (Ev.bind (meet_no (by omega) (by omega) (by omega) (by omega) zi.1 zi.2 (by omega) (by omega) (by omega) (by omega) zj.1 zj.2 (apart L.c0 L.p0 (by omega) si sj)) ?_)
    exact Ev.congr (fun k => if_neg (by decide)) (sa_inner L hi hR m (j + 1) (by omega))
theorem sa_outer {l : List S23} {n : Nat} {c r p X Y : Int} (L : Laid l n c r p) {R : Bool}
    (hR : Ev (fun k => (slots_Layout.f k l X Y).bind fun bt175 => (if bt175.2 = 0 then (phalanxlaw17_SlotsApart.l2 k (fr c r p 0 0 0 n) bt175.1 0 X Y) else ((phalanxlaw17_awake.f k).bind fun t179 => (some t179)))) R) :
    ∀ (m i : Nat), i + m = n → Ev (fun k => phalanxlaw17_SlotsApart.l0 k l (fr c r p 0 0 0 n) (i : Int) X Y) R
  | 0, i, h => by
    refine Ev.step (fun k => ?_) hR
    rw [phalanxlaw17_SlotsApart.l0, if_neg (by rw [fr_length]; omega)]
  | m + 1, i, h => by
    have e : ∀ k, phalanxlaw17_SlotsApart.l0 (k + 1) l (fr c r p 0 0 0 n) (i : Int) X Y = phalanxlaw17_SlotsApart.l1 k l (fr c r p 0 0 0 n) (i : Int) ((0 : Nat) : Int) X Y := by
      intro k
      rw [phalanxlaw17_SlotsApart.l0, if_pos (by rw [fr_length]; omega)]
      rfl
    exact Ev.step e (sa_inner L (by omega) (sa_outer L hR m (i + 1) (by omega)) i 0 (by omega))

theorem lay_cases (l : List S23) (X Y : Int) : (∃ e, e ≠ 0 ∧ lay l X Y = ([], e)) ∨ ∃ p, lp l 0 = some p ∧ 1 ≤ l.length ∧ l.length ≤ 64 ∧ lay l X Y = (fr (col l.length) (rows l.length) p X Y 0 l.length, 0) := by
  unfold lay
  by_cases h64 : 64 < l.length
  · exact .inl ⟨3, by decide, if_pos h64⟩
  · rw [if_neg h64]
    cases hp : lp l 0 with
    | none => exact .inl ⟨1, by decide, rfl⟩
    | some p =>
      by_cases hxy : l.length = 0 ∨ nearB X = false ∨ nearB Y = false
      · exact .inl ⟨1, by decide, if_pos hxy⟩
      · exact .inr ⟨p, rfl, by omega, by omega, if_neg hxy⟩
theorem SlotsApart : phalanxlaw17_SlotsApart.Pure := by
  intro l X Y _ _ _ _ _
  have h : Ev (fun k => phalanxlaw17_SlotsApart.f k l X Y) true := by
    have h1 := ev_lay l 0 0
    rcases lay_cases l 0 0 with ⟨e, he, eq⟩ | ⟨p, hp, n1, n2, eq⟩
    · rw [eq] at h1
      exact Ev.bind h1 (Ev.congr (fun k => (if_neg he).trans (if_pos rfl)) (Ev.bind ev_awake (Ev.now _)))
    · rw [eq] at h1
      refine Ev.bind h1 ?_
      rcases col_facts l.length (List.mem_range.2 (by omega)) with h | ⟨f1, f2, f3, f4, f5⟩
      · omega
      obtain ⟨q0, q1, q2⟩ := lp_facts l 0 p hp
      have L : Laid l l.length (col l.length) (rows l.length) p := ⟨rfl, n1, n2, f1, f2, f3, f4, q0, q1 (by decide), q2⟩
      refine Ev.congr (fun k => if_pos rfl) (sa_outer L ?_ l.length 0 (by omega))
      have h2 := ev_lay l X Y
      rcases lay_cases l X Y with ⟨e, he, eq⟩ | ⟨p', hp', _, _, eq⟩
      · rw [eq] at h2
        exact Ev.bind h2 (Ev.congr (fun k => if_neg he) (Ev.bind ev_awake (Ev.now _)))
      · rw [hp] at hp'
        obtain rfl : p = p' := by simpa using hp'
        rw [eq] at h2
        exact Ev.bind h2 (Ev.congr (fun k => if_pos rfl) (sa_moved n2 l.length 0 (by omega)))
  exact h.rounds
end Go.Proofs.Ytjehijlpdeadiaa.Pure
