/- Where the units of a group stand, in plain Lean: the layout that package slots tells and the one that the reference tells are one and the same list of cells. -/
import Derived.Test.YtjehijlpdeadiaaP17bx10
set_option linter.unusedVariables false
set_option linter.unusedSimpArgs false
namespace Go.Proofs.Ytjehijlpdeadiaa.M17b
open Go.RowKit Go.Proofs.Ytjehijlpdeadiaa.P17b Go.Proofs.YtjehijlpdeadiaaW.PrintWords

/-- How many columns so many units have. -/
def col (n : Int) : Int := (phalanxref17_Columns.f 40 n).getD 0
theorem col_both : ∀ i ∈ List.range 67, slots_Columns.f 40 ((i : Int) - 1) = some (col ((i : Int) - 1)) ∧ phalanxref17_Columns.f 40 ((i : Int) - 1) = some (col ((i : Int) - 1)) := by decide +kernel
theorem col_mem {n : Int} (h0 : -1 ≤ n) (h1 : n ≤ 65) : ∃ i ∈ List.range 67, n = (i : Int) - 1 := ⟨(n + 1).toNat, List.mem_range.2 (by omega), by omega⟩
theorem ev_col {n : Int} (h0 : -1 ≤ n) (h1 : n ≤ 65) : Ev (fun k => slots_Columns.f k n) (col n) := by
  obtain ⟨i, hi, rfl⟩ := col_mem h0 h1
  exact Ev.of (fun k => slots_Columns.mono _ k) (col_both i hi).1
theorem ev_colr {n : Int} (h0 : -1 ≤ n) (h1 : n ≤ 65) : Ev (fun k => phalanxref17_Columns.f k n) (col n) := by
  obtain ⟨i, hi, rfl⟩ := col_mem h0 h1
  exact Ev.of (fun k => phalanxref17_Columns.mono _ k) (col_both i hi).2
/-- How many rows so many units have. -/
def rows (n : Int) : Int := wrap64 ((wrap64 (Int.tdiv (wrap64 (n - 1)) (col n))) + 1)
theorem col_facts : ∀ i ∈ List.range 65, i = 0 ∨ (0 < col (i : Int) ∧ col (i : Int) ≤ 8 ∧ col (i : Int) / 2 = wrap64 (Int.tdiv (col (i : Int)) 2) ∧ wrap64 (Int.tdiv (wrap64 ((wrap64 ((i : Int) + col (i : Int))) - 1)) (col (i : Int))) = rows (i : Int) ∧ rows (i : Int) / 2 = wrap64 (Int.tdiv (rows (i : Int)) 2) ∧ 0 < rows (i : Int) ∧ rows (i : Int) ≤ 8) := by decide +kernel

/-- May a shape be? -/
def may (x : S23) : Bool := decide (0 ≤ x.f0) && (decide (x.f0 < 4) && (decide (1 ≤ x.f1) && decide (x.f1 ≤ 4)))
theorem may_slots (x : S23) : class_May.f x.f0 x.f1 = some (may x) := by
  unfold class_May.f may
  by_cases h0 : x.f0 ≥ 0
  · by_cases h1 : x.f0 < 4
    · by_cases h2 : x.f1 ≥ 1
      · rw [if_pos h0, if_pos h1, if_pos h2, decide_eq_true h0, decide_eq_true h1, decide_eq_true h2]; rfl
      · rw [if_pos h0, if_pos h1, if_neg h2, decide_eq_false h2, Bool.false_and, Bool.and_false, Bool.and_false]
    · rw [if_pos h0, if_neg h1, decide_eq_false h1, Bool.false_and, Bool.and_false]
  · rw [if_neg h0, decide_eq_false h0, Bool.false_and]
theorem may_ref (x : S23) : phalanxref06_May.f x.f0 x.f1 = some (may x) := may_slots x
/-- May a group stand about a place? -/
def nearB (x : Int) : Bool := decide (-128 ≤ x) && decide (x ≤ 256)
theorem near_slots (x : Int) : slots_near.f x = some (nearB x) := by
  unfold slots_near.f nearB
  by_cases h : x ≥ -128
  · rw [if_pos h, decide_eq_true h, Bool.true_and]
  · rw [if_neg h, decide_eq_false h, Bool.false_and]
theorem near_ref (x y : Int) : phalanxref17_near.f x y = some (nearB x && nearB y) := by
  unfold phalanxref17_near.f nearB
  by_cases h : x ≥ -128
  · by_cases h1 : x ≤ 256
    · by_cases h2 : y ≥ -128
      · rw [if_pos h, if_pos h1, if_pos h2, decide_eq_true h, decide_eq_true h1, decide_eq_true h2]; rfl
      · rw [if_pos h, if_pos h1, if_neg h2, decide_eq_false h2, Bool.false_and, Bool.and_false]
    · rw [if_pos h, if_neg h1, decide_eq_false h1, Bool.and_false, Bool.false_and]
  · rw [if_neg h, decide_eq_false h, Bool.false_and, Bool.false_and]

/-- The cell of the unit that stands at i. -/
def cl (c r p X Y i : Int) : S25 := ⟨wrap64 (X + (wrap64 ((wrap64 ((Int.tmod i c) - (c / 2))) * p))), wrap64 (Y + (wrap64 ((wrap64 ((wrap64 (Int.tdiv i c)) - (r / 2))) * p)))⟩
/-- The cells of m units from i. -/
def fr (c r p X Y : Int) : Int → Nat → List S25
  | _, 0 => []
  | i, m + 1 => cl c r p X Y i :: fr c r p X Y (i + 1) m
theorem fr_length (c r p X Y : Int) : ∀ (m : Nat) (i : Int), (fr c r p X Y i m).length = m
  | 0, _ => rfl
  | m + 1, i => by rw [fr, List.length_cons, fr_length c r p X Y m]
/-- The pitch of a group, or nothing where a shape may not be. -/
def lp : List S23 → Int → Option Int
  | [], p => some p
  | s :: t, p => if may s = true then lp t (mx p s.f1) else none
/-- What is told when all shapes may be. -/
def fin (n : Nat) (X Y p : Int) : List S25 × Int := if n = 0 ∨ nearB X = false ∨ nearB Y = false then ([], 1) else (fr (col n) (rows n) p X Y 0 n, 0)
/-- What is told of a group of 64 at most. -/
def ans (n : Nat) (X Y : Int) : Option Int → List S25 × Int
  | none => ([], 1)
  | some p => fin n X Y p
/-- Where the units stand. -/
def lay (l : List S23) (X Y : Int) : List S25 × Int := if 64 < l.length then ([], 3) else ans l.length X Y (lp l 0)

theorem w_small {n : Int} (h0 : -1000 ≤ n) (h1 : n ≤ 1000) : wrap64 n = n := by unfold wrap64; omega
theorem rd_drop {l : List S23} {i : Nat} (h : i < l.length) : l.drop i = rd_T23 l (i : Int) :: l.drop (i + 1) := by
  rw [List.drop_eq_getElem_cons h]
  congr 1
  unfold rd_T23
  rw [Int.toNat_natCast, List.getD_eq_getElem?_getD, List.getElem?_eq_getElem h]; rfl

theorem ev_cells {c r p X Y : Int} {n : Nat} (hn : n ≤ 64) (hc : ¬ c = 0) : ∀ (m i : Nat) (acc : List S25), i + m = n → acc.length = i →
    Ev (fun k => slots_Layout.l1 k p c r acc (n : Int) (i : Int) X Y) (acc ++ fr c r p X Y (i : Int) m, 0)
  | 0, i, acc, h, ha => by
    have hi : ¬ ((i : Int) < (n : Int)) := by omega
    rw [fr, List.append_nil]
    have e : ∀ k, slots_Layout.l1 (k + 1) p c r acc (n : Int) (i : Int) X Y = some (acc, 0) := fun k => if_neg hi
    exact Ev.step e (Ev.now _)
  | m + 1, i, acc, h, ha => by
    have hi : (i : Int) < (n : Int) := by omega
    have hl : acc.length < 8796093022208 := by omega
    have e : ∀ k, slots_Layout.l1 (k + 1) p c r acc (n : Int) (i : Int) X Y = slots_Layout.l1 k p c r (acc ++ [cl c r p X Y (i : Int)]) (n : Int) ((i + 1 : Nat) : Int) X Y := by
      intro k
      rw [slots_Layout.l1, if_pos hi, if_neg hc, if_pos hl, w_small (n := (i : Int) + 1) (by omega) (by omega)]
      rfl
    have z := ev_cells (p := p) (r := r) (X := X) (Y := Y) hn hc m (i + 1) (acc ++ [cl c r p X Y (i : Int)]) (by omega) (by simp [ha])
    rw [List.append_assoc] at z
    exact Ev.step e z
theorem ev_cellsr {c r r' p X Y : Int} {l : List S23} (hn : l.length ≤ 64) (hc : ¬ c = 0) (c2 : c / 2 = wrap64 (Int.tdiv c 2)) (r2 : r / 2 = wrap64 (Int.tdiv r 2)) : ∀ (m i : Nat) (acc : List S25), i + m = l.length → acc.length = i →
    Ev (fun k => phalanxref17_Layout.l1 k l p c r acc (i : Int) X Y) (acc ++ fr c r p X Y (i : Int) m, 0)
  | 0, i, acc, h, ha => by
    have hi : ¬ ((i : Int) < (l.length : Int)) := by omega
    rw [fr, List.append_nil]
    have e : ∀ k, phalanxref17_Layout.l1 (k + 1) l p c r acc (i : Int) X Y = some (acc, 0) := fun k => if_neg hi
    exact Ev.step e (Ev.now _)
  | m + 1, i, acc, h, ha => by
    have hi : (i : Int) < (l.length : Int) := by omega
    have hl : acc.length < 8796093022208 := by omega
    have e : ∀ k, phalanxref17_Layout.l1 (k + 1) l p c r acc (i : Int) X Y = phalanxref17_Layout.l1 k l p c r (acc ++ [cl c r p X Y (i : Int)]) ((i + 1 : Nat) : Int) X Y := by
      intro k
      rw [phalanxref17_Layout.l1, if_pos hi, if_neg hc, if_pos hl, w_small (n := (i : Int) + 1) (by omega) (by omega), ← c2, ← r2, Int.mul_comm p, Int.mul_comm p]
      rfl
    have z := ev_cellsr (r' := r') (p := p) (X := X) (Y := Y) hn hc c2 r2 m (i + 1) (acc ++ [cl c r p X Y (i : Int)]) (by omega) (by simp [ha])
    rw [List.append_assoc] at z
    exact Ev.step e z

theorem ev_fin {l : List S23} (hn : l.length ≤ 64) (p X Y : Int) : Ev (fun k => (slots_Columns.f k (l.length : Int)).bind fun t110 => (if t110 = 0 then (slots_Layout.j1 k l p t110 true X Y) else ((slots_near.f X).bind fun t111 => (if t111 = true then ((slots_near.f Y).bind fun t112 => (slots_Layout.j1 k l p t110 (!t112) X Y)) else (slots_Layout.j1 k l p t110 true X Y))))) (fin l.length X Y p) := by
  refine Ev.bind (ev_col (by omega) (by omega)) ?_
  have stop : ∀ t, Ev (fun k => slots_Layout.j1 k l p t true X Y) ([], 1) := fun t => by
    have e : ∀ k, slots_Layout.j1 (k + 1) l p t true X Y = some ([], 1) := fun k => by rw [slots_Layout.j1, if_pos rfl]
    exact Ev.step e (Ev.now _)
  unfold fin
  by_cases h0 : l.length = 0
  · rw [if_pos (.inl h0)]
    refine Ev.congr (fun k => if_pos ?_) (stop _)
    rw [h0]; decide +kernel
  · rcases col_facts l.length (List.mem_range.2 (by omega)) with h | ⟨f1, f2, f3, f4, f5, f6, f7⟩
    · exact absurd h h0
    have hc : ¬ col (l.length : Int) = 0 := by omega
    by_cases hx : nearB X = true
    · by_cases hy : nearB Y = true
      · rw [if_neg (by rintro (h | h | h) <;> simp_all)]
        have e : ∀ k, (if col (l.length : Int) = 0 then (slots_Layout.j1 k l p (col (l.length : Int)) true X Y) else ((slots_near.f X).bind fun t111 => (if t111 = true then ((slots_near.f Y).bind fun t112 => (slots_Layout.j1 k l p (col (l.length : Int)) (!t112) X Y)) else (slots_Layout.j1 k l p (col (l.length : Int)) true X Y)))) = slots_Layout.j1 k l p (col (l.length : Int)) false X Y := by
          intro k
          rw [if_neg hc, near_slots, Option.bind_some, if_pos hx, near_slots, Option.bind_some, hy]; rfl
        refine Ev.congr e ?_
        have e2 : ∀ k, slots_Layout.j1 (k + 1) l p (col (l.length : Int)) false X Y = slots_Layout.l1 k p (col (l.length : Int)) (rows (l.length : Int)) [] (l.length : Int) ((0 : Nat) : Int) X Y := by
          intro k
          rw [slots_Layout.j1, if_neg (by decide), if_neg hc]; rfl
        exact Ev.step e2 (ev_cells hn hc l.length 0 [] (by omega) rfl)
      · rw [if_pos (.inr (.inr (by simpa using hy)))]
        refine Ev.congr (fun k => ?_) (stop (col (l.length : Int)))
        rw [if_neg hc, near_slots, Option.bind_some, if_pos hx, near_slots, Option.bind_some, (by simpa using hy : nearB Y = false)]; rfl
    · rw [if_pos (.inr (.inl (by simpa using hx)))]
      refine Ev.congr (fun k => ?_) (stop (col (l.length : Int)))
      rw [if_neg hc, near_slots, Option.bind_some, if_neg hx]
theorem ev_finr {l : List S23} (hn : l.length ≤ 64) (p X Y : Int) : Ev (fun k => (if (l.length : Int) = 0 then (phalanxref17_Layout.j1 k l p true X Y) else ((phalanxref17_near.f X Y).bind fun t123 => (phalanxref17_Layout.j1 k l p (!t123) X Y)))) (fin l.length X Y p) := by
  have stop : Ev (fun k => phalanxref17_Layout.j1 k l p true X Y) ([], 1) := by
    have e : ∀ k, phalanxref17_Layout.j1 (k + 1) l p true X Y = some ([], 1) := fun k => by rw [phalanxref17_Layout.j1, if_pos rfl]
    exact Ev.step e (Ev.now _)
  unfold fin
  by_cases h0 : l.length = 0
  · rw [if_pos (.inl h0)]
    exact Ev.congr (fun k => if_pos (by omega)) stop
  · rcases col_facts l.length (List.mem_range.2 (by omega)) with h | ⟨f1, f2, f3, f4, f5, f6, f7⟩
    · exact absurd h h0
    have hc : ¬ col (l.length : Int) = 0 := by omega
    have h0' : ¬ (l.length : Int) = 0 := by omega
    by_cases hxy : (nearB X && nearB Y) = true
    · rw [if_neg (by rintro (h | h | h) <;> simp_all)]
      refine Ev.congr (fun k => (if_neg h0').trans (by rw [near_ref, Option.bind_some, hxy])) ?_
      have e2 : ∀ k, phalanxref17_Layout.j1 (k + 1) l p false X Y = (phalanxref17_Columns.f k (l.length : Int)).bind fun t124 => (if t124 = 0 then (none) else (phalanxref17_Layout.l1 k l p t124 (wrap64 (Int.tdiv (wrap64 ((wrap64 ((l.length : Int) + t124)) - 1)) t124)) [] 0 X Y)) := fun k => by rw [phalanxref17_Layout.j1, if_neg (by decide)]
      refine Ev.step e2 (Ev.bind (ev_colr (by omega) (by omega)) ?_)
      refine Ev.congr (fun k => (if_neg hc).trans (by rw [f4])) ?_
      exact ev_cellsr (r' := 0) hn hc f3 f5 l.length 0 [] (by omega) rfl
    · rw [if_pos (.inr (by simpa [Bool.and_eq_true, ← Bool.not_eq_true, Decidable.imp_iff_not_or] using hxy))]
      refine Ev.congr (fun k => (if_neg h0').trans (by rw [near_ref, Option.bind_some, (by simpa using hxy : (nearB X && nearB Y) = false)]; rfl)) stop

theorem ev_loop {l : List S23} (hn : l.length ≤ 64) (X Y : Int) : ∀ (m i : Nat) (p : Int), i + m = l.length →
    Ev (fun k => slots_Layout.l0 k l p l (l.length : Int) (i : Int) X Y) (ans l.length X Y (lp (l.drop i) p))
  | 0, i, p, h => by
    have hi : ¬ ((i : Int) < (l.length : Int)) := by omega
    rw [List.drop_eq_nil_of_le (by omega), lp, ans]
    exact Ev.step (fun k => if_neg hi) (ev_fin hn p X Y)
  | m + 1, i, p, h => by
    have hi : (i : Int) < (l.length : Int) := by omega
    rw [rd_drop (by omega), lp]
    have e : ∀ k, slots_Layout.l0 (k + 1) l p l (l.length : Int) (i : Int) X Y = if may (rd_T23 l (i : Int)) = true then slots_Layout.l0 k l (mx p (rd_T23 l (i : Int)).f1) l (l.length : Int) ((i + 1 : Nat) : Int) X Y else some ([], 1) := by
      intro k
      rw [slots_Layout.l0, if_pos hi, if_pos (by omega), if_pos hi, may_slots, Option.bind_some, w_small (n := (i : Int) + 1) (by omega) (by omega)]
      rfl
    refine Ev.step e ?_
    by_cases hm : may (rd_T23 l (i : Int)) = true
    · rw [if_pos hm]
      exact Ev.congr (fun k => if_pos hm) (ev_loop hn X Y m (i + 1) _ (by omega))
    · rw [if_neg hm]
      exact Ev.congr (fun k => if_neg hm) (Ev.now _)
theorem ev_loopr {l : List S23} (hn : l.length ≤ 64) (X Y : Int) : ∀ (m i : Nat) (p : Int), i + m = l.length →
    Ev (fun k => phalanxref17_Layout.l0 k l p (i : Int) X Y) (ans l.length X Y (lp (l.drop i) p))
  | 0, i, p, h => by
    have hi : ¬ ((i : Int) < (l.length : Int)) := by omega
    rw [List.drop_eq_nil_of_le (by omega), lp, ans]
    exact Ev.step (fun k => if_neg hi) (ev_finr hn p X Y)
  | m + 1, i, p, h => by
    have hi : (i : Int) < (l.length : Int) := by omega
    rw [rd_drop (by omega), lp]
    have e : ∀ k, phalanxref17_Layout.l0 (k + 1) l p (i : Int) X Y = if may (rd_T23 l (i : Int)) = true then phalanxref17_Layout.l0 k l (mx p (rd_T23 l (i : Int)).f1) ((i + 1 : Nat) : Int) X Y else some ([], 1) := by
      intro k
      rw [phalanxref17_Layout.l0, if_pos hi, if_pos (by omega), may_ref, Option.bind_some, w_small (n := (i : Int) + 1) (by omega) (by omega)]
      by_cases hm : may (rd_T23 l (i : Int)) = true
      · rw [if_pos hm, if_pos hm]
        unfold mx
        by_cases hg : (rd_T23 l (i : Int)).f1 > p
        · rw [if_pos hg, if_pos hg]; rfl
        · rw [if_neg hg, if_neg hg]; rfl
      · rw [if_neg hm, if_neg hm]
    refine Ev.step e ?_
    by_cases hm : may (rd_T23 l (i : Int)) = true
    · rw [if_pos hm]
      exact Ev.congr (fun k => if_pos hm) (ev_loopr hn X Y m (i + 1) _ (by omega))
    · rw [if_neg hm]
      exact Ev.congr (fun k => if_neg hm) (Ev.now _)

theorem ev_lay (l : List S23) (X Y : Int) : Ev (fun k => slots_Layout.f k l X Y) (lay l X Y) := by
  unfold lay
  by_cases h : 64 < l.length
  · rw [if_pos h]
    exact Ev.congr (fun k => if_pos (by omega)) (Ev.now _)
  · rw [if_neg h]
    exact Ev.congr (fun k => if_neg (by omega)) (ev_loop (by omega) X Y l.length 0 0 (by omega))
theorem ev_layr (l : List S23) (X Y : Int) : Ev (fun k => phalanxref17_Layout.f k l X Y) (lay l X Y) := by
  unfold lay
  by_cases h : 64 < l.length
  · rw [if_pos h]
    exact Ev.congr (fun k => if_pos (by omega)) (Ev.now _)
  · rw [if_neg h]
    exact Ev.congr (fun k => if_neg (by omega)) (ev_loopr (by omega) X Y l.length 0 0 (by omega))

theorem lay_length (l : List S23) (X Y : Int) : (lay l X Y).1.length ≤ 64 := by
  unfold lay
  by_cases h : 64 < l.length
  · rw [if_pos h]; simp
  · rw [if_neg h]
    cases lp l 0 with
    | none => simp [ans]
    | some p =>
      simp only [ans, fin]
      split
      · simp
      · simp only [fr_length]; omega
theorem ev_awake : Ev (fun k => phalanxlaw17_awake.f k) true := Ev.of (fun k => phalanxlaw17_awake.mono k) (k := 100) (by decide +kernel)
end Go.Proofs.Ytjehijlpdeadiaa.M17b
