/- CellApart: any two cells' distances, and which comes first, are told by package cell as the reference tells them. Conditions: none. -/
import Derived.Test.YtjhiccoooaleoaaP3ax5
import Derived.Laws.BitsLemmas
set_option linter.unusedVariables false
set_option linter.unusedSimpArgs false
namespace Go.Proofs.Ytjhiccoooaleoaa.Pure
open Go.RowKit Go.Proofs.Ytjhiccoooaleoaa.P3a Go.Proofs.YtjhiccoooaleoaaW.PrintWords

theorem u64w (n : Int) : IntKind.u64.wrap n = n % 18446744073709551616 := by simp [IntKind.wrap, IntKind.bits, IntKind.signed]
theorem u64i (n : Int) (h0 : 0 ≤ n) (h1 : n < 18446744073709551616) : IntKind.u64.wrap n = n := by rw [u64w]; omega
/-- Is a place not too far away? -/
def nr (a b : Int) : Bool := decide (-1048576 ≤ a ∧ a ≤ 1048576 ∧ -1048576 ≤ b ∧ b ≤ 1048576)
theorem near1 (a b : Int) : cell_Near.f a b = some (nr a b) := by
  unfold cell_Near.f cell_near.f nr
  by_cases h0 : a ≥ -1048576
  · rw [if_pos h0, Option.bind_some]
    by_cases h1 : a ≤ 1048576
    · rw [if_pos (decide_eq_true h1)]
      by_cases h2 : b ≥ -1048576
      · rw [if_pos h2, Option.bind_some]
        congr 1
        exact decide_eq_decide.2 ⟨fun h => ⟨h0, h1, h2, h⟩, fun h => h.2.2.2⟩
      · rw [if_neg h2, Option.bind_some, decide_eq_false (fun h => h2 h.2.2.1)]
    · rw [if_neg (by simpa using h1), decide_eq_false (fun h => h1 h.2.1)]
  · rw [if_neg h0, Option.bind_some, if_neg (by decide), decide_eq_false (fun h => h0 h.1)]
theorem near2 (a b : Int) : phalanxref03_Near.f a b = some (nr a b) := near1 a b
/-- An amount. -/
def ab (n : Int) : Int := if n < 0 then -n else n
theorem w_mid {n : Int} (h0 : -1000000000 ≤ n) (h1 : n ≤ 1000000000) : wrap64 n = n := by unfold wrap64; omega
theorem abs_ref {n : Int} (h0 : -1000000000 ≤ n) (h1 : n ≤ 1000000000) : phalanxref03_abs.f n = some (ab n) := by
  unfold phalanxref03_abs.f ab
  split
  · rw [w_mid (by omega) (by omega)]
  · rfl
theorem amount_cell {a b : Int} (h0 : -1048576 ≤ a) (h1 : a ≤ 1048576) (g0 : -1048576 ≤ b) (g1 : b ≤ 1048576) : cell_amount.f a b = some (ab (a - b)) := by
  unfold cell_amount.f ab mx
  rw [w_mid (by omega) (by omega), w_mid (by omega) (by omega)]
  congr 1
  split <;> split <;> omega
theorem amount_fixed {n : Int} (h0 : -1000000000 ≤ n) (h1 : n ≤ 1000000000) : fixed_amount.f n = some (ab n) := by
  unfold fixed_amount.f ab
  simp only [u64w]
  split <;> (congr 1; omega)
/-- How far two cells are apart. -/
def far (a b c d : Int) : Int := if nr a b = true ∧ nr c d = true then mx (ab (a - c)) (ab (b - d)) else 0
theorem nr_bd {a b : Int} (h : nr a b = true) : -1048576 ≤ a ∧ a ≤ 1048576 ∧ -1048576 ≤ b ∧ b ≤ 1048576 := of_decide_eq_true h
theorem ab_bd {n : Int} (h0 : -2097152 ≤ n) (h1 : n ≤ 2097152) : 0 ≤ ab n ∧ ab n ≤ 2097152 := by unfold ab; split <;> omega
theorem ev_apart (a b c d : Int) : Ev (fun k => cell_Apart.f k a b c d) (far a b c d) := by
  unfold far
  have stop : Ev (fun k => cell_Apart.j0 k true a b c d) 0 := by
    have e : ∀ k, cell_Apart.j0 (k + 1) true a b c d = some 0 := fun k => by rw [cell_Apart.j0, if_pos rfl]
    exact Ev.step e (Ev.now _)
  by_cases h : nr a b = true
  · have e1 : ∀ k, cell_Apart.f k a b c d = cell_Apart.j0 k (!(nr c d)) a b c d := fun k => by rw [cell_Apart.f, near1, Option.bind_some, if_pos h, near1, Option.bind_some]
    refine Ev.congr e1 ?_
    by_cases g : nr c d = true
    · rw [if_pos ⟨h, g⟩, g]
      have h' := nr_bd h
      have g' := nr_bd g
      have e : ∀ k, cell_Apart.j0 (k + 1) false a b c d = some (mx (ab (a - c)) (ab (b - d))) := fun k => by
        rw [cell_Apart.j0, if_neg (by decide), amount_cell h'.1 h'.2.1 g'.1 g'.2.1, Option.bind_some, amount_cell h'.2.2.1 h'.2.2.2 g'.2.2.1 g'.2.2.2, Option.bind_some]
      exact Ev.step e (Ev.now _)
    · rw [if_neg (fun x => g x.2), (by simpa using g : nr c d = false)]
      exact stop
  · rw [if_neg (fun x => h x.1)]
    refine Ev.congr (fun k => ?_) stop
    rw [cell_Apart.f, near1, Option.bind_some, if_neg h]
theorem ev_apartr (a b c d : Int) : Ev (fun k => phalanxref03_Apart.f k a b c d) (far a b c d) := by
  unfold far
  have stop : Ev (fun k => phalanxref03_Apart.j0 k true a b c d) 0 := by
    have e : ∀ k, phalanxref03_Apart.j0 (k + 1) true a b c d = some 0 := fun k => by rw [phalanxref03_Apart.j0, if_pos rfl]
    exact Ev.step e (Ev.now _)
  by_cases h : nr a b = true
  · have e1 : ∀ k, phalanxref03_Apart.f k a b c d = phalanxref03_Apart.j0 k (!(nr c d)) a b c d := fun k => by rw [phalanxref03_Apart.f, near2, Option.bind_some, if_pos h, near2, Option.bind_some]
    refine Ev.congr e1 ?_
    by_cases g : nr c d = true
    · rw [if_pos ⟨h, g⟩, g]
      have h' := nr_bd h
      have g' := nr_bd g
      have e : ∀ k, phalanxref03_Apart.j0 (k + 1) false a b c d = some (mx (ab (a - c)) (ab (b - d))) := fun k => by
        rw [phalanxref03_Apart.j0, if_neg (by decide), w_mid (n := a - c) (by omega) (by omega), w_mid (n := b - d) (by omega) (by omega), abs_ref (by omega) (by omega), Option.bind_some, abs_ref (by omega) (by omega), Option.bind_some]
        unfold mx
        split <;> rfl
      exact Ev.step e (Ev.now _)
    · rw [if_neg (fun x => g x.2), (by simpa using g : nr c d = false)]
      exact stop
  · rw [if_neg (fun x => h x.1)]
    refine Ev.congr (fun k => ?_) stop
    rw [phalanxref03_Apart.f, near2, Option.bind_some, if_neg h]

theorem low32 (x : Int) (h0 : 0 ≤ x) (h1 : x < 4294967296) : Go.bits .and .u64 x 4294967295 = x := by
  have := bits_mask .u64 64 (by decide) (fun n h0 h1 => u64i n h0 (by simpa using h1)) 32 (by decide) x h0 (by simp; omega)
  simp at this
  omega
theorem mul64 {x y : Int} (x0 : 0 ≤ x) (x1 : x ≤ 4194304) (y0 : 0 ≤ y) (y1 : y ≤ 15) : bits_Mul64.f x y = some (0, x * y) := by
  have b0 : 0 ≤ x * y := Int.mul_nonneg x0 y0
  have b1 : x * y ≤ 4194304 * 15 := Int.mul_le_mul x1 y1 y0 (by decide)
  unfold bits_Mul64.f
  rw [low32 x x0 (by omega), low32 y y0 (by omega), show x / 4294967296 = 0 by omega, show y / 4294967296 = 0 by omega]
  simp only [Int.zero_mul, Int.mul_zero]
  generalize x * y = p at *
  simp only [u64w]
  rw [show ((0 : Int) % 18446744073709551616) = 0 from rfl, show p % 18446744073709551616 = p by omega, show p / 4294967296 = 0 by omega]
  congr 1
/-- What a way between two cells costs at least. -/
def oct (x y : Int) : Int := if ab x < ab y then ab x * 14 + (ab y - ab x) * 10 else ab y * 14 + (ab x - ab y) * 10
theorem ev_signed {n : Int} (h0 : 0 ≤ n) (h1 : n < 1000000000) : Ev (fun k => fixed_signed.f k n false) (n, true) := by
  refine Ev.congr (f := fun k => fixed_signed.j0 k n false false) (fun k => ?_) ?_
  · unfold fixed_signed.f
    rw [if_neg (by decide)]
  · refine Ev.step (f := fun _ => some (n, true)) (fun k => ?_) (Ev.now _)
    rw [fixed_signed.j0, if_neg (by decide), if_neg (by decide), if_pos (by omega), w_mid (n := n) (by omega) (by omega)]
theorem ev_foct0 {hi lo : Int} (l0 : 0 ≤ lo) (lh : lo ≤ hi) (h1 : hi ≤ 2097152) : Ev (fun k => fixed_Octile.j0 k hi lo) (lo * 14 + (hi - lo) * 10, true) := by
  have e : ∀ k, fixed_Octile.j0 (k + 1) hi lo = (fixed_signed.f k (lo * 14 + (hi - lo) * 10) false).bind fun bt147 => (some (bt147.1, bt147.2)) := by
    intro k
    have ea : bits_Add64.f (lo * 14) ((hi - lo) * 10) 0 = some (lo * 14 + (hi - lo) * 10, 0) := by
      unfold bits_Add64.f
      congr 2 <;> omega
    rw [fixed_Octile.j0, mul64 l0 (by omega) (by decide) (by decide), Option.bind_some, u64i (hi - lo) (by omega) (by omega), mul64 (by omega) (by omega) (by decide) (by decide), Option.bind_some, ea, Option.bind_some, if_pos rfl, if_pos rfl, if_pos rfl]
  exact Ev.step e (Ev.bind (ev_signed (by omega) (by omega)) (Ev.now _))
theorem ev_foct {x y : Int} (x0 : -2097152 ≤ x) (x1 : x ≤ 2097152) (y0 : -2097152 ≤ y) (y1 : y ≤ 2097152) : Ev (fun k => fixed_Octile.f k x y) (oct x y, true) := by
  have bx := ab_bd x0 x1
  have bY := ab_bd y0 y1
  have e : ∀ k, fixed_Octile.f k x y = if ab x < ab y then (fixed_Octile.j0 k (ab y) (ab x)) else (fixed_Octile.j0 k (ab x) (ab y)) := by
    intro k
    rw [fixed_Octile.f, amount_fixed (by omega) (by omega), Option.bind_some, amount_fixed (by omega) (by omega), Option.bind_some]
  refine Ev.congr e ?_
  unfold oct
  by_cases h : ab x < ab y
  · rw [if_pos h]
    exact Ev.congr (fun k => if_pos h) (ev_foct0 (by omega) (by omega) (by omega))
  · rw [if_neg h]
    exact Ev.congr (fun k => if_neg h) (ev_foct0 (by omega) (by omega) (by omega))
/-- What a way between two cells costs at least; nothing where one is too far away. -/
def cost (a b c d : Int) : Int := if nr a b = true ∧ nr c d = true then oct (a - c) (b - d) else 0
theorem ev_oct (a b c d : Int) : Ev (fun k => cell_Octile.f k a b c d) (cost a b c d) := by
  unfold cost
  by_cases h : nr a b = true
  · by_cases g : nr c d = true
    · have h' := nr_bd h
      have g' := nr_bd g
      rw [if_pos ⟨h, g⟩]
      have e : ∀ k, cell_Octile.f k a b c d = (fixed_Octile.f k (a - c) (b - d)).bind fun bt153 => (some bt153.1) := fun k => by
        rw [cell_Octile.f, near1, Option.bind_some, if_pos h, near1, Option.bind_some, if_pos g, w_mid (n := a - c) (by omega) (by omega), w_mid (n := b - d) (by omega) (by omega)]
      exact Ev.congr e (Ev.bind (ev_foct (by omega) (by omega) (by omega) (by omega)) (Ev.now _))
    · rw [if_neg (fun x => g x.2)]
      exact Ev.congr (fun k => by rw [cell_Octile.f, near1, Option.bind_some, if_pos h, near1, Option.bind_some, if_neg g]) (Ev.now _)
  · rw [if_neg (fun x => h x.1)]
    exact Ev.congr (fun k => by rw [cell_Octile.f, near1, Option.bind_some, if_neg h]) (Ev.now _)
theorem ev_octr (a b c d : Int) : Ev (fun k => phalanxref03_Octile.f k a b c d) (cost a b c d) := by
  unfold cost
  have stop : Ev (fun k => phalanxref03_Octile.j0 k true a b c d) 0 := by
    have e : ∀ k, phalanxref03_Octile.j0 (k + 1) true a b c d = some 0 := fun k => by rw [phalanxref03_Octile.j0, if_pos rfl]
    exact Ev.step e (Ev.now _)
  by_cases h : nr a b = true
  · have e1 : ∀ k, phalanxref03_Octile.f k a b c d = phalanxref03_Octile.j0 k (!(nr c d)) a b c d := fun k => by rw [phalanxref03_Octile.f, near2, Option.bind_some, if_pos h, near2, Option.bind_some]
    refine Ev.congr e1 ?_
    by_cases g : nr c d = true
    · rw [if_pos ⟨h, g⟩, g]
      have h' := nr_bd h
      have g' := nr_bd g
      have bx := ab_bd (n := a - c) (by omega) (by omega)
      have bY := ab_bd (n := b - d) (by omega) (by omega)
      have e : ∀ k, phalanxref03_Octile.j0 (k + 1) false a b c d = some (oct (a - c) (b - d)) := fun k => by
        rw [phalanxref03_Octile.j0, if_neg (by decide), w_mid (n := a - c) (by omega) (by omega), w_mid (n := b - d) (by omega) (by omega), abs_ref (by omega) (by omega), Option.bind_some, abs_ref (by omega) (by omega), Option.bind_some]
        unfold oct
        by_cases q : ab (a - c) > ab (b - d)
        · rw [if_pos q, if_neg (by omega)]
          congr 1
          rw [w_mid (n := ab (a - c) - ab (b - d)) (by omega) (by omega), w_mid (n := 14 * _) (by omega) (by omega), w_mid (n := 10 * _) (by omega) (by omega), w_mid (by omega) (by omega)]
          omega
        · rw [if_neg q]
          congr 1
          rw [w_mid (n := ab (b - d) - ab (a - c)) (by omega) (by omega), w_mid (n := 14 * _) (by omega) (by omega), w_mid (n := 10 * _) (by omega) (by omega), w_mid (by omega) (by omega)]
          split <;> omega
      exact Ev.step e (Ev.now _)
    · rw [if_neg (fun x => g x.2), (by simpa using g : nr c d = false)]
      exact stop
  · rw [if_neg (fun x => h x.1)]
    refine Ev.congr (fun k => ?_) stop
    rw [phalanxref03_Octile.f, near2, Option.bind_some, if_neg h]
theorem less_some (a b c d : Int) : ∃ x, cell_Less.f a b c d = some x := by
  unfold cell_Less.f
  split
  · exact ⟨_, rfl⟩
  · split <;> exact ⟨_, rfl⟩
theorem ev_awake : Ev (fun k => phalanxlaw03_awake.f k) true := Ev.of (fun k => phalanxlaw03_awake.mono k) (k := 5) (by decide +kernel)
theorem CellApart : phalanxlaw03_CellApart.Pure := by
  intro a b c d _ _ _ _
  obtain ⟨x, hx⟩ := less_some a b c d
  have hr : phalanxref03_Less.f a b c d = some x := hx
  have h : Ev (fun k => phalanxlaw03_CellApart.f k a b c d) true := by
    refine Ev.bind (ev_apart a b c d) (Ev.bind (ev_apartr a b c d) (Ev.congr (fun k => if_pos rfl) ?_))
    refine Ev.bind (ev_oct a b c d) (Ev.bind (ev_octr a b c d) (Ev.congr (fun k => if_pos rfl) ?_))
    refine Ev.congr (f := fun k => (phalanxlaw03_awake.f k).bind fun t173 => (some t173)) (fun k => ?_) (Ev.bind ev_awake (Ev.now _))
    rw [hx, Option.bind_some, hr, Option.bind_some, if_pos (by simp)]
  exact h.rounds
end Go.Proofs.Ytjhiccoooaleoaa.Pure
