/- Roots and narrowing, by fixed and by phalanxref01. -/
import Derived.Test.YtjhiccoooaleoaaP01x0
import Derived.Test.YtjhiccoooaleoaaP01x3
import Derived.Test.YtjhiccoooaleoaaP01x4
import Derived.Test.YtjhiccoooaleoaaP01x7
import Derived.Test.YtjhiccoooaleoaaP01x8
import Derived.Test.YtjhiccoooaleoaaP01x18
import Derived.Test.YtjhiccoooaleoaaP01x19
import Derived.Test.YtjhiccoooaleoaaP01x20
import Derived.Test.YtjhiccoooaleoaaM01s
set_option linter.unusedVariables false
set_option linter.unusedSimpArgs false
namespace Go.Proofs.Ytjhiccoooaleoaa.M01
open Go.RowKit Go.Proofs.YtjhiccoooaleoaaW.PrintWords Go.Proofs.Ytjhiccoooaleoaa.P01
/-! ### Roots -/
/-- The root, by bits. -/
def rt (a : Int) : Nat → Int → Int
  | 0, r => r
  | m + 1, r => if (r + 2 ^ m) * (r + 2 ^ m) ≤ a then rt a m (r + 2 ^ m) else rt a m r
theorem rt_spec (a : Int) : ∀ (m : Nat) (r : Int), 0 ≤ r → r * r ≤ a → a < (r + 2 ^ m) * (r + 2 ^ m) → rt a m r * rt a m r ≤ a ∧ a < (rt a m r + 1) * (rt a m r + 1) ∧ 0 ≤ rt a m r ∧ rt a m r < r + 2 ^ m
  | 0, r, h0, h1, h2 => ⟨h1, by simpa [rt] using h2, h0, by simp [rt]; omega⟩
  | m + 1, r, h0, h1, h2 => by
    have hp : (0 : Int) < 2 ^ m := Int.pow_pos (by decide)
    have e : (2 : Int) ^ (m + 1) = 2 ^ m + 2 ^ m := by rw [Int.pow_succ]; omega
    unfold rt
    split
    · rename_i h
      have := rt_spec a m (r + 2 ^ m) (by omega) h (by rw [Int.add_assoc, ← e]; exact h2)
      refine ⟨this.1, this.2.1, this.2.2.1, ?_⟩
      have := this.2.2.2
      omega
    · rename_i h
      have := rt_spec a m r h0 h1 (by omega)
      refine ⟨this.1, this.2.1, this.2.2.1, ?_⟩
      have := this.2.2.2
      omega
/-- A root, or none. -/
def sq (a : Int) : Int × Bool := if a < 0 then (0, false) else (rt a 32 0, true)
theorem or_bit {r : Int} {m : Nat} (hm : m ≤ 31) (h0 : 0 ≤ r) (h1 : r < 4294967296) (hd : r % 2 ^ (m + 1) = 0) : Go.bits .or .i64 r (2 ^ m) = r + 2 ^ m := by
  have hp : (0 : Int) < 2 ^ m := Int.pow_pos (by decide)
  have e : (2 : Int) ^ (m + 1) = 2 ^ m + 2 ^ m := by rw [Int.pow_succ]; omega
  refine bits_join .i64 63 (by decide) (fun n h0 h1 => ?_) (m + 1) r (2 ^ m) h0 hd (by simpa using (by omega : r < 9223372036854775808)) (by omega) (by omega) ?_
  · rw [IntKind.wrap_i64]
    simp at h1
    omega
  · have := p2_le m (by omega)
    simpa using (by omega : (2 : Int) ^ m < 9223372036854775808)
theorem sq_mono {x y : Int} (h0 : 0 ≤ x) (h : x ≤ y) : x * x ≤ y * y := by
  have h1 := Int.mul_le_mul_of_nonneg_left h h0
  have h2 := Int.mul_le_mul_of_nonneg_right h (show 0 ≤ y by omega)
  omega
theorem fix_root {a : Int} (ha : I64 a) (a0 : 0 ≤ a) : ∀ (m : Nat) (r : Int), m ≤ 32 → 0 ≤ r → r + 2 ^ m ≤ 4294967296 → r % 2 ^ m = 0 → Ev (fun k => fixed_Sqrt.l0 k a r (if m = 0 then 0 else 2 ^ (m - 1))) (rt a m r, true)
  | 0, r, hm, h0, h1, hd => by
    refine Ev.step (f := fun _ => some (r, true)) (fun k => ?_) (Ev.now _)
    simp only [fixed_Sqrt.l0]
    rw [if_neg (by simp)]
  | m + 1, r, hm, h0, h1, hd => by
    have hp : (0 : Int) < 2 ^ m := Int.pow_pos (by decide)
    have e : (2 : Int) ^ (m + 1) = 2 ^ m + 2 ^ m := by rw [Int.pow_succ]; omega
    have hd2 : r % 2 ^ m = 0 := by
      have h := Int.mul_ediv_add_emod r (2 ^ (m + 1))
      rw [hd, e] at h
      have : r = 2 ^ m * (2 * (r / (2 ^ m + 2 ^ m))) := by
        rw [← Int.mul_assoc, Int.mul_comm (2 ^ m) 2]
        have e3 : (2 : Int) * 2 ^ m = 2 ^ m + 2 ^ m := by omega
        rw [e3]
        omega
      rw [this]
      exact Int.mul_emod_right _ _
    have hor := or_bit (r := r) (m := m) (by omega) h0 (by omega) hd
    have hhalf : (2 : Int) ^ m / 2 = if m = 0 then 0 else 2 ^ (m - 1) := by
      cases m with
      | zero => rfl
      | succ m => rw [if_neg (by omega), Int.pow_succ]; simp
    have ht0 : 0 ≤ (r + 2 ^ m) * (r + 2 ^ m) := Int.mul_nonneg (by omega) (by omega)
    have step : ∀ k, fixed_Sqrt.l0 (k + 1) a r (2 ^ m) = if (r + 2 ^ m) * (r + 2 ^ m) ≤ a then fixed_Sqrt.l0 k a (r + 2 ^ m) (if m = 0 then 0 else 2 ^ (m - 1)) else fixed_Sqrt.l0 k a r (if m = 0 then 0 else 2 ^ (m - 1)) := by
      intro k
      simp only [fixed_Sqrt.l0]
      rw [if_pos (by omega), hor, hhalf]
      by_cases hb : r + 2 ^ m < 3037000500
      · have hs : (r + 2 ^ m) * (r + 2 ^ m) ≤ 3037000499 * 3037000499 := sq_mono (by omega) (by omega)
        rw [w64_in _ (by omega) (by omega), if_pos hb]
      · have hs : 3037000500 * 3037000500 ≤ (r + 2 ^ m) * (r + 2 ^ m) := sq_mono (by omega) (by omega)
        unfold I64 at ha
        rw [if_neg hb, if_neg (show ¬ (r + 2 ^ m) * (r + 2 ^ m) ≤ a by omega)]
        split <;> rfl
    show Ev (fun k => fixed_Sqrt.l0 k a r (if m + 1 = 0 then 0 else 2 ^ (m + 1 - 1))) (rt a (m + 1) r, true)
    rw [if_neg (by omega), show m + 1 - 1 = m from rfl]
    refine Ev.step step ?_
    unfold rt
    by_cases h : (r + 2 ^ m) * (r + 2 ^ m) ≤ a
    · rw [if_pos h]
      refine Ev.congr (fun k => if_pos h) (fix_root ha a0 m (r + 2 ^ m) (by omega) (by omega) (by omega) ?_)
      rw [Int.add_emod_right]
      exact hd2
    · rw [if_neg h]
      exact Ev.congr (fun k => if_neg h) (fix_root ha a0 m r (by omega) h0 (by omega) hd2)
theorem fixSqrt {a : Int} (ha : I64 a) : Ev (fun k => fixed_Sqrt.f k a) (sq a) := by
  unfold sq
  by_cases h : a < 0
  · rw [if_pos h]
    exact Ev.congr (f := fun _ => some (0, false)) (fun k => by unfold fixed_Sqrt.f; rw [if_pos h]) (Ev.now _)
  · rw [if_neg h]
    refine Ev.congr (fun k => ?_) (fix_root ha (by omega) 32 0 (by omega) (by omega) (by simp) (by simp))
    unfold fixed_Sqrt.f
    rw [if_neg h, if_neg (by omega)]
    rfl
theorem ref_root {a : Int} (ha : I64 a) (a0 : 0 ≤ a) : ∀ (m : Nat) (r : Int), m ≤ 32 → 0 ≤ r → r + 2 ^ m ≤ 4294967296 → Ev (fun k => phalanxref01_Sqrt.l0 k a r ((m : Int) - 1)) (rt a m r, true)
  | 0, r, hm, h0, h1 => by
    refine Ev.step (f := fun _ => some (r, true)) (fun k => ?_) (Ev.now _)
    simp only [phalanxref01_Sqrt.l0]
    rw [if_neg (by omega)]
  | m + 1, r, hm, h0, h1 => by
    have hp : (0 : Int) < 2 ^ m := Int.pow_pos (by decide)
    have e : (2 : Int) ^ (m + 1) = 2 ^ m + 2 ^ m := by rw [Int.pow_succ]; omega
    have hp2 := p2_le m (by omega)
    obtain ⟨A, ea, oa, va, la⟩ := Of_val a ha.1 ha.2
    obtain ⟨B, eb, ob, vb, lb⟩ := Of_val (r + 2 ^ m) (by omega) (by omega)
    rw [if_neg (by omega)] at va vb
    obtain ⟨p, ep, op, vp, lp⟩ := Product_val (decide (r + 2 ^ m < 0)) (decide (r + 2 ^ m < 0)) ob ob (by omega) (by omega)
    have hl := less_val oa op (by omega) (by omega)
    rw [va, vp, vb] at hl
    have step : ∀ k, phalanxref01_Sqrt.l0 (k + 1) a r (((m + 1 : Nat) : Int) - 1) = (phalanxref01_Of.f k a).bind fun x => (phalanxref01_Of.f k (r + 2 ^ m)).bind fun y => (phalanxref01_Of.f k (r + 2 ^ m)).bind fun z => (phalanxref01_Product.f k y.1 y.2 z.1 z.2).bind fun v => (phalanxref01_less.f k x.2 v.2).bind fun t => if t = true then phalanxref01_Sqrt.l0 k a r ((m : Int) - 1) else phalanxref01_Sqrt.l0 k a (r + 2 ^ m) ((m : Int) - 1) := by
      intro k
      simp only [phalanxref01_Sqrt.l0]
      rw [show ((m + 1 : Nat) : Int) - 1 = (m : Int) by omega, if_pos (by omega), u64_in (m : Int) (by omega) (by omega), if_pos (by omega), shl_i64 _ m (by omega), Int.one_mul, w64_in (2 ^ m) (by omega) (by omega), w64_in (r + 2 ^ m) (by omega) (by omega), w64_in ((m : Int) - 1) (by omega) (by omega)]
    refine Ev.step step (Ev.bind ea (Ev.bind eb (Ev.bind eb (Ev.bind ep (Ev.bind hl ?_)))))
    unfold rt
    by_cases h : (r + 2 ^ m) * (r + 2 ^ m) ≤ a
    · rw [if_pos h, decide_eq_false (by omega)]
      exact Ev.congr (fun k => if_neg (by simp)) (ref_root ha a0 m (r + 2 ^ m) (by omega) (by omega) (by omega))
    · rw [if_neg h, decide_eq_true (by omega)]
      exact Ev.congr (fun k => if_pos rfl) (ref_root ha a0 m r (by omega) h0 (by omega))
theorem refSqrt {a : Int} (ha : I64 a) : Ev (fun k => phalanxref01_Sqrt.f k a) (sq a) := by
  unfold sq
  by_cases h : a < 0
  · rw [if_pos h]
    exact Ev.congr (f := fun _ => some (0, false)) (fun k => by unfold phalanxref01_Sqrt.f; rw [if_pos h]) (Ev.now _)
  · rw [if_neg h]
    refine Ev.congr (fun k => ?_) (ref_root ha (by omega) 32 0 (by omega) (by omega) (by simp))
    unfold phalanxref01_Sqrt.f
    rw [if_neg h]
    rfl

/-! ### Narrowing -/
/-- A number of so many bits, or none. -/
def nw (a n : Int) : Int × Bool := if n < 1 ∨ 64 < n then (0, false) else if -(2 ^ (n - 1).toNat) ≤ a ∧ a < 2 ^ (n - 1).toNat then (a, true) else (0, false)
theorem fixNarrow {a n : Int} : fixed_Narrow.f a n = some (nw a n) := by
  unfold fixed_Narrow.f nw
  by_cases h1 : n < 1
  · rw [if_pos h1, if_pos (.inl h1)]
  rw [if_neg h1]
  by_cases h2 : n > 64
  · rw [if_pos h2, if_pos (.inr h2)]
  rw [if_neg h2, if_neg (show ¬ (n < 1 ∨ 64 < n) by omega), w64_in _ (by omega) (by omega), if_pos (by omega)]
  obtain ⟨m, hm⟩ := Int.eq_ofNat_of_zero_le (show 0 ≤ n - 1 by omega)
  rw [hm, shr_i64 _ m (by omega), Int.toNat_natCast]
  have hp : (0 : Int) < 2 ^ m := Int.pow_pos (by decide)
  have h3 := Int.mul_ediv_add_emod a (2 ^ m)
  have h4 := Int.emod_nonneg a (show (2 : Int) ^ m ≠ 0 by omega)
  have h5 := Int.emod_lt_of_pos a hp
  by_cases c1 : a / 2 ^ m = 0
  · rw [c1] at h3
    rw [if_pos c1, if_pos (by simp at h3; omega)]
  · rw [if_neg c1]
    by_cases c2 : a / 2 ^ m = -1
    · rw [c2] at h3
      rw [if_pos c2, if_pos (by omega)]
    · rw [if_neg c2, if_neg]
      rintro ⟨h6, h7⟩
      rcases (by omega : 1 ≤ a / 2 ^ m ∨ a / 2 ^ m ≤ -2) with h | h
      · have := Int.mul_le_mul_of_nonneg_left h (Int.le_of_lt hp)
        omega
      · have := Int.mul_le_mul_of_nonneg_left h (Int.le_of_lt hp)
        omega
theorem ref_narrow {a n : Int} (ha : I64 a) (h1 : 1 ≤ n) (h2 : n ≤ 64) : ∀ (m : Nat) (i : Int) (s : Bool) (D : List Int), 1 ≤ i → n = i + m → ok D → D.length ≤ 3 + i → lv s D = 2 ^ (i - 1).toNat → s = false → Ev (fun k => phalanxref01_Narrow.l0 k a n i s D) (nw a n) := by
  intro m
  induction m with
  | zero =>
    intro i s D h0 hi hok hl hv hs
    subst hs
    have hv' : val D = 2 ^ (n - 1).toNat := by rw [show n = i by omega, ← hv]; rfl
    obtain ⟨A, ea, oa, va, la⟩ := Of_val a ha.1 ha.2
    have hla := less_val hok oa (by omega) (by omega)
    have hlb := less_val oa hok (by omega) (by omega)
    rw [hv', va] at hla hlb
    have hp : (0 : Int) < 2 ^ (n - 1).toNat := Int.pow_pos (by decide)
    have step : ∀ k, phalanxref01_Narrow.l0 (k + 1) a n i false D = (phalanxref01_Of.f k a).bind fun x => (if x.1 = true then ((phalanxref01_less.f k D x.2).bind fun t475 => (if t475 = true then (some (0, false)) else (some (a, true)))) else ((phalanxref01_less.f k x.2 D).bind fun t476 => (if t476 = true then (some (a, true)) else (some (0, false))))) := by
      intro k
      simp only [phalanxref01_Narrow.l0]
      rw [if_neg (by omega)]
    refine Ev.step step (Ev.bind ea ?_)
    unfold nw
    rw [if_neg (by omega)]
    by_cases c : a < 0
    · rw [if_pos c] at hla
      refine Ev.congr (fun k => if_pos (by simpa using c)) (Ev.bind hla ?_)
      by_cases c2 : 2 ^ (n - 1).toNat < -a
      · rw [decide_eq_true c2, if_neg (show ¬ (-(2 ^ (n - 1).toNat) ≤ a ∧ a < 2 ^ (n - 1).toNat) by omega)]
        exact Ev.congr (f := fun _ => some (0, false)) (fun k => if_pos rfl) (Ev.now _)
      · rw [decide_eq_false c2, if_pos (show -(2 ^ (n - 1).toNat) ≤ a ∧ a < 2 ^ (n - 1).toNat by omega)]
        exact Ev.congr (f := fun _ => some (a, true)) (fun k => if_neg (by simp)) (Ev.now _)
    · rw [if_neg c] at hlb
      refine Ev.congr (fun k => if_neg (by simpa using c)) (Ev.bind hlb ?_)
      by_cases c2 : a < 2 ^ (n - 1).toNat
      · rw [decide_eq_true c2, if_pos (show -(2 ^ (n - 1).toNat) ≤ a ∧ a < 2 ^ (n - 1).toNat by omega)]
        exact Ev.congr (f := fun _ => some (a, true)) (fun k => if_pos rfl) (Ev.now _)
      · rw [decide_eq_false c2, if_neg (show ¬ (-(2 ^ (n - 1).toNat) ≤ a ∧ a < 2 ^ (n - 1).toNat) by omega)]
        exact Ev.congr (f := fun _ => some (0, false)) (fun k => if_neg (by simp)) (Ev.now _)
  | succ m ih =>
    intro i s D h0 hi hok hl hv hs
    subst hs
    -- both of one sign: the sum bears it
    obtain ⟨r, ep, op, vp, lp⟩ := plus_val hok hok (by omega) (by omega)
    have es : Ev (fun k => phalanxref01_Sum.f k false D false D) (false, r) := by
      refine Ev.congr (f := fun k => (phalanxref01_plus.f k D D).bind fun t167 => (some (false, t167))) (fun k => ?_) (Ev.bind ep (Ev.now _))
      unfold phalanxref01_Sum.f
      rw [if_pos (by simp)]
    have hv0 : val D = 2 ^ (i - 1).toNat := hv
    have := ih (i + 1) false r (by omega) (by omega) op (by omega) (by
      show val r = _
      rw [vp, hv0, show (i + 1 - 1).toNat = (i - 1).toNat + 1 by omega, Int.pow_succ]
      omega) rfl
    have e : ∀ k, phalanxref01_Narrow.l0 (k + 1) a n i false D = (phalanxref01_Sum.f k false D false D).bind fun x => phalanxref01_Narrow.l0 k a n (i + 1) x.1 x.2 := by
      intro k
      simp only [phalanxref01_Narrow.l0]
      rw [if_pos (by omega), w64_in _ (by omega) (by omega)]
    exact Ev.step e (Ev.bind es this)
theorem refNarrow {a n : Int} (ha : I64 a) : Ev (fun k => phalanxref01_Narrow.f k a n) (nw a n) := by
  have no : Ev (fun k => phalanxref01_Narrow.j0 k a n true) (0, false) := Ev.step (f := fun _ => some (0, false)) (fun k => by simp [phalanxref01_Narrow.j0]) (Ev.now _)
  by_cases h1 : n < 1
  · unfold nw
    rw [if_pos (.inl h1)]
    refine Ev.congr (fun k => ?_) no
    unfold phalanxref01_Narrow.f
    rw [if_pos h1]
  by_cases h2 : n > 64
  · unfold nw
    rw [if_pos (.inr h2)]
    refine Ev.congr (fun k => ?_) no
    unfold phalanxref01_Narrow.f
    rw [if_neg h1, decide_eq_true h2]
  obtain ⟨A, ea, oa, va, la⟩ := Of_val 1 (by omega) (by omega)
  rw [if_neg (by omega)] at va
  have e1 := ref_narrow (a := a) (n := n) ha (by omega) (by omega) (n - 1).toNat 1 (decide ((1 : Int) < 0)) A (by omega) (by omega) oa (by omega) (by
    show lv false A = _
    unfold lv
    simp [va]) (by rfl)
  have e : ∀ k, phalanxref01_Narrow.j0 (k + 1) a n false = (phalanxref01_Of.f k 1).bind fun x => phalanxref01_Narrow.l0 k a n 1 x.1 x.2 := by
    intro k
    simp only [phalanxref01_Narrow.j0]
    rw [if_neg (by simp)]
  have e2 : Ev (fun k => (phalanxref01_Of.f k 1).bind fun x => phalanxref01_Narrow.l0 k a n 1 x.1 x.2) _ := Ev.bind ea e1
  refine Ev.congr (fun k => ?_) (Ev.step (g := fun k => phalanxref01_Narrow.j0 k a n false) e e2)
  unfold phalanxref01_Narrow.f
  rw [if_neg h1, decide_eq_false h2]

end Go.Proofs.Ytjhiccoooaleoaa.M01
