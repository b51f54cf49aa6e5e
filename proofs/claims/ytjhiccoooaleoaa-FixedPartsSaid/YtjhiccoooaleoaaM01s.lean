/- Shifts, by fixed and by phalanxref01. -/
import Derived.Test.YtjhiccoooaleoaaP01x0
import Derived.Test.YtjhiccoooaleoaaP01x3
import Derived.Test.YtjhiccoooaleoaaP01x7
import Derived.Test.YtjhiccoooaleoaaP01x16
import Derived.Test.YtjhiccoooaleoaaP01x17
import Derived.Test.YtjhiccoooaleoaaM01e
set_option linter.unusedVariables false
set_option linter.unusedSimpArgs false
namespace Go.Proofs.Ytjhiccoooaleoaa.M01
open Go.RowKit Go.Proofs.YtjhiccoooaleoaaW.PrintWords Go.Proofs.Ytjhiccoooaleoaa.P01
/-! ### Shifts -/
theorem shr_i64 (x : Int) (m : Nat) (hm : m ≤ 64) : shr .i64 x (m : Int) = x / 2 ^ m := by
  unfold shr
  rw [Int.toNat_natCast, Nat.min_eq_left (show m ≤ IntKind.i64.bits from hm)]
theorem shl_i64 (x : Int) (m : Nat) (hm : m ≤ 64) : shl .i64 x (m : Int) = wrap64 (x * 2 ^ m) := by
  unfold shl
  rw [Int.toNat_natCast, Nat.min_eq_left (show m ≤ IntKind.i64.bits from hm), IntKind.wrap_i64]
  unfold wrap64
  rfl
/-- A shift, or none. -/
def sh (a n : Int) : Int × Bool := if n < 0 then (0, false) else if a = 0 then (0, true) else if n ≥ 64 then (0, false) else fit (a * 2 ^ n.toNat)
theorem fixShl {a n : Int} (ha : I64 a) : fixed_Shl.f a n = some (sh a n) := by
  unfold fixed_Shl.f sh
  by_cases h1 : n < 0
  · rw [if_pos h1, if_pos h1]
  rw [if_neg h1, if_neg h1]
  by_cases h2 : a = 0
  · rw [if_pos h2, if_pos h2]
  rw [if_neg h2, if_neg h2]
  by_cases h3 : n ≥ 64
  · rw [if_pos h3, if_pos h3]
  rw [if_neg h3, if_neg h3, if_pos (by omega)]
  obtain ⟨m, rfl⟩ := Int.eq_ofNat_of_zero_le (show 0 ≤ n by omega)
  rw [shl_i64 _ m (by omega), shr_i64 _ m (by omega), Int.toNat_natCast]
  have hp : (0 : Int) < 2 ^ m := Int.pow_pos (by decide)
  by_cases hf : I64 (a * 2 ^ m)
  · rw [w64_in _ hf.1 (by have := hf.2; omega), Int.mul_ediv_cancel _ (by omega), if_pos rfl, fit_in hf.1 hf.2]
  · rw [if_neg, fit_out (by unfold I64 at hf; omega)]
    intro e
    -- the wrapped number differs from the true one by a multiple of 2^64, which 2^m divides
    have hs : (2 : Int) ^ m * 2 ^ (64 - m) = 18446744073709551616 := by rw [← Int.pow_add, show m + (64 - m) = 64 by omega]; rfl
    have hw : wrap64 (a * 2 ^ m) = a * 2 ^ m - 18446744073709551616 * ((a * 2 ^ m + 9223372036854775808) / 18446744073709551616) := by unfold wrap64; omega
    generalize (a * 2 ^ m + 9223372036854775808) / 18446744073709551616 = t at hw
    have ht : t ≠ 0 := by
      intro ht
      rw [ht] at hw
      have : I64 (wrap64 (a * 2 ^ m)) := by unfold I64 wrap64; omega
      rw [hw] at this
      apply hf
      simpa using this
    have e2 : wrap64 (a * 2 ^ m) = 2 ^ m * (a - 2 ^ (64 - m) * t) := by
      rw [hw, Int.mul_sub, ← Int.mul_assoc, hs, Int.mul_comm (2 ^ m) a]
    rw [e2, Int.mul_ediv_cancel_left _ (by omega)] at e
    have hp2 : (0 : Int) < 2 ^ (64 - m) := Int.pow_pos (by decide)
    have h0 : (2 : Int) ^ (64 - m) * t = 0 := by omega
    rcases Int.mul_eq_zero.1 h0 with h | h
    · omega
    · exact ht h
/-- A long number, doubled again and again. -/
theorem ref_double {a n : Int} (hn : n < 64) (ha : a ≠ 0) : ∀ (m : Nat) (i : Int) (s : Bool) (D : List Int), 0 ≤ i → n = i + m → ok D → D.length ≤ 3 + i → lv s D = a * 2 ^ i.toNat → Ev (fun k => phalanxref01_Shl.l0 k a n i s D) (fit (a * 2 ^ n.toNat)) := by
  intro m
  induction m with
  | zero =>
    intro i s D h0 hi hok hl hv
    have et := To_val s hok (by omega)
    rw [hv, show i = n by omega] at et
    refine Ev.step (fun k => ?_) (Ev.bind et (Ev.now _))
    simp only [phalanxref01_Shl.l0]
    rw [if_neg ha, if_neg (by omega)]
  | succ m ih =>
    intro i s D h0 hi hok hl hv
    obtain ⟨u, r, es, or_, vs, ls⟩ := Sum_val (s := s) (t := s) hok hok (by omega) (by omega)
    have := ih (i + 1) u r (by omega) (by omega) or_ (by omega) (by
      rw [vs, hv, show (i + 1).toNat = i.toNat + 1 by omega, Int.pow_succ, ← Int.mul_assoc]
      omega)
    have e : ∀ k, phalanxref01_Shl.l0 (k + 1) a n i s D = (phalanxref01_Sum.f k s D s D).bind fun x => phalanxref01_Shl.l0 k a n (i + 1) x.1 x.2 := by
      intro k
      simp only [phalanxref01_Shl.l0]
      rw [if_neg ha, if_pos (by omega), w64_in _ (by omega) (by omega)]
    exact Ev.step e (Ev.bind es this)
theorem shl_j (a n : Int) : ∀ k, phalanxref01_Shl.j0 (k + 1) a n false = (phalanxref01_Of.f k a).bind fun x => phalanxref01_Shl.l0 k a n 0 x.1 x.2 := by
  intro k
  simp only [phalanxref01_Shl.j0]
  rw [if_neg (by simp)]
theorem refShl {a n : Int} (ha : I64 a) : Ev (fun k => phalanxref01_Shl.f k a n) (sh a n) := by
  have no : Ev (fun k => phalanxref01_Shl.j0 k a n true) (0, false) := Ev.step (f := fun _ => some (0, false)) (fun k => by simp [phalanxref01_Shl.j0]) (Ev.now _)
  obtain ⟨A, ea, oa, va, la⟩ := Of_val a ha.1 ha.2
  unfold sh
  by_cases h1 : n < 0
  · rw [if_pos h1]
    refine Ev.congr (fun k => ?_) no
    unfold phalanxref01_Shl.f
    rw [if_pos h1]
  rw [if_neg h1]
  by_cases h2 : a = 0
  · rw [if_pos h2]
    have et := To_val (decide (a < 0)) oa (by omega)
    rw [lv_of va, h2] at et
    have e1 : Ev (fun k => phalanxref01_Shl.l0 k a n 0 (decide (a < 0)) A) (0, true) := by
      refine Ev.step (fun k => ?_) (Ev.bind et (Ev.now _))
      simp only [phalanxref01_Shl.l0]
      rw [if_pos h2, h2]
    have e2 : Ev (fun k => (phalanxref01_Of.f k a).bind fun x => phalanxref01_Shl.l0 k a n 0 x.1 x.2) _ := Ev.bind ea e1
    refine Ev.congr (fun k => ?_) (Ev.step (g := fun k => phalanxref01_Shl.j0 k a n false) (shl_j a n) e2)
    unfold phalanxref01_Shl.f
    rw [if_neg h1, if_pos h2]
  rw [if_neg h2]
  by_cases h3 : n ≥ 64
  · rw [if_pos h3]
    refine Ev.congr (fun k => ?_) no
    unfold phalanxref01_Shl.f
    rw [if_neg h1, if_neg h2, decide_eq_true h3]
  rw [if_neg h3]
  have e1 := ref_double (a := a) (n := n) (by omega) h2 n.toNat 0 (decide (a < 0)) A (by omega) (by omega) oa (by omega) (by rw [lv_of va]; simp)
  have e2 : Ev (fun k => (phalanxref01_Of.f k a).bind fun x => phalanxref01_Shl.l0 k a n 0 x.1 x.2) _ := Ev.bind ea e1
  refine Ev.congr (fun k => ?_) (Ev.step (g := fun k => phalanxref01_Shl.j0 k a n false) (shl_j a n) e2)
  unfold phalanxref01_Shl.f
  rw [if_neg h1, if_neg h2, decide_eq_false h3]

end Go.Proofs.Ytjhiccoooaleoaa.M01
