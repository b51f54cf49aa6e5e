/- Quotients, by fixed and by phalanxref01; products of 64 bits. -/
import Derived.Test.YtjhiccoooaleoaaP01x0
import Derived.Test.YtjhiccoooaleoaaP01x1
import Derived.Test.YtjhiccoooaleoaaP01x3
import Derived.Test.YtjhiccoooaleoaaP01x6
import Derived.Test.YtjhiccoooaleoaaP01x9
import Derived.Test.YtjhiccoooaleoaaP01x10
import Derived.Test.YtjhiccoooaleoaaP01x13
import Derived.Test.YtjhiccoooaleoaaP01x14
import Derived.Test.YtjhiccoooaleoaaM01c
set_option linter.unusedVariables false
set_option linter.unusedSimpArgs false
namespace Go.Proofs.Ytjhiccoooaleoaa.M01
open Go.RowKit Go.Proofs.YtjhiccoooaleoaaW.PrintWords Go.Proofs.Ytjhiccoooaleoaa.P01

/-- A number of 64 bits with sign. -/
def I64 (a : Int) : Prop := -9223372036854775808 ≤ a ∧ a ≤ 9223372036854775807
/-- Its amount. -/
def am (a : Int) : Int := if a < 0 then -a else a
theorem am_bd {a : Int} (h : I64 a) : 0 ≤ am a ∧ am a ≤ 9223372036854775808 := by unfold am I64 at *; split <;> omega

theorem fit_pair (x : Int × Bool) : (some (x.1, x.2) : Option (Int × Bool)) = some x := rfl

/-- A quotient, or none. -/
def dv (a b : Int) : Int × Bool := if b = 0 then (0, false) else fit (fl a b)
theorem val_pos {b : Int} {B : List Int} (h : b ≠ 0) (vb : val B = (if b < 0 then -b else b)) : 0 < val B := by rw [vb]; split <;> omega
theorem refDiv {a b : Int} (ha : I64 a) (hb : I64 b) : Ev (fun k => phalanxref01_Div.f k a b) (dv a b) := by
  by_cases h : b = 0
  · unfold dv
    rw [if_pos h]
    exact Ev.congr (f := fun _ => some (0, false)) (fun k => by unfold phalanxref01_Div.f; rw [if_pos h]) (Ev.now _)
  · obtain ⟨A, ea, oa, va, la⟩ := Of_val a ha.1 ha.2
    obtain ⟨B, eb, ob, vb, lb⟩ := Of_val b hb.1 hb.2
    obtain ⟨u, r, es, or_, vs, ls⟩ := Quotient_val (decide (a < 0)) (decide (b < 0)) oa ob (by omega) (by omega) (val_pos h vb)
    have et := To_val u or_ (by omega)
    rw [vs, lv_of va, lv_of vb] at et
    unfold dv
    rw [if_neg h]
    have e : ∀ k, phalanxref01_Div.f k a b = (phalanxref01_Of.f k a).bind fun x => (phalanxref01_Of.f k b).bind fun y => (phalanxref01_Quotient.f k x.1 x.2 y.1 y.2).bind fun z => (phalanxref01_To.f k z.1 z.2).bind fun t => some (t.1, t.2) := by
      intro k
      unfold phalanxref01_Div.f
      rw [if_neg h]
    exact Ev.congr e (Ev.bind ea (Ev.bind eb (Ev.bind es (Ev.bind et (Ev.now _)))))
theorem fixAmount {a : Int} (ha : I64 a) : fixed_amount.f a = some (am a) := by
  unfold I64 at ha
  unfold fixed_amount.f am
  simp only [u64w]
  split <;> (congr 1; omega)
theorem low32 (x : Int) (h0 : 0 ≤ x) (h1 : x < 18446744073709551616) : Go.bits .and .u64 x 4294967295 = x % 4294967296 := by
  have := bits_mask .u64 64 (by decide) (fun n h0 h1 => u64_in n h0 (by simpa using h1)) 32 (by decide) x h0 (by simpa using h1)
  simpa using this
/-- The product of two, out of their halves. -/
theorem halves (p q r s : Int) : (p * 4294967296 + q) * (r * 4294967296 + s) = p * r * 18446744073709551616 + (p * s + q * r) * 4294967296 + q * s := by
  simp only [Int.add_mul, Int.mul_add, Int.mul_assoc, Int.mul_left_comm 4294967296, Int.mul_comm 4294967296, show (4294967296 : Int) * 4294967296 = 18446744073709551616 from rfl]
  omega
theorem mul64 {x y : Int} (hx0 : 0 ≤ x) (hx1 : x < 18446744073709551616) (hy0 : 0 ≤ y) (hy1 : y < 18446744073709551616) :
    bits_Mul64.f x y = some (x * y / 18446744073709551616, x * y % 18446744073709551616) := by
  have hm : ∀ p q : Int, 0 ≤ p → p < 4294967296 → 0 ≤ q → q < 4294967296 → 0 ≤ p * q ∧ p * q ≤ 18446744065119617025 := fun p q a b c d => mul_bd a b c d
  have ex := halves (x / 4294967296) (x % 4294967296) (y / 4294967296) (y % 4294967296)
  rw [show x / 4294967296 * 4294967296 + x % 4294967296 = x by omega, show y / 4294967296 * 4294967296 + y % 4294967296 = y by omega] at ex
  unfold bits_Mul64.f
  rw [low32 x hx0 hx1, low32 y hy0 hy1]
  have m1 := hm (x / 4294967296) (y / 4294967296) (by omega) (by omega) (by omega) (by omega)
  have m2 := hm (x / 4294967296) (y % 4294967296) (by omega) (by omega) (by omega) (by omega)
  have m3 := hm (x % 4294967296) (y / 4294967296) (by omega) (by omega) (by omega) (by omega)
  have m4 := hm (x % 4294967296) (y % 4294967296) (by omega) (by omega) (by omega) (by omega)
  rw [ex]
  generalize x / 4294967296 * (y / 4294967296) = p11 at *
  generalize x / 4294967296 * (y % 4294967296) = p10 at *
  generalize x % 4294967296 * (y / 4294967296) = p01 at *
  generalize x % 4294967296 * (y % 4294967296) = p00 at *
  rw [u64_in p11 (by omega) (by omega), u64_in p10 (by omega) (by omega), u64_in p01 (by omega) (by omega), u64_in p00 (by omega) (by omega), u64_in (p10 + p00 / 4294967296) (by omega) (by omega)]
  rw [low32 _ (by omega) (by omega), u64_in ((p10 + p00 / 4294967296) % 4294967296 + p01) (by omega) (by omega)]
  simp only [u64w]
  congr 2
  · omega
theorem fixSigned {n : Int} (h0 : 0 ≤ n) (h1 : n < 18446744073709551616) (b : Bool) : Ev (fun k => fixed_signed.f k n b) (fit (if b = true then -n else n)) := by
  cases b with
  | true =>
    rw [if_pos rfl]
    by_cases h : n ≤ 9223372036854775808
    · rw [fit_in (by omega) (by omega)]
      refine Ev.congr (f := fun k => fixed_signed.j0 k n true true) (fun k => ?_) (Ev.step (f := fun _ => some (-n, true)) (fun k => ?_) (Ev.now _))
      · unfold fixed_signed.f
        rw [if_pos rfl, decide_eq_true h]
      · simp only [fixed_signed.j0]
        rw [if_pos trivial, u64w]
        congr 2
        unfold wrap64
        omega
    · rw [fit_out (by omega)]
      refine Ev.congr (f := fun k => fixed_signed.j0 k n true false) (fun k => ?_) (Ev.step (f := fun _ => some (0, false)) (fun k => ?_) (Ev.now _))
      · unfold fixed_signed.f
        rw [if_pos rfl, decide_eq_false h]
      · simp [fixed_signed.j0]
  | false =>
    rw [if_neg (by simp)]
    refine Ev.congr (f := fun k => fixed_signed.j0 k n false false) (fun k => ?_) ?_
    · unfold fixed_signed.f
      rw [if_neg (by simp)]
    · by_cases h : n < 9223372036854775808
      · rw [fit_in (by omega) (by omega)]
        refine Ev.step (f := fun _ => some (n, true)) (fun k => ?_) (Ev.now _)
        simp only [fixed_signed.j0]
        rw [if_neg (by simp), if_neg (by simp), if_pos h, w64_in n (by omega) (by omega)]
      · rw [fit_out (by omega)]
        refine Ev.step (f := fun _ => some (0, false)) (fun k => ?_) (Ev.now _)
        simp only [fixed_signed.j0]
        rw [if_neg (by simp), if_neg (by simp), if_neg h]
theorem am_mul (a b : Int) : am a * am b = if (decide (a < 0) != decide (b < 0)) = true then -(a * b) else a * b := by
  unfold am
  by_cases h : a < 0 <;> by_cases h' : b < 0 <;> simp [h, h', Int.neg_mul, Int.mul_neg]
/-- The quotient's amount below nought. -/
theorem neg_div {A V : Int} (hV : 0 < V) : (-A) / V = if A % V = 0 then -(A / V) else -(A / V) - 1 := by
  have h1 := Int.emod_nonneg A (show V ≠ 0 by omega)
  have h2 := Int.emod_lt_of_pos A hV
  have h3 := Int.mul_ediv_add_emod A V
  split
  · exact div_is (z := 0) (by rw [Int.mul_neg]; omega) (by omega) (by omega)
  · refine div_is (z := V - A % V) ?_ (by omega) (by omega)
    rw [Int.mul_sub, Int.mul_neg]
    omega
theorem fixDiv {a b : Int} (ha : I64 a) (hb : I64 b) : Ev (fun k => fixed_Div.f k a b) (dv a b) := by
  unfold I64 at ha hb
  unfold dv
  by_cases h : b = 0
  · rw [if_pos h]
    refine Ev.congr (f := fun k => fixed_Div.j0 k a b true) (fun k => ?_) (Ev.step (f := fun _ => some (0, false)) (fun k => ?_) (Ev.now _))
    · unfold fixed_Div.f
      rw [if_pos h]
    · simp [fixed_Div.j0]
  · rw [if_neg h]
    by_cases hs : a = -9223372036854775808 ∧ b = -1
    · obtain ⟨rfl, rfl⟩ := hs
      refine Ev.congr (f := fun k => fixed_Div.j0 k (-9223372036854775808) (-1) true) (fun k => ?_) (Ev.step (f := fun _ => some (0, false)) (fun k => ?_) ?_)
      · unfold fixed_Div.f
        rw [if_neg (by omega), if_pos rfl]
        rfl
      · simp [fixed_Div.j0]
      · exact Ev.now _
    · refine Ev.congr (f := fun k => fixed_Div.j0 k a b false) (fun k => ?_) (Ev.step (f := fun _ => some (fit (fl a b))) (fun k => ?_) (Ev.now _))
      · unfold fixed_Div.f
        rw [if_neg h]
        split
        · rw [show (b == -1) = false from by simp; omega]
        · rfl
      · simp only [fixed_Div.j0]
        rw [if_neg (by simp), if_neg h]
        have out : ∀ q, I64 q → wrap64 q = q := fun q hq => w64_in q hq.1 (by have := hq.2; omega)
        -- the four cases
        have dbd : ∀ A V : Int, 0 ≤ A → 0 < V → 0 ≤ A / V ∧ A / V ≤ A := fun A V hA hV => ⟨Int.ediv_nonneg hA (by omega), Int.ediv_le_self _ hA⟩
        rcases (by omega : 0 ≤ a ∨ a < 0) with a0 | a0 <;> rcases (by omega : 0 < b ∨ b < 0) with b0 | b0
        · have := dbd a b a0 b0
          have e : fl a b = a / b := by unfold fl; rw [if_pos b0]
          rw [Int.tdiv_eq_ediv_of_nonneg a0, decide_eq_false (show ¬ a < 0 by omega), decide_eq_false (show ¬ b < 0 by omega), e, fit_in (by omega) (by omega), out _ ⟨by omega, by omega⟩]
          split <;> simp
        · have := dbd a (-b) a0 (by omega)
          have e : fl a b = (-a) / (-b) := by unfold fl; rw [if_neg (by omega)]
          have ed : Int.tdiv a b = -(a / (-b)) := by
            have : b = -(-b) := by omega
            rw [this, Int.tdiv_neg, Int.tdiv_eq_ediv_of_nonneg a0, Int.neg_neg]
          have em : Int.tmod a b = a % (-b) := by
            have : b = -(-b) := by omega
            rw [this, Int.tmod_neg, Int.tmod_eq_emod_of_nonneg a0, Int.neg_neg]
          rw [ed, em, decide_eq_false (show ¬ a < 0 by omega), decide_eq_true b0, e, neg_div (by omega), out _ ⟨by omega, by omega⟩, out _ ⟨by omega, by omega⟩]
          split
          · rw [fit_in (by omega) (by omega)]
          · rw [fit_in (by omega) (by omega), if_pos (by rfl)]
        · have := dbd (-a) b (by omega) b0
          have e : fl a b = a / b := by unfold fl; rw [if_pos b0]
          have hn := neg_div (A := -a) b0
          rw [Int.neg_neg] at hn
          have ed : Int.tdiv a b = -((-a) / b) := by
            have : a = -(-a) := by omega
            rw [this, Int.neg_tdiv, Int.tdiv_eq_ediv_of_nonneg (by omega), Int.neg_neg]
          have em : Int.tmod a b = -((-a) % b) := by
            have : a = -(-a) := by omega
            rw [this, Int.neg_tmod, Int.tmod_eq_emod_of_nonneg (by omega), Int.neg_neg]
          rw [ed, em, decide_eq_true a0, decide_eq_false (show ¬ b < 0 by omega), e, hn, out _ ⟨by omega, by omega⟩]
          by_cases hz : (-a) % b = 0
          · rw [if_pos (by omega), if_pos hz, fit_in (by omega) (by omega)]
          · have hd : (-a) / b < 9223372036854775808 := by
              rcases (by omega : b = 1 ∨ 2 ≤ b) with rfl | h2
              · exact absurd (Int.emod_one _) hz
              · have h3 := Int.mul_ediv_add_emod (-a) b
                have h4 := Int.emod_nonneg (-a) (show b ≠ 0 by omega)
                have h5 := Int.mul_le_mul_of_nonneg_right h2 this.1
                omega
            rw [if_neg (by omega), if_pos (by rfl), if_neg hz, fit_in (by omega) (by omega), out _ ⟨by omega, by omega⟩]
        · have := dbd (-a) (-b) (by omega) (by omega)
          have e : fl a b = (-a) / (-b) := by unfold fl; rw [if_neg (by omega)]
          have ed : Int.tdiv a b = (-a) / (-b) := by
            have h1 : a = -(-a) := by omega
            have h2 : b = -(-b) := by omega
            rw [h1, h2, Int.neg_tdiv, Int.tdiv_neg, Int.neg_neg, Int.tdiv_eq_ediv_of_nonneg (by omega), Int.neg_neg, Int.neg_neg]
          have hd : (-a) / (-b) ≤ 9223372036854775807 := by
            rcases (by omega : b = -1 ∨ b ≤ -2) with rfl | h2
            · have : (-a) / (-(-1)) = -a := by simp
              rw [this]
              omega
            · have h3 := Int.mul_ediv_add_emod (-a) (-b)
              have h4 := Int.emod_nonneg (-a) (show -b ≠ 0 by omega)
              have h5 := Int.mul_le_mul_of_nonneg_right (show 2 ≤ -b by omega) this.1
              omega
          rw [ed, decide_eq_true a0, decide_eq_true b0, e, fit_in (by omega) hd, out _ ⟨by omega, hd⟩]
          split <;> simp
theorem same_self (x : Int × Bool) : phalanxlaw01_same.f x.1 x.2 x.1 x.2 = some true := by
  unfold phalanxlaw01_same.f
  rw [if_pos rfl]
  simp

end Go.Proofs.Ytjhiccoooaleoaa.M01
