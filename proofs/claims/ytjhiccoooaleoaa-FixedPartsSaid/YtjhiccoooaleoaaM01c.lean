/- Plain laws on the long numbers of phalanxref01: quotients. -/
import Derived.Test.YtjhiccoooaleoaaP01x0
import Derived.Test.YtjhiccoooaleoaaP01x3
import Derived.Test.YtjhiccoooaleoaaP01x4
import Derived.Test.YtjhiccoooaleoaaP01x5
import Derived.Test.YtjhiccoooaleoaaP01x13
import Derived.Test.YtjhiccoooaleoaaM01b
set_option linter.unusedVariables false
set_option linter.unusedSimpArgs false
namespace Go.Proofs.Ytjhiccoooaleoaa.M01
open Go.RowKit Go.Proofs.YtjhiccoooaleoaaW.PrintWords Go.Proofs.Ytjhiccoooaleoaa.P01

theorem div_is {X V y z : Int} (h : X = V * y + z) (h0 : 0 ≤ z) (h1 : z < V) : X / V = y := by
  have e : X = z + V * y := by omega
  rw [e, Int.add_mul_ediv_left _ _ (by omega), Int.ediv_eq_zero_of_lt h0 h1]
  omega
theorem mod_is {X V y z : Int} (h : X = V * y + z) (h0 : 0 ≤ z) (h1 : z < V) : X % V = z := by
  have e : X = z + V * y := by omega
  rw [e, Int.add_mul_emod_self_left, Int.emod_eq_of_lt h0 h1]

/-- The quotient, rounded down. -/
def fl (a b : Int) : Int := if 0 < b then a / b else (-a) / (-b)

theorem bit_at (x : Int) (h0 : 0 ≤ x) (h1 : x < 18446744073709551616) : Go.bits .and .u64 x 1 = x % 2 := by
  have := bits_mask .u64 64 (by decide) (fun n h0 h1 => u64_in n h0 (by simpa using h1)) 1 (by decide) x h0 (by simpa using h1)
  simpa using this
theorem shr_nat (x : Int) (m : Nat) (hm : m ≤ 63) : shr .u64 x (m : Int) = x / 2 ^ m := by
  unfold shr
  rw [Int.toNat_natCast, Nat.min_eq_left (show m ≤ IntKind.u64.bits from by show m ≤ 64; omega)]
theorem p2_le (j : Nat) (h : j ≤ 32) : (2 : Int) ^ j ≤ 4294967296 := by
  have h1 : 2 ^ j ≤ 2 ^ 32 := Nat.pow_le_pow_right (by decide) h
  have h2 : ((2 ^ j : Nat) : Int) ≤ ((2 ^ 32 : Nat) : Int) := Int.ofNat_le.2 h1
  simpa using h2
theorem half (x : Int) (m : Nat) : x / 2 ^ m = 2 * (x / 2 ^ (m + 1)) + x / 2 ^ m % 2 := by
  have e : x / 2 ^ (m + 1) = x / 2 ^ m / 2 := by
    rw [Int.pow_succ, ← Int.ediv_ediv_of_nonneg (Int.le_of_lt (Int.pow_pos (by decide)))]
  rw [e]
  omega

theorem quot_bits {s t : Bool} {a b q : List Int} (ha : ok a) (hb : ok b) (la : a.length < 1000) (lb : b.length < 1000) (hq : ok q) (lq : q.length < 1000) (hV : 0 < val b) (i : Nat) (hi : i < a.length) (H Q : Int) (hH : 0 ≤ H) (hQ : 0 ≤ Q) (L : Nat) (hL : L < 100000) :
    ∀ (m : Nat) (r : List Int) (d : Int), m ≤ 32 → ok r → r.length ≤ L + 2 * (32 - m) → val r < val b → 0 ≤ d → d < 2 ^ (32 - m) → H * 2 ^ (32 - m) + dg a i / 2 ^ m = (Q * 2 ^ (32 - m) + d) * val b + val r →
    ∃ r' d', (∀ x, Ev (fun k => phalanxref01_Quotient.l0 k (d' :: q) r' ((i : Int) - 1) s a t b) x → Ev (fun k => phalanxref01_Quotient.l1 k q r (i : Int) d ((m : Int) - 1) s a t b) x) ∧ ok r' ∧ r'.length ≤ L + 64 ∧ val r' < val b ∧ 0 ≤ d' ∧ d' < 4294967296 ∧ H * 4294967296 + dg a i = (Q * 4294967296 + d') * val b + val r' := by
  intro m
  induction m with
  | zero =>
    intro r d hm hr hl hlt h0 h1 he
    refine ⟨r, d, fun x hx => ?_, hr, by omega, hlt, h0, by simpa using h1, by simpa using he⟩
    refine Ev.step (f := fun k => phalanxref01_Quotient.l0 k (d :: q) r ((i : Int) - 1) s a t b) (fun k => ?_) hx
    simp only [phalanxref01_Quotient.l1]
    rw [if_neg (by omega)]
    simp only [Option.bind_some]
    rw [if_pos (by simp; omega), w64_in _ (by omega) (by omega)]
    rfl
  | succ m ih =>
    intro r d hm hr hl hlt h0 h1 he
    have hd := dg_bd ha i
    have hr0 := val_nonneg hr
    let bit := dg a i / 2 ^ m % 2
    have hbit : 0 ≤ bit ∧ bit < 2 := by simp only [bit]; omega
    obtain ⟨r1, ev1, ok1, v1, l1⟩ := plus_val hr hr (by omega) (by omega)
    obtain ⟨r2, ev2, ok2, v2, l2⟩ := plus_val ok1 (ok_one (d := bit) hbit.1 (by omega)) (by omega) (by simp)
    rw [val_one] at v2
    have l2' : r2.length ≤ L + 2 * (32 - m) := by simp at l2; omega
    have e2 : (2 : Int) ^ (32 - m) = 2 * 2 ^ (32 - (m + 1)) := by
      rw [show 32 - m = (32 - (m + 1)) + 1 by omega, Int.pow_succ]; omega
    have hh := half (dg a i) m
    have hdiv : 0 ≤ dg a i / 2 ^ m := Int.ediv_nonneg hd.1 (Int.le_of_lt (Int.pow_pos (by decide)))
    have hdiv2 : dg a i / 2 ^ m ≤ dg a i := Int.ediv_le_self _ hd.1
    -- the equation, doubled
    have key : H * 2 ^ (32 - m) + dg a i / 2 ^ m = (Q * 2 ^ (32 - m) + 2 * d) * val b + val r2 := by
      rw [e2, v2, v1, hh, Int.mul_left_comm H, Int.mul_left_comm Q, ← Int.mul_add]
      have e3 : 2 * (Q * 2 ^ (32 - (m + 1)) + d) * val b = 2 * ((Q * 2 ^ (32 - (m + 1)) + d) * val b) := by rw [Int.mul_assoc]
      rw [e3]
      have : dg a i / 2 ^ m % 2 = bit := rfl
      omega
    have hp : (0 : Int) < 2 ^ (32 - (m + 1)) := Int.pow_pos (by decide)
    have hp2 : (2 : Int) ^ (32 - (m + 1)) ≤ 4294967296 := p2_le _ (by omega)
    have hd4 : d < 4294967296 := by omega
    have less2 := less_val ok2 hb (by omega) (by omega)
    have hrd : rd a (i : Int) = dg a i := rfl
    by_cases hlt2 : val r2 < val b
    · rw [decide_eq_true hlt2] at less2
      obtain ⟨r', d', hx', hrest⟩ := ih r2 (2 * d) (by omega) ok2 l2' hlt2 (by omega) (by omega) (by
        exact key)
      refine ⟨r', d', fun x hx => ?_, hrest⟩
      refine Ev.step (f := fun k => (phalanxref01_plus.f k r r).bind fun t340 => ((phalanxref01_plus.f k t340 [bit]).bind fun t347 => ((phalanxref01_less.f k t347 b).bind fun t350 => (if t350 = true then (phalanxref01_Quotient.l1 k q t347 (i : Int) (2 * d) ((m : Int) - 1) s a t b) else ((phalanxref01_minus.f k t347 b).bind fun t351 => (phalanxref01_Quotient.l1 k q t351 (i : Int) (2 * d + 1) ((m : Int) - 1) s a t b)))))) (fun k => ?_) ?_
      · simp only [phalanxref01_Quotient.l1]
        rw [if_pos (by omega)]
        refine congrArg ((phalanxref01_plus.f k r r).bind) (funext fun t340 => ?_)
        rw [if_pos (by omega), if_pos (by omega), show ((m + 1 : Nat) : Int) - 1 = (m : Int) by omega, u64_in (m : Int) (by omega) (by omega), if_pos (by omega), hrd, shr_nat _ m (by omega), bit_at _ hdiv (by omega), u64_in (d * 2) (by omega) (by omega), u64_in (d * 2 + 1) (by omega) (by omega), w64_in _ (by omega) (by omega), Int.mul_comm d 2]
      · exact Ev.bind ev1 (Ev.bind ev2 (Ev.bind less2 (Ev.congr (fun k => if_pos rfl) (hx' x hx))))
    · rw [decide_eq_false hlt2] at less2
      obtain ⟨r3, ev3, ok3, v3, l3⟩ := minus_val ok2 hb (by omega) (by omega)
      obtain ⟨r', d', hx', hrest⟩ := ih r3 (2 * d + 1) (by omega) ok3 (by omega) (by omega) (by omega) (by omega) (by
        rw [key, v3]
        have e3 : (Q * 2 ^ (32 - m) + (2 * d + 1)) * val b = (Q * 2 ^ (32 - m) + 2 * d) * val b + val b := by
          rw [← Int.add_assoc, Int.add_mul _ 1, Int.one_mul]
        rw [e3]
        omega)
      refine ⟨r', d', fun x hx => ?_, hrest⟩
      refine Ev.step (f := fun k => (phalanxref01_plus.f k r r).bind fun t340 => ((phalanxref01_plus.f k t340 [bit]).bind fun t347 => ((phalanxref01_less.f k t347 b).bind fun t350 => (if t350 = true then (phalanxref01_Quotient.l1 k q t347 (i : Int) (2 * d) ((m : Int) - 1) s a t b) else ((phalanxref01_minus.f k t347 b).bind fun t351 => (phalanxref01_Quotient.l1 k q t351 (i : Int) (2 * d + 1) ((m : Int) - 1) s a t b)))))) (fun k => ?_) ?_
      · simp only [phalanxref01_Quotient.l1]
        rw [if_pos (by omega)]
        refine congrArg ((phalanxref01_plus.f k r r).bind) (funext fun t340 => ?_)
        rw [if_pos (by omega), if_pos (by omega), show ((m + 1 : Nat) : Int) - 1 = (m : Int) by omega, u64_in (m : Int) (by omega) (by omega), if_pos (by omega), hrd, shr_nat _ m (by omega), bit_at _ hdiv (by omega), u64_in (d * 2) (by omega) (by omega), u64_in (d * 2 + 1) (by omega) (by omega), w64_in _ (by omega) (by omega), Int.mul_comm d 2]
      · exact Ev.bind ev1 (Ev.bind ev2 (Ev.bind less2 (Ev.congr (fun k => if_neg (by simp)) (Ev.bind ev3 (hx' x hx)))))

/-- What the quotient's end makes of the quotient of the amounts. -/
theorem quot_end {s t : Bool} {a b q r : List Int} (hb : ok b) (hq : ok q) (hr : ok r) (lq : q.length < 1000) (lr : r.length < 1000000) (hlt : val r < val b) (he : val a = val q * val b + val r) :
    ∃ u x, Ev (fun k => phalanxref01_Quotient.l0 k q r (-1) s a t b) (u, x) ∧ ok x ∧ lv u x = fl (lv s a) (lv t b) ∧ x.length < 1002 := by
  have hr0 := val_nonneg hr
  have hb0 := val_nonneg hb
  have eA : val a / val b = val q := div_is (z := val r) (by rw [he, Int.mul_comm]) hr0 hlt
  by_cases hst : s = t
  · subst hst
    refine ⟨false, q, Ev.step (f := fun _ => some (false, q)) (fun k => ?_) (Ev.now _), hq, ?_, by omega⟩
    · simp only [phalanxref01_Quotient.l0]
      rw [if_neg (by omega), if_pos (by simp)]
    · unfold fl lv
      cases s
      · simp only [Bool.false_eq_true, if_false]
        rw [if_pos (by omega), eA]
      · simp only [Bool.false_eq_true, if_false, if_true]
        rw [if_neg (by omega), Int.neg_neg, Int.neg_neg, eA]
  · have hz := zero_val hr lr
    have efl : fl (lv s a) (lv t b) = (-(val a)) / val b := by
      unfold fl lv
      cases s <;> cases t
      · exact absurd rfl hst
      · simp only [Bool.false_eq_true, if_false, if_true]
        rw [if_neg (by omega), Int.neg_neg]
      · simp only [Bool.false_eq_true, if_false, if_true]
        rw [if_pos (by omega)]
      · exact absurd rfl hst
    have e0 : ∀ k, phalanxref01_Quotient.l0 (k + 1) q r (-1) s a t b = (phalanxref01_zero.f k r).bind fun t354 => (if t354 = true then (some (true, q)) else ((phalanxref01_plus.f k q [1]).bind fun t358 => (some (true, t358)))) := by
      intro k
      simp only [phalanxref01_Quotient.l0]
      rw [if_neg (by omega), if_neg (by simpa using hst)]
    by_cases hr1 : val r = 0
    · rw [decide_eq_true hr1] at hz
      refine ⟨true, q, Ev.step e0 (Ev.bind hz (Ev.congr (fun k => if_pos rfl) (Ev.now _))), hq, ?_, by omega⟩
      rw [efl]
      exact (div_is (z := 0) (by rw [he, hr1, Int.mul_comm]; show -(val b * val q + 0) = val b * -(val q) + 0; rw [Int.mul_neg]; omega) (by omega) (by omega)).symm
    · rw [decide_eq_false hr1] at hz
      obtain ⟨x, ev, okx, vx, lx⟩ := plus_val hq (ok_one (d := 1) (by omega) (by omega)) (by omega) (by simp)
      rw [val_one] at vx
      refine ⟨true, x, Ev.step e0 (Ev.bind hz (Ev.congr (fun k => if_neg (by simp)) (Ev.bind ev (Ev.now _)))), okx, ?_, by simp at lx; omega⟩
      rw [efl]
      refine (div_is (z := val b - val r) ?_ (by omega) (by omega)).symm
      show _ = val b * -(val x) + _
      rw [he, vx, Int.mul_neg, Int.mul_add, Int.mul_comm (val b) (val q)]
      omega

theorem quot_loop {s t : Bool} {a b : List Int} (ha : ok a) (hb : ok b) (la : a.length < 1000) (lb : b.length < 1000) (hV : 0 < val b) :
    ∀ (n : Nat) (q r : List Int) (H : Int), n ≤ a.length → ok q → q.length = a.length - n → ok r → r.length ≤ 64 * (a.length - n) → val r < val b → val a = lo a n + pw n * H → H = val q * val b + val r →
    ∃ u x, Ev (fun k => phalanxref01_Quotient.l0 k q r ((n : Int) - 1) s a t b) (u, x) ∧ ok x ∧ lv u x = fl (lv s a) (lv t b) ∧ x.length < 1002 := by
  intro n
  induction n with
  | zero =>
    intro q r H hn hq lq hr lr hlt hv he
    have : val a = H := by rw [hv]; simp [lo, pw_zero]
    exact quot_end hb hq hr (by omega) (by omega) hlt (by omega)
  | succ n ih =>
    intro q r H hn hq lq hr lr hlt hv he
    have hq0 := val_nonneg hq
    have hr0 := val_nonneg hr
    have hH : 0 ≤ H := by rw [he]; have := Int.mul_nonneg hq0 (Int.le_of_lt hV); omega
    obtain ⟨r', d', hx, okr, lr', hlt', hd0, hd1, he'⟩ := quot_bits (s := s) (t := t) ha hb la lb hq (by omega) hV n (by omega) H (val q) hH hq0 (64 * (a.length - (n + 1))) (by omega) 32 r 0 (by omega) hr (by omega) hlt (by omega) (by omega) (by
      have hd := dg_bd ha n
      have : dg a n / 2 ^ 32 = 0 := Int.ediv_eq_zero_of_lt hd.1 (by simpa using hd.2)
      rw [this]
      simp
      exact he)
    obtain ⟨u, x, ev, hrest⟩ := ih (d' :: q) r' (dg a n + 4294967296 * H) (by omega) (ok_cons hq hd0 hd1) (by simp; omega) okr (by omega) hlt' (by
      rw [hv]
      show lo a n + pw n * dg a n + pw (n + 1) * H = _
      rw [pw_succ, Int.mul_add, ← Int.mul_assoc, Int.mul_comm (pw n) 4294967296]
      omega) (by
      rw [val_cons]
      have e1 : H * 4294967296 = 4294967296 * H := Int.mul_comm _ _
      have e2 : val q * 4294967296 + d' = d' + 4294967296 * val q := by omega
      rw [e2] at he'
      omega)
    refine ⟨u, x, ?_, hrest⟩
    refine Ev.step (f := fun k => phalanxref01_Quotient.l1 k q r (n : Int) 0 ((32 : Nat) - 1 : Int) s a t b) (fun k => ?_) (hx _ ev)
    simp only [phalanxref01_Quotient.l0]
    rw [if_pos (by omega), show ((n + 1 : Nat) : Int) - 1 = (n : Int) by omega]
    rfl

theorem Quotient_val (s t : Bool) {a b : List Int} (ha : ok a) (hb : ok b) (la : a.length < 1000) (lb : b.length < 1000) (hV : 0 < val b) :
    ∃ u x, Ev (fun k => phalanxref01_Quotient.f k s a t b) (u, x) ∧ ok x ∧ lv u x = fl (lv s a) (lv t b) ∧ x.length < 1002 := by
  have := quot_loop (s := s) (t := t) ha hb la lb hV a.length [] [] 0 (Nat.le_refl _) ok_nil (by simp) ok_nil (by simp) (by rw [val_nil]; omega) (by simp [val]) (by simp [val_nil])
  obtain ⟨u, x, ev, hrest⟩ := this
  refine ⟨u, x, Ev.congr (fun k => ?_) ev, hrest⟩
  unfold phalanxref01_Quotient.f
  rw [w64_in _ (by omega) (by omega)]

end Go.Proofs.Ytjhiccoooaleoaa.M01
