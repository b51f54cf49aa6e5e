/- Plain laws on the long numbers of phalanxref01: what a number is as a long one, and back; sums, products. -/
import Derived.Test.YtjhiccoooaleoaaP01x0
import Derived.Test.YtjhiccoooaleoaaP01x2
import Derived.Test.YtjhiccoooaleoaaP01x3
import Derived.Test.YtjhiccoooaleoaaP01x4
import Derived.Test.YtjhiccoooaleoaaP01x5
import Derived.Test.YtjhiccoooaleoaaP01x6
import Derived.Test.YtjhiccoooaleoaaP01x7
import Derived.Test.YtjhiccoooaleoaaP01x8
import Derived.Test.YtjhiccoooaleoaaM01a
set_option linter.unusedVariables false
set_option linter.unusedSimpArgs false
namespace Go.Proofs.Ytjhiccoooaleoaa.M01
open Go.RowKit Go.Proofs.YtjhiccoooaleoaaW.PrintWords Go.Proofs.Ytjhiccoooaleoaa.P01

/-- A number of 64 bits, or none. -/
def fit (x : Int) : Int × Bool := if -9223372036854775808 ≤ x ∧ x ≤ 9223372036854775807 then (x, true) else (0, false)
/-- A long number's value. -/
def lv (s : Bool) (l : List Int) : Int := if s = true then -(val l) else val l
theorem fit_in {x : Int} (h0 : -9223372036854775808 ≤ x) (h1 : x ≤ 9223372036854775807) : fit x = (x, true) := by unfold fit; rw [if_pos ⟨h0, h1⟩]
theorem fit_out {x : Int} (h : x < -9223372036854775808 ∨ 9223372036854775807 < x) : fit x = (0, false) := by unfold fit; rw [if_neg (by omega)]

theorem lo_split (l : List Int) (h : ok l) (i : Nat) : ∀ j, ∃ q, 0 ≤ q ∧ lo l (i + j) = lo l i + pw i * q
  | 0 => ⟨0, by omega, by simp⟩
  | j + 1 => by
    obtain ⟨q, hq, e⟩ := lo_split l h i j
    refine ⟨q + pw j * dg l (i + j), ?_, ?_⟩
    · have := Int.mul_nonneg (Int.le_of_lt (pw_pos j)) (dg_bd h (i + j)).1
      omega
    · show lo l (i + j) + pw (i + j) * dg l (i + j) = _
      rw [e, pw_add, Int.mul_add, Int.mul_assoc]
      omega
theorem lo_eq {l : List Int} (h : ok l) {i : Nat} (hv : val l < pw i) : lo l i = val l := by
  obtain ⟨q, hq, e⟩ := lo_split l h i l.length
  rw [lo_val (by omega)] at e
  have h0 := (lo_bd h i).1
  rcases (by omega : q = 0 ∨ 1 ≤ q) with rfl | h1
  · simp at e; exact e.symm
  · have := Int.mul_le_mul_of_nonneg_left h1 (Int.le_of_lt (pw_pos i))
    omega
theorem two_digits {l : List Int} (h : ok l) (hv : val l < 18446744073709551616) : dg l 0 + 4294967296 * dg l 1 = val l := by
  have := lo_eq h (i := 2) (by show val l < 18446744073709551616; exact hv)
  rw [← this]
  simp [lo, pw]

theorem Of_val (a : Int) (h0 : -9223372036854775808 ≤ a) (h1 : a ≤ 9223372036854775807) :
    ∃ D, Ev (fun k => phalanxref01_Of.f k a) (decide (a < 0), D) ∧ ok D ∧ val D = (if a < 0 then -a else a) ∧ D.length ≤ 3 := by
  by_cases h : a ≥ 0
  · refine ⟨[a % 4294967296, a / 4294967296], ?_, ok_two (by omega) (by omega) (by omega) (by omega), ?_, by simp⟩
    · refine Ev.congr (f := fun _ => some (decide (a < 0), [a % 4294967296, a / 4294967296])) (fun k => ?_) (Ev.now _)
      unfold phalanxref01_Of.f
      rw [if_pos h, u64_in a (by omega) (by omega), Int.tmod_eq_emod_of_nonneg h, Int.tdiv_eq_ediv_of_nonneg h, u64_in _ (by omega) (by omega), decide_eq_false (by omega)]
    · rw [val_two, if_neg (by omega)]
      omega
  · have hn : ∀ k, phalanxref01_Of.f k a = (phalanxref01_plus.f k [(-(a + 1)) % 4294967296, (-(a + 1)) / 4294967296] [1]).bind fun t => some (true, t) := by
      intro k
      unfold phalanxref01_Of.f
      rw [if_neg h, w64_in (a + 1) (by omega) (by omega), w64_in (-(a + 1)) (by omega) (by omega), u64_in (-(a + 1)) (by omega) (by omega), Int.tmod_eq_emod_of_nonneg (by omega), Int.tdiv_eq_ediv_of_nonneg (by omega), u64_in _ (by omega) (by omega)]
    obtain ⟨r, hev, hok, hv, hl⟩ := plus_val (a := [(-(a + 1)) % 4294967296, (-(a + 1)) / 4294967296]) (b := [1]) (ok_two (by omega) (by omega) (by omega) (by omega)) (ok_one (by omega) (by omega)) (by simp) (by simp)
    refine ⟨r, ?_, hok, ?_, ?_⟩
    · rw [decide_eq_true (show a < 0 by omega)]
      exact Ev.congr hn (Ev.bind hev (Ev.now _))
    · rw [hv, val_two, val_one, if_pos (by omega)]
      omega
    · simp at hl
      omega
theorem lv_of {a : Int} {D : List Int} (h : val D = (if a < 0 then -a else a)) : lv (decide (a < 0)) D = a := by
  unfold lv
  by_cases h0 : a < 0
  · rw [if_pos h0] at h
    rw [if_pos (by simpa using h0), h]
    omega
  · rw [if_neg h0] at h
    rw [if_neg (by simpa using h0), h]

theorem zero_val {a : List Int} (ha : ok a) (la : a.length < 1000000) : Ev (fun k => phalanxref01_zero.f k a) (decide (val a = 0)) := by
  have h := less_val ok_nil ha (by simp) la
  have e : (!(decide (val [] < val a))) = decide (val a = 0) := by
    have := val_nonneg ha
    rw [val_nil]
    by_cases h0 : val a = 0
    · rw [decide_eq_true h0, decide_eq_false (by omega)]
      rfl
    · rw [decide_eq_false h0, decide_eq_true (by omega)]
      rfl
  rw [← e]
  refine Ev.congr (f := fun k => (phalanxref01_less.f k [] a).bind fun t => some (!t)) (fun k => rfl) ?_
  exact Ev.bind h (Ev.now _)

theorem val_most : val [4294967295, 2147483647] = 9223372036854775807 := by rw [val_two]; rfl
theorem ok_most : ok [4294967295, 2147483647] := ok_two (by omega) (by omega) (by omega) (by omega)

theorem To_val (s : Bool) {D : List Int} (h : ok D) (hl : D.length < 1000000) : Ev (fun k => phalanxref01_To.f k s D) (fit (lv s D)) := by
  have hv := val_nonneg h
  have plus_ : (s = false ∨ val D = 0) → Ev (fun k => phalanxref01_To.j0 k [4294967295, 2147483647] true s D) (fit (lv s D)) := by
    intro hs
    have e : lv s D = val D := by unfold lv; rcases hs with rfl | hs; · rfl
                                  · rw [hs]; simp
    rw [e]
    by_cases hm : 9223372036854775807 < val D
    · rw [fit_out (.inr hm)]
      refine Ev.step (f := fun k => (phalanxref01_less.f k [4294967295, 2147483647] D).bind fun t152 => (if t152 = true then (some (0, false)) else ((phalanxref01_digit.f D 0).bind fun t153 => ((phalanxref01_digit.f D 1).bind fun t154 => (some (wrap64 (IntKind.u64.wrap (t153 + (IntKind.u64.wrap (t154 * 4294967296)))), true)))))) (fun k => ?_) ?_
      · simp only [phalanxref01_To.j0]
        rw [if_pos trivial]
      · have hl' := less_val ok_most h (by simp) hl
        rw [val_most, decide_eq_true hm] at hl'
        exact Ev.bind hl' (Ev.congr (f := fun _ => some (0, false)) (fun k => if_pos rfl) (Ev.now _))
    · have hd := two_digits h (by omega)
      have d0 := dg_bd h 0
      have d1 := dg_bd h 1
      rw [fit_in (by omega) (by omega)]
      refine Ev.step (f := fun k => (phalanxref01_less.f k [4294967295, 2147483647] D).bind fun t152 => (if t152 = true then (some (0, false)) else ((phalanxref01_digit.f D 0).bind fun t153 => ((phalanxref01_digit.f D 1).bind fun t154 => (some (wrap64 (IntKind.u64.wrap (t153 + (IntKind.u64.wrap (t154 * 4294967296)))), true)))))) (fun k => ?_) ?_
      · simp only [phalanxref01_To.j0]
        rw [if_pos trivial]
      · have hl' := less_val ok_most h (by simp) hl
        rw [val_most, decide_eq_false hm] at hl'
        refine Ev.bind hl' (Ev.congr (f := fun _ => some (val D, true)) (fun k => ?_) (Ev.now _))
        rw [if_neg (by simp), show (0 : Int) = ((0 : Nat) : Int) from rfl, digit_at, show (1 : Int) = ((1 : Nat) : Int) from rfl, digit_at]
        simp only [Option.bind_some]
        rw [u64_in (dg D 1 * 4294967296) (by omega) (by omega), u64_in _ (by omega) (by omega), w64_in _ (by omega) (by omega)]
        congr 2
        omega
  cases s with
  | false =>
    refine Ev.congr (f := fun k => phalanxref01_To.j0 k [4294967295, 2147483647] true false D) (fun k => ?_) (plus_ (.inl rfl))
    unfold phalanxref01_To.f
    simp
  | true =>
    have e0 : ∀ k, phalanxref01_To.f k true D = (phalanxref01_zero.f k D).bind fun t => phalanxref01_To.j0 k [4294967295, 2147483647] t true D := by
      intro k
      unfold phalanxref01_To.f
      simp
    refine Ev.congr e0 (Ev.bind (zero_val h hl) ?_)
    by_cases hz : val D = 0
    · rw [decide_eq_true hz]
      exact plus_ (.inr hz)
    · rw [decide_eq_false hz]
      obtain ⟨r, hev, hok, hr, hrl⟩ := minus_val h (ok_one (d := 1) (by omega) (by omega)) hl (by rw [val_one]; omega)
      rw [val_one] at hr
      have e : lv true D = -(val D) := rfl
      rw [e]
      refine Ev.step (f := fun k => (phalanxref01_minus.f k D [1]).bind fun t158 => ((phalanxref01_less.f k [4294967295, 2147483647] t158).bind fun t161 => (if t161 = true then (some (0, false)) else ((phalanxref01_digit.f t158 0).bind fun t162 => ((phalanxref01_digit.f t158 1).bind fun t163 => (some (wrap64 ((wrap64 (-(wrap64 (IntKind.u64.wrap (t162 + (IntKind.u64.wrap (t163 * 4294967296))))))) - 1), true))))))) (fun k => ?_) ?_
      · simp only [phalanxref01_To.j0]
        rw [if_neg (by simp)]
      · refine Ev.bind hev ?_
        have hl' := less_val ok_most hok (by simp) (by omega)
        rw [val_most] at hl'
        refine Ev.bind hl' ?_
        by_cases hm : 9223372036854775807 < val r
        · rw [fit_out (.inl (by omega)), decide_eq_true hm]
          exact Ev.congr (f := fun _ => some (0, false)) (fun k => if_pos rfl) (Ev.now _)
        · have hd := two_digits hok (by omega)
          have d0 := dg_bd hok 0
          have d1 := dg_bd hok 1
          rw [fit_in (by omega) (by omega), decide_eq_false hm]
          refine Ev.congr (f := fun _ => some (-(val D), true)) (fun k => ?_) (Ev.now _)
          rw [if_neg (by simp), show (0 : Int) = ((0 : Nat) : Int) from rfl, digit_at, show (1 : Int) = ((1 : Nat) : Int) from rfl, digit_at]
          simp only [Option.bind_some]
          rw [u64_in (dg r 1 * 4294967296) (by omega) (by omega), u64_in _ (by omega) (by omega), w64_in (dg r 0 + dg r 1 * 4294967296) (by omega) (by omega), w64_in (-_) (by omega) (by omega), w64_in _ (by omega) (by omega)]
          congr 2
          omega

theorem Sum_val {s t : Bool} {a b : List Int} (ha : ok a) (hb : ok b) (la : a.length < 1000000) (lb : b.length < 1000000) :
    ∃ u r, Ev (fun k => phalanxref01_Sum.f k s a t b) (u, r) ∧ ok r ∧ lv u r = lv s a + lv t b ∧ r.length ≤ max a.length b.length + 1 := by
  by_cases hst : s = t
  · subst hst
    obtain ⟨r, hev, hok, hv, hl⟩ := plus_val ha hb la lb
    refine ⟨s, r, Ev.congr (f := fun k => (phalanxref01_plus.f k a b).bind fun t167 => (some (s, t167))) (fun k => ?_) (Ev.bind hev (Ev.now _)), hok, ?_, hl⟩
    · unfold phalanxref01_Sum.f
      rw [if_pos (by simp)]
    · unfold lv
      split <;> omega
  · have e : ∀ k, phalanxref01_Sum.f k s a t b = (phalanxref01_less.f k a b).bind fun t170 => (if t170 = true then ((phalanxref01_minus.f k b a).bind fun t171 => (some (t, t171))) else ((phalanxref01_minus.f k a b).bind fun t174 => (some (s, t174)))) := by
      intro k
      unfold phalanxref01_Sum.f
      rw [if_neg (by simpa using hst)]
    have hl' := less_val ha hb la lb
    by_cases hlt : val a < val b
    · rw [decide_eq_true hlt] at hl'
      obtain ⟨r, hev, hok, hv, hl⟩ := minus_val hb ha lb (by omega)
      refine ⟨t, r, Ev.congr e (Ev.bind hl' (Ev.congr (fun k => if_pos rfl) (Ev.bind hev (Ev.now _)))), hok, ?_, by omega⟩
      unfold lv
      cases s <;> cases t <;> simp_all <;> omega
    · rw [decide_eq_false hlt] at hl'
      obtain ⟨r, hev, hok, hv, hl⟩ := minus_val ha hb la (by omega)
      refine ⟨s, r, Ev.congr e (Ev.bind hl' (Ev.congr (fun k => if_neg (by simp)) (Ev.bind hev (Ev.now _)))), hok, ?_, by omega⟩
      unfold lv
      cases s <;> cases t <;> simp_all <;> omega

/-! ### Products -/
theorem mul_bd {x y : Int} (hx0 : 0 ≤ x) (hx : x < 4294967296) (hy0 : 0 ≤ y) (hy : y < 4294967296) : 0 ≤ x * y ∧ x * y ≤ 18446744065119617025 := by
  refine ⟨Int.mul_nonneg hx0 hy0, ?_⟩
  have h1 : x * y ≤ 4294967295 * y := Int.mul_le_mul_of_nonneg_right (by omega) hy0
  omega

theorem prod_row {s t : Bool} {a b out : List Int} (ha : ok a) (hb : ok b) (la : a.length < 1000) (lb : b.length < 1000) (i : Nat) (hi : i < a.length)
    (n : Nat) : ∀ (j : Nat) (row : List Int) (c : Int), b.length = j + n → row.length = i + j → ok row → 0 ≤ c → c < 4294967296 → val row + c * pw (i + j) = pw i * (dg a i * lo b j) →
    ∃ row', (∀ r, Ev (fun k => (phalanxref01_plus.f k out row').bind fun t194 => phalanxref01_Product.l0 k t194 ((i + 1 : Nat) : Int) s a t b) r → Ev (fun k => phalanxref01_Product.l1 k out (i : Int) row c (j : Int) s a t b) r) ∧ ok row' ∧ row'.length = i + b.length + 1 ∧ val row' = pw i * (dg a i * val b) := by
  induction n with
  | zero =>
    intro j row c hj hl hok h0 h1 hv
    refine ⟨row ++ [c], ?_, ok_append hok h0 h1, by simp [hl]; omega, ?_⟩
    · intro r hr
      refine Ev.step (f := fun k => (phalanxref01_plus.f k out (row ++ [c])).bind fun t194 => phalanxref01_Product.l0 k t194 ((i + 1 : Nat) : Int) s a t b) (fun k => ?_) hr
      simp only [phalanxref01_Product.l1]
      rw [if_neg (by omega), if_pos (by omega), w64_in _ (by omega) (by omega)]
      rfl
    · rw [val_append, hl, Int.mul_comm (pw (i + j)) c, hv, lo_val (by omega)]
  | succ n ih =>
    intro j row c hj hl hok h0 h1 hv
    have da := dg_bd ha i
    have db := dg_bd hb j
    have hm := mul_bd da.1 da.2 db.1 db.2
    let q := c + dg a i * dg b j
    have hq0 : 0 ≤ q := by simp only [q]; omega
    have hq1 : q < 18446744073709551616 := by simp only [q]; omega
    have hq2 : q ≤ 18446744069414584320 := by simp only [q]; omega
    obtain ⟨row', hr, hrest⟩ := ih (j + 1) (row ++ [q % 4294967296]) (q / 4294967296) (by omega) (by simp [hl]; omega) (ok_append hok (by omega) (by omega)) (by omega) (by omega) (by
      rw [val_append, hl, show i + (j + 1) = (i + j) + 1 from rfl, pw_succ]
      simp only [lo]
      have e : pw (i + j) * q = pw (i + j) * (4294967296 * (q / 4294967296) + q % 4294967296) := by congr 1; omega
      have e2 : pw (i + j) * q = pw (i + j) * c + pw i * (dg a i * (pw j * dg b j)) := by
        simp only [q, Int.mul_add]
        congr 1
        rw [pw_add, Int.mul_assoc]
        congr 1
        rw [← Int.mul_assoc, ← Int.mul_assoc, Int.mul_comm (pw j)]
      rw [e2, Int.mul_add] at e
      have e3 : q / 4294967296 * (4294967296 * pw (i + j)) = pw (i + j) * (4294967296 * (q / 4294967296)) := by
        rw [Int.mul_comm, Int.mul_comm 4294967296 (pw (i + j)), Int.mul_assoc]
      rw [e3, Int.mul_add, Int.mul_add]
      have e4 : c * pw (i + j) = pw (i + j) * c := Int.mul_comm _ _
      omega)
    refine ⟨row', fun r hev => ?_, hrest⟩
    refine Ev.step (f := fun k => phalanxref01_Product.l1 k out (i : Int) (row ++ [q % 4294967296]) (q / 4294967296) ((j + 1 : Nat) : Int) s a t b) (fun k => ?_) (hr r hev)
    simp only [phalanxref01_Product.l1]
    have hx : rd a (i : Int) = dg a i := rfl
    have hy : rd b (j : Int) = dg b j := rfl
    rw [if_pos (by omega), if_pos (by omega), if_pos (by omega), if_pos (by omega), if_pos (by omega), hx, hy, u64_in (dg a i * dg b j) (by omega) (by omega)]
    rw [show c + dg a i * dg b j = q from rfl, u64_in q hq0 hq1, Int.tmod_eq_emod_of_nonneg hq0, Int.tdiv_eq_ediv_of_nonneg hq0, u64_in _ (by omega) (by omega), w64_in _ (by omega) (by omega)]
    rfl

theorem prod_loop {s t : Bool} {a b : List Int} (ha : ok a) (hb : ok b) (la : a.length < 1000) (lb : b.length < 1000) (n : Nat) :
    ∀ (i : Nat) (out : List Int), a.length = i + n → ok out → out.length ≤ i + b.length + 1 → val out = lo a i * val b →
      ∃ r, Ev (fun k => phalanxref01_Product.l0 k out (i : Int) s a t b) ((s != t), r) ∧ ok r ∧ val r = val a * val b ∧ r.length ≤ a.length + b.length + 1 := by
  induction n with
  | zero =>
    intro i out hi hok hl hv
    refine ⟨out, Ev.step (f := fun _ => some ((s != t), out)) (fun k => ?_) (Ev.now _), hok, ?_, by omega⟩
    · simp only [phalanxref01_Product.l0]
      rw [if_neg (by omega)]
    · rw [hv, lo_val (by omega)]
  | succ n ih =>
    intro i out hi hok hl hv
    obtain ⟨row', hr, hok', hl', hv'⟩ := prod_row (s := s) (t := t) (out := out) ha hb la lb i (by omega) b.length 0 (List.replicate i 0) 0 (by omega) (by simp) (by intro d hd; rw [(List.mem_replicate.1 hd).2]; omega) (by omega) (by omega) (by
      have : ∀ n, val (List.replicate n 0) = 0 := by
        intro n
        induction n with
        | zero => rfl
        | succ n ih => rw [List.replicate_succ, val_cons, ih]; rfl
      simp [this, lo])
    obtain ⟨r1, hev1, hok1, hv1, hl1⟩ := plus_val hok hok' (by omega) (by omega)
    obtain ⟨r, hev, hrest⟩ := ih (i + 1) r1 (by omega) hok1 (by omega) (by
      rw [hv1, hv, hv']
      simp only [lo, Int.add_mul, Int.mul_assoc])
    refine ⟨r, ?_, hrest⟩
    refine Ev.step (f := fun k => phalanxref01_Product.l1 k out (i : Int) (List.replicate i 0) 0 ((0 : Nat) : Int) s a t b) (fun k => ?_) (hr _ (Ev.bind hev1 hev))
    simp only [phalanxref01_Product.l0]
    rw [if_pos (by omega), if_pos (by omega), if_pos (by omega)]
    rfl

theorem Product_val (s t : Bool) {a b : List Int} (ha : ok a) (hb : ok b) (la : a.length < 1000) (lb : b.length < 1000) :
    ∃ r, Ev (fun k => phalanxref01_Product.f k s a t b) ((s != t), r) ∧ ok r ∧ val r = val a * val b ∧ r.length ≤ a.length + b.length + 1 :=
  prod_loop ha hb la lb a.length 0 [] (by omega) ok_nil (by simp) (by simp [val_nil, lo])
theorem lv_prod {s t : Bool} {a b r : List Int} (h : val r = val a * val b) : lv (s != t) r = lv s a * lv t b := by
  unfold lv
  cases s <;> cases t <;> simp [h, Int.neg_mul, Int.mul_neg]

end Go.Proofs.Ytjhiccoooaleoaa.M01
