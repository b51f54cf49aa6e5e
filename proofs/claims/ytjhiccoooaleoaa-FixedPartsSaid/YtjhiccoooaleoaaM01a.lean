/- Plain laws on the long numbers of phalanxref01: lists of digits below 2^32, the lowest first. -/
import Derived.Test.YtjhiccoooaleoaaP01x0
import Derived.Test.YtjhiccoooaleoaaP01x2
import Derived.Test.YtjhiccoooaleoaaP01x3
import Derived.Test.YtjhiccoooaleoaaP01x4
import Derived.Test.YtjhiccoooaleoaaP01x5
set_option linter.unusedVariables false
set_option linter.unusedSimpArgs false
namespace Go.Proofs.Ytjhiccoooaleoaa.M01
open Go.RowKit Go.Proofs.YtjhiccoooaleoaaW.PrintWords Go.Proofs.Ytjhiccoooaleoaa.P01

theorem u64w (n : Int) : IntKind.u64.wrap n = n % 18446744073709551616 := by simp [IntKind.wrap, IntKind.bits, IntKind.signed]
theorem u64_in (n : Int) (h0 : 0 ≤ n) (h1 : n < 18446744073709551616) : IntKind.u64.wrap n = n := by rw [u64w]; omega
theorem w64_in (n : Int) (h0 : -9223372036854775808 ≤ n) (h1 : n < 9223372036854775808) : wrap64 n = n := by unfold wrap64; omega

/-- All digits are below 2^32. -/
def ok (l : List Int) : Prop := ∀ d ∈ l, 0 ≤ d ∧ d < 4294967296
/-- The digit at a place, 0 beyond the end. -/
def dg (l : List Int) (i : Nat) : Int := l.getD i 0
/-- 2^(32 i). -/
def pw (i : Nat) : Int := 4294967296 ^ i
/-- The number of the first so many digits. -/
def lo (l : List Int) : Nat → Int
  | 0 => 0
  | i + 1 => lo l i + pw i * dg l i
/-- The number. -/
def val (l : List Int) : Int := lo l l.length

theorem pw_succ (i : Nat) : pw (i + 1) = 4294967296 * pw i := by unfold pw; rw [Int.pow_succ]; exact Int.mul_comm _ _
theorem pw_zero : pw 0 = 1 := rfl
theorem pw_pos (i : Nat) : 0 < pw i := by unfold pw; exact Int.pow_pos (by decide)
theorem pw_add (i j : Nat) : pw (i + j) = pw i * pw j := by unfold pw; exact Int.pow_add _ _ _

theorem dg_bd {l : List Int} (h : ok l) (i : Nat) : 0 ≤ dg l i ∧ dg l i < 4294967296 := by
  unfold dg
  rw [List.getD_eq_getElem?_getD]
  by_cases hi : i < l.length
  · rw [List.getElem?_eq_getElem hi]
    exact h _ (List.getElem_mem hi)
  · rw [List.getElem?_eq_none (by omega)]
    simp
theorem dg_out {l : List Int} {i : Nat} (h : l.length ≤ i) : dg l i = 0 := by
  unfold dg
  rw [List.getD_eq_getElem?_getD, List.getElem?_eq_none h]
  rfl
theorem lo_bd {l : List Int} (h : ok l) (i : Nat) : 0 ≤ lo l i ∧ lo l i < pw i := by
  induction i with
  | zero => simp [lo, pw_zero]
  | succ i ih =>
    have hd := dg_bd h i
    have hp := pw_pos i
    simp only [lo, pw_succ]
    have h1 : 0 ≤ pw i * dg l i := Int.mul_nonneg (by omega) hd.1
    have h2 : pw i * dg l i ≤ pw i * 4294967295 := Int.mul_le_mul_of_nonneg_left (by omega) (by omega)
    omega
theorem lo_more {l : List Int} (i j : Nat) (h : l.length ≤ i) : lo l (i + j) = lo l i := by
  induction j with
  | zero => rfl
  | succ j ih =>
    show lo l (i + j) + pw (i + j) * dg l (i + j) = _
    rw [ih, dg_out (by omega)]
    simp
theorem lo_val {l : List Int} {n : Nat} (h : l.length ≤ n) : lo l n = val l := by
  obtain ⟨j, rfl⟩ : ∃ j, n = l.length + j := ⟨n - l.length, by omega⟩
  exact lo_more _ _ (Nat.le_refl _)
theorem val_nonneg {l : List Int} (h : ok l) : 0 ≤ val l := (lo_bd h _).1
theorem lo_append (l : List Int) (d : Int) : ∀ i, i ≤ l.length → lo (l ++ [d]) i = lo l i
  | 0, _ => rfl
  | i + 1, h => by
    show lo (l ++ [d]) i + pw i * dg (l ++ [d]) i = lo l i + pw i * dg l i
    rw [lo_append l d i (by omega)]
    unfold dg
    rw [List.getD_eq_getElem?_getD, List.getD_eq_getElem?_getD, List.getElem?_append_left (by omega)]
theorem val_append (l : List Int) (d : Int) : val (l ++ [d]) = val l + pw l.length * d := by
  unfold val
  rw [List.length_append]
  show lo (l ++ [d]) l.length + pw l.length * dg (l ++ [d]) l.length = _
  rw [lo_append l d _ (Nat.le_refl _)]
  have : dg (l ++ [d]) l.length = d := by unfold dg; simp
  rw [this]
theorem ok_append {l : List Int} {d : Int} (h : ok l) (h0 : 0 ≤ d) (h1 : d < 4294967296) : ok (l ++ [d]) := by
  intro x hx
  rcases List.mem_append.1 hx with hx | hx
  · exact h x hx
  · simp only [List.mem_singleton] at hx
    subst hx
    exact ⟨h0, h1⟩
theorem ok_nil : ok [] := by intro d hd; simp at hd
theorem val_nil : val [] = 0 := rfl
theorem lo_cons (d : Int) (l : List Int) : ∀ i, lo (d :: l) (i + 1) = d + 4294967296 * lo l i
  | 0 => by simp [lo, dg, pw_zero]
  | i + 1 => by
    have e := lo_cons d l i
    show lo (d :: l) (i + 1) + pw (i + 1) * dg (d :: l) (i + 1) = d + 4294967296 * (lo l i + pw i * dg l i)
    rw [e, pw_succ]
    have : dg (d :: l) (i + 1) = dg l i := rfl
    rw [this, Int.mul_add, Int.mul_assoc]
    omega
theorem val_cons (d : Int) (l : List Int) : val (d :: l) = d + 4294967296 * val l := by
  unfold val
  exact lo_cons d l l.length
theorem val_one (d : Int) : val [d] = d := by rw [val_cons, val_nil]; simp
theorem val_two (d e : Int) : val [d, e] = d + 4294967296 * e := by rw [val_cons, val_one]
theorem ok_one {d : Int} (h0 : 0 ≤ d) (h1 : d < 4294967296) : ok [d] := ok_append ok_nil h0 h1
theorem ok_cons {d : Int} {l : List Int} (h : ok l) (h0 : 0 ≤ d) (h1 : d < 4294967296) : ok (d :: l) := by
  intro x hx
  rcases List.mem_cons.1 hx with rfl | hx
  · exact ⟨h0, h1⟩
  · exact h x hx
theorem ok_two {d e : Int} (h0 : 0 ≤ d) (h1 : d < 4294967296) (h2 : 0 ≤ e) (h3 : e < 4294967296) : ok [d, e] := ok_cons (ok_one h2 h3) h0 h1

/-! ### The functions -/
theorem digit_at (l : List Int) (i : Nat) : phalanxref01_digit.f l (i : Int) = some (dg l i) := by
  unfold phalanxref01_digit.f
  by_cases h : (i : Int) < (l.length : Int)
  · rw [if_pos h, if_pos (by omega)]
    rfl
  · rw [if_neg h, dg_out (by omega)]

/-- Less, from a place down. -/
theorem less_loop {a b : List Int} (ha : ok a) (hb : ok b) (m : Nat) (hm : (m : Int) < 9223372036854775807) :
    Ev (fun k => phalanxref01_less.l0 k a b ((m : Int) - 1)) (decide (lo a m < lo b m)) := by
  induction m with
  | zero =>
    refine Ev.step (f := fun _ => some false) (fun k => ?_) (Ev.now _)
    simp only [phalanxref01_less.l0]
    rw [if_neg (by omega)]
  | succ m ih =>
    have e : ((m + 1 : Nat) : Int) - 1 = (m : Int) := by omega
    rw [e]
    by_cases hd : dg a m = dg b m
    · refine Ev.step (f := fun k => phalanxref01_less.l0 k a b ((m : Int) - 1)) (fun k => ?_) ?_
      · simp only [phalanxref01_less.l0]
        rw [if_pos (by omega), digit_at, digit_at]
        simp only [Option.bind_some]
        rw [if_pos hd, w64_in _ (by omega) (by omega)]
      · have := ih (by omega)
        simp only [lo, hd]
        rw [show decide (lo a m + pw m * dg b m < lo b m + pw m * dg b m) = decide (lo a m < lo b m) from by
          congr 1; exact propext ⟨fun h => by omega, fun h => by omega⟩]
        exact this
    · refine Ev.step (f := fun _ => some (decide (dg a m < dg b m))) (fun k => ?_) ?_
      · simp only [phalanxref01_less.l0]
        rw [if_pos (by omega), digit_at, digit_at]
        simp only [Option.bind_some]
        rw [if_neg hd]
      · have h1 := lo_bd ha m
        have h2 := lo_bd hb m
        have hp := pw_pos m
        rw [show decide (lo a (m + 1) < lo b (m + 1)) = decide (dg a m < dg b m) from by
          congr 1
          apply propext
          simp only [lo]
          constructor
          · intro h
            rcases (by omega : dg a m < dg b m ∨ dg b m ≤ dg a m) with h3 | h3
            · exact h3
            · have h4 : dg b m + 1 ≤ dg a m := by omega
              have h5 := Int.mul_le_mul_of_nonneg_left h4 (Int.le_of_lt hp)
              rw [Int.mul_add] at h5
              omega
          · intro h
            have h4 : dg a m + 1 ≤ dg b m := by omega
            have h5 := Int.mul_le_mul_of_nonneg_left h4 (Int.le_of_lt hp)
            rw [Int.mul_add] at h5
            omega]
        exact Ev.now _

theorem less_val {a b : List Int} (ha : ok a) (hb : ok b) (la : a.length < 1000000) (lb : b.length < 1000000) :
    Ev (fun k => phalanxref01_less.f k a b) (decide (val a < val b)) := by
  have key : ∀ n : Nat, a.length ≤ n → b.length ≤ n → n < 1000000 → Ev (fun k => phalanxref01_less.j0 k a b (n : Int)) (decide (val a < val b)) := by
    intro n h1 h2 h3
    refine Ev.step (f := fun k => phalanxref01_less.l0 k a b ((n : Int) - 1)) (fun k => ?_) ?_
    · simp only [phalanxref01_less.j0]
      rw [w64_in _ (by omega) (by omega)]
    · have := less_loop ha hb n (by omega)
      rw [lo_val h1, lo_val h2] at this
      exact this
  by_cases h : (b.length : Int) > (a.length : Int)
  · refine Ev.congr (fun k => ?_) (key b.length (by omega) (Nat.le_refl _) lb)
    unfold phalanxref01_less.f
    rw [if_pos h]
  · refine Ev.congr (fun k => ?_) (key a.length (Nat.le_refl _) (by omega) la)
    unfold phalanxref01_less.f
    rw [if_neg h]

theorem plus_loop {a b : List Int} (ha : ok a) (hb : ok b) (la : a.length < 1000000) (lb : b.length < 1000000) (n : Nat) :
    ∀ (i : Nat) (acc : List Int) (c : Int), a.length ≤ i + n → b.length ≤ i + n → acc.length = i → i ≤ max a.length b.length + 1 → ok acc → (c = 0 ∨ c = 1) → (max a.length b.length + 1 ≤ i → c = 0) →
      val acc + c * pw i = lo a i + lo b i →
      ∃ r, Ev (fun k => phalanxref01_plus.l0 k a b acc c (i : Int)) r ∧ ok r ∧ val r = val a + val b ∧ r.length ≤ max a.length b.length + 1 := by
  -- one step where it goes on
  have step : ∀ (i : Nat) (acc : List Int) (c : Int), acc.length = i → i ≤ max a.length b.length → ok acc → (c = 0 ∨ c = 1) → val acc + c * pw i = lo a i + lo b i → (i < a.length ∨ i < b.length ∨ 0 < c) →
      ∃ (acc' : List Int) (c' : Int), (∀ r, Ev (fun k => phalanxref01_plus.l0 k a b acc' c' ((i + 1 : Nat) : Int)) r → Ev (fun k => phalanxref01_plus.l0 k a b acc c (i : Int)) r) ∧ acc'.length = i + 1 ∧ ok acc' ∧ (c' = 0 ∨ c' = 1) ∧ val acc' + c' * pw (i + 1) = lo a (i + 1) + lo b (i + 1) ∧ (i = max a.length b.length → c' = 0) := by
    intro i acc c hl hi hok hc hv hgo
    have da := dg_bd ha i
    have db := dg_bd hb i
    let s := c + dg a i + dg b i
    have hs0 : 0 ≤ s := by simp only [s]; omega
    have hs1 : s ≤ 8589934591 := by simp only [s]; omega
    refine ⟨acc ++ [s % 4294967296], s / 4294967296, ?_, by simp [hl], ok_append hok (by omega) (by omega), by omega, ?_, ?_⟩
    · intro r hr
      have go : Ev (fun k => phalanxref01_plus.j1 k a b acc c (i : Int) true) r := by
        refine Ev.step (f := fun k => phalanxref01_plus.l0 k a b (acc ++ [s % 4294967296]) (s / 4294967296) ((i + 1 : Nat) : Int)) (fun k => ?_) hr
        simp only [phalanxref01_plus.j1]
        rw [if_pos trivial, digit_at, digit_at]
        simp only [Option.bind_some]
        rw [if_pos (by omega), u64_in (c + dg a i) (by omega) (by omega), u64_in _ (by omega) (by omega), Int.tmod_eq_emod_of_nonneg hs0, Int.tdiv_eq_ediv_of_nonneg hs0, u64_in _ (by omega) (by omega), w64_in _ (by omega) (by omega)]
        rfl
      refine Ev.step (f := fun k => phalanxref01_plus.j1 k a b acc c (i : Int) true) (fun k => ?_) go
      simp only [phalanxref01_plus.l0]
      by_cases h1 : (i : Int) < (a.length : Int)
      · rw [if_pos h1]
      · rw [if_neg h1]
        by_cases h2 : (i : Int) < (b.length : Int)
        · rw [if_pos h2]
        · rw [if_neg h2, decide_eq_true (show c > 0 by omega)]
    · rw [val_append, hl, pw_succ]
      simp only [lo]
      have e : s = 4294967296 * (s / 4294967296) + s % 4294967296 := by omega
      have e2 : pw i * s = pw i * c + pw i * dg a i + pw i * dg b i := by simp only [s, Int.mul_add]
      rw [e, Int.mul_add] at e2
      have e3 : s / 4294967296 * (4294967296 * pw i) = pw i * (4294967296 * (s / 4294967296)) := by
        rw [Int.mul_comm, Int.mul_assoc, Int.mul_comm, Int.mul_assoc, Int.mul_comm (s / 4294967296)]
      rw [e3]
      have e4 : c * pw i = pw i * c := Int.mul_comm _ _
      omega
    · intro h
      have : dg a i = 0 := dg_out (by omega)
      have : dg b i = 0 := dg_out (by omega)
      simp only [s]
      omega
  have stop : ∀ (i : Nat) (acc : List Int), a.length ≤ i → b.length ≤ i → Ev (fun k => phalanxref01_plus.l0 k a b acc 0 (i : Int)) acc := by
    intro i acc h1 h2
    refine Ev.step (f := fun k => phalanxref01_plus.j1 k a b acc 0 (i : Int) false) (fun k => ?_) (Ev.step (f := fun _ => some acc) (fun k => ?_) (Ev.now _))
    · simp only [phalanxref01_plus.l0]
      rw [if_neg (by omega), if_neg (by omega)]
      rfl
    · simp only [phalanxref01_plus.j1]
      rw [if_neg (by simp)]
  induction n with
  | zero =>
    intro i acc c h1 h2 hl hi hok hc hce hv
    rcases hc with rfl | rfl
    · refine ⟨acc, stop i acc (by omega) (by omega), hok, ?_, by omega⟩
      rw [lo_val (by omega), lo_val (by omega)] at hv
      omega
    · have hi' : i ≤ max a.length b.length := by
        rcases Nat.lt_or_ge (max a.length b.length) i with h | h
        · have := hce (by omega)
          omega
        · exact h
      obtain ⟨acc', c', hr, hl', hok', hc', hv', hz⟩ := step i acc 1 hl hi' hok (.inr rfl) hv (.inr (.inr (by omega)))
      obtain rfl : c' = 0 := hz (by omega)
      refine ⟨acc', hr _ (stop (i + 1) acc' (by omega) (by omega)), hok', ?_, by omega⟩
      rw [lo_val (by omega), lo_val (by omega)] at hv'
      omega
  | succ n ih =>
    intro i acc c h1 h2 hl hi hok hc hce hv
    by_cases hgo : i < a.length ∨ i < b.length ∨ 0 < c
    · have hi' : i ≤ max a.length b.length := by
        rcases Nat.lt_or_ge (max a.length b.length) i with h | h
        · have := hce (by omega)
          omega
        · exact h
      obtain ⟨acc', c', hr, hl', hok', hc', hv', hz⟩ := step i acc c hl hi' hok hc hv hgo
      obtain ⟨r, hev, hrest⟩ := ih (i + 1) acc' c' (by omega) (by omega) hl' (by omega) hok' hc' (fun h => hz (by omega)) hv'
      exact ⟨r, hr r hev, hrest⟩
    · obtain rfl : c = 0 := by omega
      refine ⟨acc, stop i acc (by omega) (by omega), hok, ?_, by omega⟩
      rw [lo_val (by omega), lo_val (by omega)] at hv
      omega

theorem plus_val {a b : List Int} (ha : ok a) (hb : ok b) (la : a.length < 1000000) (lb : b.length < 1000000) :
    ∃ r, Ev (fun k => phalanxref01_plus.f k a b) r ∧ ok r ∧ val r = val a + val b ∧ r.length ≤ max a.length b.length + 1 :=
  plus_loop ha hb la lb (max a.length b.length) 0 [] 0 (by omega) (by omega) rfl (by omega) ok_nil (.inl rfl) (fun _ => rfl) (by simp [val_nil, lo])

theorem minus_loop {a b : List Int} (ha : ok a) (hb : ok b) (la : a.length < 1000000) (hle : val b ≤ val a) (n : Nat) :
    ∀ (i : Nat) (acc : List Int) (c : Int), a.length = i + n → acc.length = i → ok acc → (c = 0 ∨ c = 1) → val acc = lo a i - lo b i + c * pw i →
      ∃ r, Ev (fun k => phalanxref01_minus.l0 k a b acc c (i : Int)) r ∧ ok r ∧ val r = val a - val b ∧ r.length = a.length := by
  induction n with
  | zero =>
    intro i acc c h1 hl hok hc hv
    refine ⟨acc, Ev.step (f := fun _ => some acc) (fun k => ?_) (Ev.now _), hok, ?_, by omega⟩
    · simp only [phalanxref01_minus.l0]
      rw [if_neg (by omega)]
    · rw [lo_val (by omega)] at hv
      have h2 : val acc < pw i := by have := (lo_bd hok acc.length).2; rw [hl] at this; unfold val; rw [hl]; exact this
      have h3 : lo b i ≤ val b := by
        have key : ∀ j, lo b i ≤ lo b (i + j) := by
          intro j
          induction j with
          | zero => exact Int.le_refl _
          | succ j ih =>
            have h4 : 0 ≤ pw (i + j) * dg b (i + j) := Int.mul_nonneg (Int.le_of_lt (pw_pos _)) (dg_bd hb _).1
            show lo b i ≤ lo b (i + j) + pw (i + j) * dg b (i + j)
            omega
        have := key b.length
        rw [lo_val (show b.length ≤ i + b.length by omega)] at this
        exact this
      have h5 : val b < pw i := by
        have h6 : val a < pw i := by have := (lo_bd ha a.length).2; unfold val; rw [show a.length = i by omega] at this ⊢; exact this
        omega
      have h7 : lo b i = val b := by
        rcases Nat.le_total b.length i with h | h
        · exact lo_val h
        · -- the digits beyond are nought
          have key : ∀ j, i + j ≤ b.length → lo b (i + j) = lo b i := by
            intro j
            induction j with
            | zero => intro _; rfl
            | succ j ih =>
              intro hj
              have e := ih (by omega)
              show lo b (i + j) + pw (i + j) * dg b (i + j) = _
              have hd := dg_bd hb (i + j)
              have h8 : lo b (i + j + 1) ≤ val b := by
                have key2 : ∀ q, lo b (i + j + 1) ≤ lo b (i + j + 1 + q) := by
                  intro q
                  induction q with
                  | zero => exact Int.le_refl _
                  | succ q ih2 =>
                    have h4 : 0 ≤ pw (i + j + 1 + q) * dg b (i + j + 1 + q) := Int.mul_nonneg (Int.le_of_lt (pw_pos _)) (dg_bd hb _).1
                    show lo b (i + j + 1) ≤ lo b (i + j + 1 + q) + pw (i + j + 1 + q) * dg b (i + j + 1 + q)
                    omega
                have := key2 b.length
                rw [lo_val (show b.length ≤ i + j + 1 + b.length by omega)] at this
                exact this
              have h9 : lo b (i + j + 1) = lo b (i + j) + pw (i + j) * dg b (i + j) := rfl
              have h10 : pw i ≤ pw (i + j) := by
                rw [pw_add]
                have := Int.mul_le_mul_of_nonneg_left (show (1 : Int) ≤ pw j from pw_pos j) (Int.le_of_lt (pw_pos i))
                omega
              have h11 : 0 ≤ lo b (i + j) := (lo_bd hb _).1
              rcases (by omega : 0 < dg b (i + j) ∨ dg b (i + j) ≤ 0) with h12 | h12
              · have := Int.mul_le_mul_of_nonneg_left (show (1 : Int) ≤ dg b (i + j) from h12) (Int.le_of_lt (pw_pos (i + j)))
                omega
              · have : dg b (i + j) = 0 := by omega
                rw [this]
                simp [e]
          have := key (b.length - i) (by omega)
          rw [show i + (b.length - i) = b.length by omega] at this
          exact this.symm
      have hp := pw_pos i
      rcases hc with rfl | rfl <;> omega
  | succ n ih =>
    intro i acc c h1 hl hok hc hv
    have da := dg_bd ha i
    have db := dg_bd hb i
    have hx : rd a (i : Int) = dg a i := rfl
    by_cases hlt : dg a i < dg b i + c
    · obtain ⟨r, hev, hrest⟩ := ih (i + 1) (acc ++ [dg a i + 4294967296 - (dg b i + c)]) 1 (by omega) (by simp [hl]) (ok_append hok (by omega) (by omega)) (.inr rfl) (by
        rw [val_append, hl, hv, pw_succ]
        simp only [lo, Int.mul_sub, Int.mul_add]
        have e4 : c * pw i = pw i * c := Int.mul_comm _ _
        omega)
      refine ⟨r, Ev.step (f := fun k => phalanxref01_minus.l0 k a b (acc ++ [dg a i + 4294967296 - (dg b i + c)]) 1 ((i + 1 : Nat) : Int)) (fun k => ?_) hev, hrest⟩
      simp only [phalanxref01_minus.l0]
      rw [if_pos (by omega), if_pos (by omega), digit_at]
      simp only [Option.bind_some]
      rw [hx, u64_in (dg b i + c) (by omega) (by omega), if_pos hlt, if_pos (by omega), u64_in (dg a i + 4294967296) (by omega) (by omega), u64_in _ (by omega) (by omega), w64_in _ (by omega) (by omega)]
      rfl
    · obtain ⟨r, hev, hrest⟩ := ih (i + 1) (acc ++ [dg a i - (dg b i + c)]) 0 (by omega) (by simp [hl]) (ok_append hok (by omega) (by omega)) (.inl rfl) (by
        rw [val_append, hl, hv]
        simp only [lo, Int.mul_sub, Int.mul_add]
        have e4 : c * pw i = pw i * c := Int.mul_comm _ _
        omega)
      refine ⟨r, Ev.step (f := fun k => phalanxref01_minus.l0 k a b (acc ++ [dg a i - (dg b i + c)]) 0 ((i + 1 : Nat) : Int)) (fun k => ?_) hev, hrest⟩
      simp only [phalanxref01_minus.l0]
      rw [if_pos (by omega), if_pos (by omega), digit_at]
      simp only [Option.bind_some]
      rw [hx, u64_in (dg b i + c) (by omega) (by omega), if_neg hlt, if_pos (by omega), u64_in _ (by omega) (by omega), w64_in _ (by omega) (by omega)]
      rfl

theorem minus_val {a b : List Int} (ha : ok a) (hb : ok b) (la : a.length < 1000000) (hle : val b ≤ val a) :
    ∃ r, Ev (fun k => phalanxref01_minus.f k a b) r ∧ ok r ∧ val r = val a - val b ∧ r.length = a.length :=
  minus_loop ha hb la hle a.length 0 [] 0 (by omega) rfl ok_nil (.inl rfl) (by simp [val_nil, lo])

end Go.Proofs.Ytjhiccoooaleoaa.M01
