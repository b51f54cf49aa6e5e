/- Products and quotients of numbers of 32 and 32 bits; the division of 128 bits by 64. -/
import Derived.Test.YtjhiccoooaleoaaP01x0
import Derived.Test.YtjhiccoooaleoaaP01x1
import Derived.Test.YtjhiccoooaleoaaP01x3
import Derived.Test.YtjhiccoooaleoaaP01x6
import Derived.Test.YtjhiccoooaleoaaP01x8
import Derived.Test.YtjhiccoooaleoaaP01x13
import Derived.Test.YtjhiccoooaleoaaP01x21
import Derived.Test.YtjhiccoooaleoaaP01x23
import Derived.Test.YtjhiccoooaleoaaP01x24
import Derived.Test.YtjhiccoooaleoaaP01x25
import Derived.Test.YtjhiccoooaleoaaP01x26
import Derived.Test.YtjhiccoooaleoaaP01x27
import Derived.Test.YtjhiccoooaleoaaM01s
set_option linter.unusedVariables false
set_option linter.unusedSimpArgs false
namespace Go.Proofs.Ytjhiccoooaleoaa.M01
open Go.RowKit Go.Proofs.YtjhiccoooaleoaaW.PrintWords Go.Proofs.Ytjhiccoooaleoaa.P01

/-! ### One digit of a long division -/
/-- What is known while a digit is guessed: Q is the true digit, q the guess, rh what it leaves of the divisor's upper half. -/
structure Gs (v h l u n Q q rh : Int) : Prop where
  hv : v = h * 4294967296 + l
  hh : 2147483648 ≤ h ∧ h < 4294967296
  hl : 0 ≤ l ∧ l < 4294967296
  hu : 0 ≤ u ∧ u < v
  hn : 0 ≤ n ∧ n < 4294967296
  hQ : Q = (u * 4294967296 + n) / v
  hq : Q ≤ q ∧ q ≤ 4294967297
  hr : 0 ≤ rh ∧ rh < 4294967296
  he : u = q * h + rh
theorem Gs.ql {v h l u n Q q rh : Int} (g : Gs v h l u n Q q rh) : 0 ≤ Q ∧ Q < 4294967296 := by
  have hv := g.hv; have hh := g.hh; have hl := g.hl; have hu := g.hu; have hn := g.hn
  have v0 : 0 < v := by omega
  rw [g.hQ]
  refine ⟨Int.ediv_nonneg (by omega) (by omega), ?_⟩
  rw [Int.ediv_lt_iff_lt_mul v0, Int.mul_comm 4294967296 v]
  omega
theorem Gs.mul_l {v h l u n Q q rh : Int} (g : Gs v h l u n Q q rh) : 0 ≤ q * l ∧ q * l ≤ 18446744073709551615 := by
  have h0 := g.ql; have hq := g.hq; have hl := g.hl
  refine ⟨Int.mul_nonneg (by omega) hl.1, ?_⟩
  have h1 : q * l ≤ 4294967297 * l := Int.mul_le_mul_of_nonneg_right hq.2 hl.1
  omega
/-- What is left above the guess. -/
theorem Gs.left {v h l u n Q q rh : Int} (g : Gs v h l u n Q q rh) : u * 4294967296 + n - q * v = rh * 4294967296 + n - q * l := by
  rw [g.hv, g.he, Int.mul_add, Int.add_mul, Int.mul_assoc]
  omega
theorem Gs.great {v h l u n Q q rh : Int} (g : Gs v h l u n Q q rh) (hlt : rh * 4294967296 + n < q * l ∨ 4294967296 ≤ q) : Q ≤ q - 1 := by
  have h0 := g.ql
  have hh := g.hh; have hv := g.hv; have hl := g.hl
  rcases hlt with hlt | hlt
  · have h1 := g.left
    have h2 : u * 4294967296 + n < v * q := by rw [Int.mul_comm v q]; omega
    have h3 := Int.ediv_lt_of_lt_mul (show 0 < v by omega) (show u * 4294967296 + n < q * v by omega)
    rw [← g.hQ] at h3
    omega
  · omega
theorem Gs.exact_ {v h l u n Q q rh : Int} (g : Gs v h l u n Q q rh) (hge : q * l ≤ rh * 4294967296 + n) : Q = q := by
  have h1 := g.left
  have hh := g.hh; have hv := g.hv; have hl := g.hl
  have h2 : q ≤ (u * 4294967296 + n) / v := (Int.le_ediv_iff_mul_le (show 0 < v by omega)).2 (by omega)
  rw [← g.hQ] at h2
  have := g.hq
  omega
theorem Gs.down {v h l u n Q q rh : Int} (g : Gs v h l u n Q q rh) (hgo : rh * 4294967296 + n < q * l ∨ 4294967296 ≤ q) (hr : rh + h < 4294967296) : Gs v h l u n Q (q - 1) (rh + h) := by
  have h1 := g.great hgo
  refine { g with hq := ⟨h1, by have := g.hq; omega⟩, hr := ⟨by have := g.hr; have := g.hh; omega, hr⟩, he := ?_ }
  rw [g.he, Int.sub_mul]
  omega
theorem Gs.last {v h l u n Q q rh : Int} (g : Gs v h l u n Q q rh) (hgo : rh * 4294967296 + n < q * l ∨ 4294967296 ≤ q) (hr : 4294967296 ≤ rh + h) : Q = q - 1 := by
  have h1 := g.great hgo
  have h0 := g.ql; have hh := g.hh; have hv := g.hv; have hl := g.hl; have hn := g.hn; have hq := g.hq
  have e := g.left
  have h2 : (q - 1) * v ≤ u * 4294967296 + n := by
    have e1 : (q - 1) * v = q * v - v := by rw [Int.sub_mul]; omega
    have e2 : (q - 1) * l = q * l - l := by rw [Int.sub_mul]; omega
    have h3 : (q - 1) * l ≤ 4294967296 * l := Int.mul_le_mul_of_nonneg_right (by omega) hl.1
    omega
  have h3 : q - 1 ≤ (u * 4294967296 + n) / v := (Int.le_ediv_iff_mul_le (show 0 < v by omega)).2 h2
  rw [← g.hQ] at h3
  omega
/-- The first guess. -/
theorem Gs.first {v h l u n : Int} (hv : v = h * 4294967296 + l) (hh : 2147483648 ≤ h ∧ h < 4294967296) (hl : 0 ≤ l ∧ l < 4294967296) (hu : 0 ≤ u ∧ u < v) (hn : 0 ≤ n ∧ n < 4294967296) :
    Gs v h l u n ((u * 4294967296 + n) / v) (u / h) (u - u / h * h) := by
  have e := Int.mul_ediv_add_emod u h
  have m0 := Int.emod_nonneg u (show h ≠ 0 by omega)
  have m1 := Int.emod_lt_of_pos u (show 0 < h by omega)
  have e2 : u / h * h = h * (u / h) := Int.mul_comm _ _
  have hd0 : 0 ≤ u / h := Int.ediv_nonneg hu.1 (by omega)
  refine ⟨hv, hh, hl, hu, hn, rfl, ⟨?_, ?_⟩, by omega, by omega⟩
  · -- the true digit is no greater: it would leave less than nothing of the upper half
    rcases (by omega : (u * 4294967296 + n) / v ≤ u / h ∨ u / h + 1 ≤ (u * 4294967296 + n) / v) with c | c
    · exact c
    · have h2 := (Int.le_ediv_iff_mul_le (show 0 < v by omega)).1 c
      have h3 : (u / h + 1) * v = (u / h + 1) * h * 4294967296 + (u / h + 1) * l := by rw [hv, Int.mul_add, Int.mul_assoc]
      have h4 : (u / h + 1) * h = u / h * h + h := by rw [Int.add_mul]; omega
      have h5 : 0 ≤ (u / h + 1) * l := Int.mul_nonneg (by omega) hl.1
      omega
  · have h2 : u / h < 4294967298 := by
      rw [Int.ediv_lt_iff_lt_mul (show 0 < h by omega)]
      omega
    omega

theorem le_of_decide {a b : Int} : (decide (a > b)) = decide (b < a) := rfl
/-- The first loop: it ends with the true digit. -/
theorem div_l0 {v s h l u n n0 Q : Int} {X : Int × Int} (hX : Ev (fun k => bits_Div64.j2 k v s h l u n n0 Q) X) : ∀ (m : Nat) (q rh : Int), (q - Q).toNat ≤ m → Gs v h l u n Q q rh → Ev (fun k => bits_Div64.l0 k v s h l u n n0 q rh) X := by
  intro m
  induction m with
  | zero =>
    intro q rh hm g
    have hq := g.hq
    obtain rfl : Q = q := by omega
    have h0 := g.ql; have hn := g.hn; have hr := g.hr; have hl := g.mul_l
    have no : ¬ (rh * 4294967296 + n < Q * l) := by
      intro c
      have := g.great (.inl c)
      omega
    refine Ev.step (f := fun k => bits_Div64.j1 k v s h l u n n0 Q rh false) (fun k => ?_) (Ev.step (f := fun k => bits_Div64.j2 k v s h l u n n0 Q) (fun k => ?_) hX)
    · simp only [bits_Div64.l0]
      rw [if_neg (by omega), u64_in (Q * l) (by omega) (by omega), u64_in (4294967296 * rh) (by omega) (by omega), u64_in (4294967296 * rh + n) (by omega) (by omega), decide_eq_false (by omega)]
    · simp only [bits_Div64.j1]
      exact if_neg (by simp)
  | succ m ih =>
    intro q rh hm g
    have hq := g.hq
    have h0 := g.ql; have hn := g.hn; have hr := g.hr; have hl := g.mul_l; have hh := g.hh
    by_cases c : rh * 4294967296 + n < q * l ∨ 4294967296 ≤ q
    · have hgt := g.great c
      have e1 : Ev (fun k => bits_Div64.j1 k v s h l u n n0 q rh true) X := by
        by_cases d : rh + h < 4294967296
        · refine Ev.step (f := fun k => bits_Div64.l0 k v s h l u n n0 (q - 1) (rh + h)) (fun k => ?_) (ih (q - 1) (rh + h) (by omega) (g.down c d))
          simp only [bits_Div64.j1]
          rw [if_pos trivial, u64_in (rh + h) (by omega) (by omega), u64_in (q - 1) (by omega) (by omega), if_neg (by omega)]
        · have e := g.last c (by omega)
          refine Ev.step (f := fun k => bits_Div64.j2 k v s h l u n n0 Q) (fun k => ?_) hX
          simp only [bits_Div64.j1]
          rw [if_pos trivial, u64_in (rh + h) (by omega) (by omega), u64_in (q - 1) (by omega) (by omega), if_pos (by omega), e]
      refine Ev.step (f := fun k => bits_Div64.j1 k v s h l u n n0 q rh true) (fun k => ?_) e1
      simp only [bits_Div64.l0]
      by_cases c2 : q ≥ 4294967296
      · rw [if_pos c2]
      · rw [if_neg c2, u64_in (q * l) (by omega) (by omega), u64_in (4294967296 * rh) (by omega) (by omega), u64_in (4294967296 * rh + n) (by omega) (by omega), decide_eq_true (by omega)]
    · obtain rfl : Q = q := g.exact_ (by omega)
      exact ih Q rh (by omega) g
/-- The second loop: likewise. -/
theorem div_l1 {v s h l u n Q q1 : Int} (hs : 0 ≤ s) {X : Int × Int} (hX : X = (IntKind.u64.wrap ((IntKind.u64.wrap (q1 * 4294967296)) + Q), shr .u64 (IntKind.u64.wrap ((IntKind.u64.wrap ((IntKind.u64.wrap (u * 4294967296)) + n)) - (IntKind.u64.wrap (Q * v)))) s)) : ∀ (m : Nat) (q rh : Int), (q - Q).toNat ≤ m → Gs v h l u n Q q rh → Ev (fun k => bits_Div64.l1 k v s h l n q1 rh u q) X := by
  intro m
  induction m with
  | zero =>
    intro q rh hm g
    have hq := g.hq
    obtain rfl : Q = q := by omega
    have h0 := g.ql; have hn := g.hn; have hr := g.hr; have hl := g.mul_l
    have no : ¬ (rh * 4294967296 + n < Q * l) := by
      intro c
      have := g.great (.inl c)
      omega
    refine Ev.step (f := fun k => bits_Div64.j4 k v s h l n q1 rh u Q false) (fun k => ?_) (Ev.step (f := fun _ => some X) (fun k => ?_) (Ev.now _))
    · simp only [bits_Div64.l1]
      rw [if_neg (by omega), u64_in (Q * l) (by omega) (by omega), u64_in (4294967296 * rh) (by omega) (by omega), u64_in (4294967296 * rh + n) (by omega) (by omega), decide_eq_false (by omega)]
    · simp only [bits_Div64.j4]
      rw [if_neg (by simp), if_pos hs, hX]
  | succ m ih =>
    intro q rh hm g
    have hq := g.hq
    have h0 := g.ql; have hn := g.hn; have hr := g.hr; have hl := g.mul_l; have hh := g.hh
    by_cases c : rh * 4294967296 + n < q * l ∨ 4294967296 ≤ q
    · have hgt := g.great c
      have e1 : Ev (fun k => bits_Div64.j4 k v s h l n q1 rh u q true) X := by
        by_cases d : rh + h < 4294967296
        · refine Ev.step (f := fun k => bits_Div64.l1 k v s h l n q1 (rh + h) u (q - 1)) (fun k => ?_) (ih (q - 1) (rh + h) (by omega) (g.down c d))
          simp only [bits_Div64.j4]
          rw [if_pos trivial, u64_in (rh + h) (by omega) (by omega), u64_in (q - 1) (by omega) (by omega), if_neg (by omega)]
        · have e := g.last c (by omega)
          refine Ev.step (f := fun _ => some X) (fun k => ?_) (Ev.now _)
          simp only [bits_Div64.j4]
          rw [if_pos trivial, u64_in (rh + h) (by omega) (by omega), u64_in (q - 1) (by omega) (by omega), if_pos (by omega), if_pos hs, ← e, hX]
      refine Ev.step (f := fun k => bits_Div64.j4 k v s h l n q1 rh u q true) (fun k => ?_) e1
      simp only [bits_Div64.l1]
      by_cases c2 : q ≥ 4294967296
      · rw [if_pos c2]
      · rw [if_neg c2, u64_in (q * l) (by omega) (by omega), u64_in (4294967296 * rh) (by omega) (by omega), u64_in (4294967296 * rh + n) (by omega) (by omega), decide_eq_true (by omega)]
    · obtain rfl : Q = q := g.exact_ (by omega)
      exact ih Q rh (by omega) g

/-- How many bits a number has. -/
theorem bitLen_spec (x : Nat) (h0 : 0 < x) (h1 : x < 18446744073709551616) : 1 ≤ Lib.bitLen x ∧ Lib.bitLen x ≤ 64 ∧ 2 ^ (Lib.bitLen x - 1) ≤ x ∧ x < 2 ^ Lib.bitLen x := by
  have key : ∀ (f x : Nat), 0 < x → x < 2 ^ f → 1 ≤ Lib.bitLenAux f x ∧ Lib.bitLenAux f x ≤ f ∧ 2 ^ (Lib.bitLenAux f x - 1) ≤ x ∧ x < 2 ^ Lib.bitLenAux f x := by
    intro f
    induction f with
    | zero => intro x h0 h1; simp at h1; omega
    | succ f ih =>
      intro x h0 h1
      simp only [Lib.bitLenAux]
      rw [if_neg (by omega)]
      by_cases h2 : x / 2 = 0
      · have : Lib.bitLenAux f (x / 2) = 0 := by
          rw [h2]
          cases f with
          | zero => rfl
          | succ f => simp [Lib.bitLenAux]
        rw [this]
        refine ⟨by omega, by omega, by simp; omega, by simp; omega⟩
      · have h3 := ih (x / 2) (by omega) (by rw [Nat.pow_succ] at h1; omega)
        refine ⟨by omega, by omega, ?_, ?_⟩
        · rw [show 1 + Lib.bitLenAux f (x / 2) - 1 = (Lib.bitLenAux f (x / 2) - 1) + 1 by omega, Nat.pow_succ]
          omega
        · rw [show 1 + Lib.bitLenAux f (x / 2) = Lib.bitLenAux f (x / 2) + 1 by omega, Nat.pow_succ]
          omega
  exact key 64 x h0 (by simpa using h1)
theorem shl_u64 (x : Int) (m : Nat) (hm : m ≤ 64) : shl .u64 x (m : Int) = (x * 2 ^ m) % 18446744073709551616 := by
  unfold shl
  rw [Int.toNat_natCast, Nat.min_eq_left (show m ≤ IntKind.u64.bits from hm), u64w]
theorem shr_u64 (x : Int) (m : Nat) (hm : m ≤ 64) : shr .u64 x (m : Int) = x / 2 ^ m := by
  unfold shr
  rw [Int.toNat_natCast, Nat.min_eq_left (show m ≤ IntKind.u64.bits from hm)]
theorem pow_split {m : Nat} (hm : m ≤ 64) : (2 : Int) ^ m * 2 ^ (64 - m) = 18446744073709551616 := by rw [← Int.pow_add, show m + (64 - m) = 64 by omega]; rfl

/-- 128 bits divided by 64. -/
theorem div64 {hi lo y : Int} (h0 : 0 ≤ hi) (h1 : hi < y) (h2 : y < 18446744073709551616) (l0 : 0 ≤ lo) (l1 : lo < 18446744073709551616) :
    Ev (fun k => bits_Div64.f k hi lo y) ((hi * 18446744073709551616 + lo) / y, (hi * 18446744073709551616 + lo) % y) := by
  by_cases hz : hi = 0
  · subst hz
    refine Ev.congr (f := fun _ => some (lo / y, lo % y)) (fun k => ?_) (by rw [show (0 : Int) * 18446744073709551616 + lo = lo by omega]; exact Ev.now _)
    unfold bits_Div64.f
    have hd := Int.ediv_le_self y l0
    have hd0 := Int.ediv_nonneg l0 (show 0 ≤ y by omega)
    rw [if_neg (by omega), if_neg (by omega), if_pos rfl, Int.tdiv_eq_ediv_of_nonneg l0, Int.tmod_eq_emod_of_nonneg l0, u64_in _ hd0 (by have := Int.ediv_le_self y l0; omega)]
  -- how far it is shifted
  have hb := bitLen_spec y.toNat (by omega) (by omega)
  obtain ⟨m, hm⟩ : ∃ m : Nat, m = 64 - Lib.bitLen y.toNat := ⟨_, rfl⟩
  have hm63 : m ≤ 63 := by omega
  have hp : (0 : Int) < 2 ^ m := Int.pow_pos (by decide)
  have hp' : (0 : Int) < 2 ^ (64 - m) := Int.pow_pos (by decide)
  have hsp := pow_split (show m ≤ 64 by omega)
  have hlz : bits_LeadingZeros64.f y = some (m : Int) := by
    unfold bits_LeadingZeros64.f bits_Len64.f
    rw [if_pos (by omega), if_pos (by omega), Option.bind_some, w64_in _ (by omega) (by omega)]
    congr 1
    omega
  -- the divisor, shifted: its highest bit is set
  have hv1 : y * 2 ^ m < 18446744073709551616 := by
    have h3 : y < 2 ^ (64 - m) := by
      have := hb.2.2.2
      rw [show Lib.bitLen y.toNat = 64 - m by omega] at this
      have h4 : ((y.toNat : Nat) : Int) < ((2 ^ (64 - m) : Nat) : Int) := Int.ofNat_lt.2 this
      rw [Int.toNat_of_nonneg (by omega)] at h4
      simpa using h4
    have h5 : y * 2 ^ m < 2 ^ (64 - m) * 2 ^ m := Int.mul_lt_mul_of_pos_right h3 hp
    rw [Int.mul_comm (2 ^ (64 - m))] at h5
    omega
  have hv0 : 9223372036854775808 ≤ y * 2 ^ m := by
    have h3 : (2 : Int) ^ (63 - m) ≤ y := by
      have := hb.2.2.1
      rw [show Lib.bitLen y.toNat - 1 = 63 - m by omega] at this
      have h4 : ((2 ^ (63 - m) : Nat) : Int) ≤ ((y.toNat : Nat) : Int) := Int.ofNat_le.2 this
      rw [Int.toNat_of_nonneg (by omega)] at h4
      simpa using h4
    have h5 : 2 ^ (63 - m) * 2 ^ m ≤ y * 2 ^ m := Int.mul_le_mul_of_nonneg_right h3 (by omega)
    have h6 : (2 : Int) ^ (63 - m) * 2 ^ m = 9223372036854775808 := by rw [← Int.pow_add, show 63 - m + m = 63 by omega]; rfl
    omega
  generalize hv : y * 2 ^ m = v at hv0 hv1
  -- the dividend, shifted
  have hhi0 : 0 ≤ hi * 2 ^ m := Int.mul_nonneg h0 (by omega)
  have hhi1 : hi * 2 ^ m + 2 ^ m ≤ v := by
    have h5 : (hi + 1) * 2 ^ m ≤ y * 2 ^ m := Int.mul_le_mul_of_nonneg_right (by omega) (by omega)
    rw [Int.add_mul] at h5
    omega
  have hup0 : 0 ≤ lo / 2 ^ (64 - m) := Int.ediv_nonneg l0 (by omega)
  have hup1 : lo / 2 ^ (64 - m) < 2 ^ m := by
    rw [Int.ediv_lt_iff_lt_mul hp']
    omega
  have hlo : lo * 2 ^ m = lo / 2 ^ (64 - m) * 18446744073709551616 + (lo * 2 ^ m) % 18446744073709551616 := by
    have e : lo * 2 ^ m / 18446744073709551616 = lo / 2 ^ (64 - m) := by
      rw [← hsp, Int.mul_comm (2 ^ m) (2 ^ (64 - m)), Int.mul_ediv_mul_of_pos_left _ _ hp]
    rw [← e]
    omega
  have hor : Go.bits .or .u64 (shl .u64 hi (m : Int)) (shr .u64 lo ((64 - m : Nat) : Int)) = hi * 2 ^ m + lo / 2 ^ (64 - m) := by
    rw [shl_u64 _ m (by omega), shr_u64 _ (64 - m) (by omega), Int.emod_eq_of_lt hhi0 (by omega)]
    refine bits_join .u64 64 (by decide) (fun n h0 h1 => u64_in n h0 (by simpa using h1)) m _ _ hhi0 (Int.mul_emod_left _ _) (by simpa using (by omega : hi * 2 ^ m < 18446744073709551616)) hup0 hup1 (by simpa using (by omega : lo / 2 ^ (64 - m) < 18446744073709551616))
  obtain ⟨u, hu⟩ : ∃ u, u = hi * 2 ^ m + lo / 2 ^ (64 - m) := ⟨_, rfl⟩
  obtain ⟨w, hw⟩ : ∃ w, w = (lo * 2 ^ m) % 18446744073709551616 := ⟨_, rfl⟩
  have hw0 : 0 ≤ w ∧ w < 18446744073709551616 := by omega
  have hu0 : 0 ≤ u ∧ u < v := by omega
  have hN : (hi * 18446744073709551616 + lo) * 2 ^ m = u * 18446744073709551616 + w := by
    rw [Int.add_mul, hlo, ← hw, hu, Int.mul_right_comm, Int.add_mul]
    omega
  -- the two digits
  have hvh : v = v / 4294967296 * 4294967296 + v % 4294967296 := by omega
  have g1 := Gs.first (v := v) (h := v / 4294967296) (l := v % 4294967296) (u := u) (n := w / 4294967296) hvh (by omega) (by omega) hu0 (by omega)
  generalize hQ1 : (u * 4294967296 + w / 4294967296) / v = Q1 at g1
  have q1l := g1.ql
  have e1 := Int.mul_ediv_add_emod (u * 4294967296 + w / 4294967296) v
  rw [hQ1] at e1
  have r0 := Int.emod_nonneg (u * 4294967296 + w / 4294967296) (show v ≠ 0 by omega)
  have r1 := Int.emod_lt_of_pos (u * 4294967296 + w / 4294967296) (show 0 < v by omega)
  generalize (u * 4294967296 + w / 4294967296) % v = u2 at e1 r0 r1
  have g2 := Gs.first (v := v) (h := v / 4294967296) (l := v % 4294967296) (u := u2) (n := w % 4294967296) hvh (by omega) (by omega) ⟨r0, r1⟩ (by omega)
  generalize hQ0 : (u2 * 4294967296 + w % 4294967296) / v = Q0 at g2
  have q0l := g2.ql
  have e0 := Int.mul_ediv_add_emod (u2 * 4294967296 + w % 4294967296) v
  rw [hQ0] at e0
  have s0 := Int.emod_nonneg (u2 * 4294967296 + w % 4294967296) (show v ≠ 0 by omega)
  have s1 := Int.emod_lt_of_pos (u2 * 4294967296 + w % 4294967296) (show 0 < v by omega)
  generalize (u2 * 4294967296 + w % 4294967296) % v = r at e0 s0 s1
  -- the whole quotient and rest
  have hall : (hi * 18446744073709551616 + lo) * 2 ^ m = v * (Q1 * 4294967296 + Q0) + r := by
    rw [hN, Int.mul_add, ← Int.mul_assoc]
    omega
  have hq : (hi * 18446744073709551616 + lo) / y = Q1 * 4294967296 + Q0 := by
    have h3 : (hi * 18446744073709551616 + lo) * 2 ^ m / (y * 2 ^ m) = (hi * 18446744073709551616 + lo) / y := Int.mul_ediv_mul_of_pos_left _ _ hp
    rw [← h3, hv]
    exact div_is hall s0 s1
  have hr : (hi * 18446744073709551616 + lo) % y = r / 2 ^ m := by
    have h3 := Int.mul_ediv_add_emod (hi * 18446744073709551616 + lo) y
    rw [hq] at h3
    have h4 : r = ((hi * 18446744073709551616 + lo) % y) * 2 ^ m := by
      have h5 : (y * (Q1 * 4294967296 + Q0) + (hi * 18446744073709551616 + lo) % y) * 2 ^ m = v * (Q1 * 4294967296 + Q0) + r := by rw [h3]; exact hall
      rw [Int.add_mul, Int.mul_right_comm, hv] at h5
      omega
    rw [h4, Int.mul_ediv_cancel _ (by omega)]
  have hX : ((hi * 18446744073709551616 + lo) / y, (hi * 18446744073709551616 + lo) % y) = (IntKind.u64.wrap ((IntKind.u64.wrap (Q1 * 4294967296)) + Q0), shr .u64 (IntKind.u64.wrap ((IntKind.u64.wrap ((IntKind.u64.wrap (u2 * 4294967296)) + w % 4294967296)) - (IntKind.u64.wrap (Q0 * v)))) (m : Int)) := by
    rw [hq, hr, shr_u64 _ m (by omega), u64_in (Q1 * 4294967296) (by omega) (by omega), u64_in (Q1 * 4294967296 + Q0) (by omega) (by omega)]
    congr 2
    simp only [u64w]
    have e5 : Q0 * v = v * Q0 := Int.mul_comm _ _
    omega
  have ev1 := div_l1 (s := (m : Int)) (q1 := Q1) (by omega) hX (u2 / (v / 4294967296) - Q0).toNat (u2 / (v / 4294967296)) (u2 - u2 / (v / 4294967296) * (v / 4294967296)) (Nat.le_refl _) g2
  have hd2 : 0 ≤ u2 / (v / 4294967296) ∧ u2 / (v / 4294967296) ≤ 4294967297 := ⟨Int.ediv_nonneg r0 (by omega), g2.hq.2⟩
  have hd1 : 0 ≤ u / (v / 4294967296) ∧ u / (v / 4294967296) ≤ 4294967297 := ⟨Int.ediv_nonneg hu0.1 (by omega), g1.hq.2⟩
  have ev2 : Ev (fun k => bits_Div64.j2 k v (m : Int) (v / 4294967296) (v % 4294967296) u (w / 4294967296) (w % 4294967296) Q1) ((hi * 18446744073709551616 + lo) / y, (hi * 18446744073709551616 + lo) % y) := by
    refine Ev.step (fun k => ?_) ev1
    simp only [bits_Div64.j2]
    have e5 : Q1 * v = v * Q1 := Int.mul_comm _ _
    have e6 : IntKind.u64.wrap ((IntKind.u64.wrap ((IntKind.u64.wrap (u * 4294967296)) + w / 4294967296)) - (IntKind.u64.wrap (Q1 * v))) = u2 := by
      simp only [u64w]
      omega
    have e7 := g2.hr
    have e8 := g2.he
    have e9 : 0 ≤ u2 / (v / 4294967296) * (v / 4294967296) := Int.mul_nonneg hd2.1 (by omega)
    rw [if_neg (by omega), e6, Int.tdiv_eq_ediv_of_nonneg r0, u64_in (u2 / (v / 4294967296)) (by omega) (by omega), u64_in (u2 / (v / 4294967296) * (v / 4294967296)) (by omega) (by omega), u64_in (u2 - _) (by omega) (by omega)]
  have ev3 := div_l0 ev2 (u / (v / 4294967296) - Q1).toNat (u / (v / 4294967296)) (u - u / (v / 4294967296) * (v / 4294967296)) (Nat.le_refl _) g1
  refine Ev.congr (fun k => ?_) ev3
  unfold bits_Div64.f
  have e7 := g1.hr
  have e8 := g1.he
  have e9 : 0 ≤ u / (v / 4294967296) * (v / 4294967296) := Int.mul_nonneg hd1.1 (by omega)
  rw [if_neg (by omega), if_neg (by omega), if_neg hz, hlz, Option.bind_some, u64_in (m : Int) (by omega) (by omega), if_pos (by omega), u64_in (64 - (m : Int)) (by omega) (by omega), if_pos (by omega), show (64 : Int) - (m : Int) = ((64 - m : Nat) : Int) by omega, hor, ← hu, shl_u64 y m (by omega), hv, Int.emod_eq_of_lt (by omega) hv1, if_neg (by omega), shl_u64 lo m (by omega), ← hw, low32 v (by omega) hv1, low32 w hw0.1 hw0.2, Int.tdiv_eq_ediv_of_nonneg hu0.1, u64_in (u / (v / 4294967296)) (by omega) (by omega), u64_in (u / (v / 4294967296) * (v / 4294967296)) (by omega) (by omega), u64_in (u - _) (by omega) (by omega)]

/-! ### Rounding -/
/-- An amount with a sign, rounded down. -/
theorem fixRounded {n : Int} (h0 : 0 ≤ n) (h1 : n < 18446744073709551616) (rest below : Bool) :
    Ev (fun k => fixed_rounded.f k n rest below) (fit (if below = true then (if rest = true then -(n + 1) else -n) else n)) := by
  have sgn : ∀ (x : Int), 0 ≤ x → x < 18446744073709551616 → Ev (fun k => fixed_signed.f k x (x != 0)) (fit (-x)) := by
    intro x hx0 hx1
    have := fixSigned hx0 hx1 (x != 0)
    by_cases hz : x = 0
    · subst hz
      exact this
    · rw [if_pos (by simpa using hz)] at this
      exact this
  have pos : Ev (fun k => fixed_signed.f k n false) (fit n) := by
    have := fixSigned h0 h1 false
    rw [if_neg (by simp)] at this
    exact this
  have pair : ∀ z : Option (Int × Bool), (z.bind fun b => some (b.1, b.2)) = z := fun z => Option.bind_fun_some z
  cases below with
  | false =>
    rw [if_neg (by simp)]
    refine Ev.congr (f := fun k => fixed_rounded.j0 k n false false) (fun k => ?_) (Ev.step (f := fun k => fixed_signed.f k n false) (fun k => ?_) pos)
    · unfold fixed_rounded.f
      rw [if_neg (by simp)]
    · simp only [fixed_rounded.j0]
      rw [if_neg (by simp), if_neg (by simp), pair]
  | true =>
    rw [if_pos rfl]
    have e : ∀ k, fixed_rounded.f k n rest true = fixed_rounded.j0 k n true rest := by
      intro k
      unfold fixed_rounded.f
      rw [if_pos rfl]
    refine Ev.congr e ?_
    cases rest with
    | false =>
      rw [if_neg (by simp)]
      refine Ev.step (f := fun k => fixed_signed.f k n (n != 0)) (fun k => ?_) (sgn n h0 h1)
      simp only [fixed_rounded.j0]
      rw [if_neg (by simp), if_pos trivial, pair]
    | true =>
      rw [if_pos rfl]
      by_cases hm : n = 18446744073709551615
      · rw [fit_out (by omega)]
        refine Ev.step (f := fun _ => some (0, false)) (fun k => ?_) (Ev.now _)
        simp only [fixed_rounded.j0]
        rw [if_pos trivial, if_pos hm]
      · refine Ev.step (f := fun k => fixed_signed.f k (n + 1) ((n + 1) != 0)) (fun k => ?_) (sgn (n + 1) (by omega) (by omega))
        simp only [fixed_rounded.j0]
        rw [if_pos trivial, if_neg hm, if_pos trivial, u64_in (n + 1) (by omega) (by omega), pair]
/-- Whether two signs part. -/
def parts (a b : Int) : Bool := decide (a < 0) != decide (b < 0)
/-- A quotient of amounts, with the sign, rounded down. -/
theorem signed_div {A V : Int} (hV : 0 < V) (s : Bool) : (if s = true then (if (A % V != 0) = true then -(A / V + 1) else -(A / V)) else A / V) = (if s = true then -A else A) / V := by
  cases s with
  | false => rfl
  | true =>
    simp only [if_true]
    rw [neg_div hV]
    by_cases h : A % V = 0
    · rw [if_pos h, if_neg (by simp [h])]
    · rw [if_neg h, if_pos (by simpa using h)]
      omega
theorem fixMulQ {a b : Int} (ha : I64 a) (hb : I64 b) : Ev (fun k => fixed_MulQ.f k a b) (fit (a * b / 4294967296)) := by
  have h1 := am_bd ha
  have h2 := am_bd hb
  have hp0 := Int.mul_nonneg h1.1 h2.1
  have hm := am_mul a b
  have pair : ∀ z : Option (Int × Bool), (z.bind fun b => some (b.1, b.2)) = z := fun z => Option.bind_fun_some z
  have hab : a * b = if parts a b = true then -(am a * am b) else am a * am b := by
    rw [hm]
    unfold parts
    split <;> omega
  rw [hab, ← signed_div (show (0 : Int) < 4294967296 by omega)]
  generalize hP : am a * am b = P at *
  have e : ∀ k, fixed_MulQ.f k a b = if P / 18446744073709551616 / 4294967296 = 0 then fixed_rounded.f k (P / 4294967296) (P % 4294967296 != 0) (parts a b) else some (0, false) := by
    intro k
    unfold fixed_MulQ.f
    rw [fixAmount ha, fixAmount hb, Option.bind_some, Option.bind_some, mul64 h1.1 (by omega) h2.1 (by omega), Option.bind_some, hP, pair]
    by_cases c : P / 18446744073709551616 / 4294967296 = 0
    · rw [if_pos c, if_pos c]
      have e1 : Go.bits .or .u64 (IntKind.u64.wrap (P / 18446744073709551616 * 4294967296)) (P % 18446744073709551616 / 4294967296) = P / 4294967296 := by
        rw [u64_in _ (by omega) (by omega)]
        rw [bits_join .u64 64 (by decide) (fun n h0 h1 => u64_in n h0 (by simpa using h1)) 32 _ _ (by omega) (by omega) (by simpa using (by omega : P / 18446744073709551616 * 4294967296 < 18446744073709551616)) (by omega) (by simpa using (by omega : P % 18446744073709551616 / 4294967296 < 4294967296)) (by simpa using (by omega : P % 18446744073709551616 / 4294967296 < 18446744073709551616))]
        omega
      have e2 : (IntKind.u64.wrap (P % 18446744073709551616 * 4294967296) != 0) = (P % 4294967296 != 0) := by
        rw [u64w]
        have : P % 18446744073709551616 * 4294967296 % 18446744073709551616 = P % 4294967296 * 4294967296 := by omega
        rw [this]
        by_cases z : P % 4294967296 = 0
        · rw [z]; rfl
        · rw [show (P % 4294967296 != 0) = true by simpa using z, show (P % 4294967296 * 4294967296 != 0) = true by simp; omega]
      rw [e1, e2]
      rfl
    · rw [if_neg c, if_neg c]
  refine Ev.congr e ?_
  by_cases c : P / 18446744073709551616 / 4294967296 = 0
  · refine Ev.congr (fun k => if_pos c) ?_
    exact fixRounded (by omega) (by omega) _ _
  · rw [fit_out]
    · exact Ev.congr (f := fun _ => some (0, false)) (fun k => if_neg c) (Ev.now _)
    · cases parts a b
      · simp only [Bool.false_eq_true, if_false]
        omega
      · simp only [if_true]
        split <;> omega
theorem ok_01 : ok [0, 1] := ok_two (by omega) (by omega) (by omega) (by omega)
theorem val_01 : val [0, 1] = 4294967296 := by rw [val_two]; rfl
theorem refOne : Ev (fun _ => phalanxref01_one.f) (false, [0, 1]) := Ev.congr (fun k => rfl) (Ev.now _)
theorem fl_one (x : Int) : fl x (lv false [0, 1]) = x / 4294967296 := by
  have : lv false [0, 1] = 4294967296 := val_01
  rw [this]
  unfold fl
  rw [if_pos (by omega)]
theorem refMulQ {a b : Int} (ha : I64 a) (hb : I64 b) : Ev (fun k => phalanxref01_MulQ.f k a b) (fit (a * b / 4294967296)) := by
  obtain ⟨A, ea, oa, va, la⟩ := Of_val a ha.1 ha.2
  obtain ⟨B, eb, ob, vb, lb⟩ := Of_val b hb.1 hb.2
  obtain ⟨p, ep, op, vp, lp⟩ := Product_val (decide (a < 0)) (decide (b < 0)) oa ob (by omega) (by omega)
  obtain ⟨u, x, eq, ox, vx, lx⟩ := Quotient_val (decide (a < 0) != decide (b < 0)) false op ok_01 (by omega) (by simp) (by rw [val_01]; omega)
  rw [fl_one, lv_prod vp, lv_of va, lv_of vb] at vx
  have et := To_val u ox (by omega)
  rw [vx] at et
  exact Ev.bind ea (Ev.bind eb (Ev.bind ep (Ev.bind refOne (Ev.bind eq (Ev.bind et (Ev.now _))))))
theorem refFrom {a : Int} (ha : I64 a) : Ev (fun k => phalanxref01_From.f k a) (fit (a * 4294967296)) := by
  obtain ⟨A, ea, oa, va, la⟩ := Of_val a ha.1 ha.2
  obtain ⟨p, ep, op, vp, lp⟩ := Product_val (decide (a < 0)) false oa ok_01 (by omega) (by simp)
  have e1 : lv (decide (a < 0) != false) p = a * 4294967296 := by
    rw [lv_prod vp, lv_of va]
    have : lv false [0, 1] = 4294967296 := val_01
    rw [this]
  have et := To_val (decide (a < 0) != false) op (by simp at lp; omega)
  rw [e1] at et
  exact Ev.bind ea (Ev.bind refOne (Ev.bind ep (Ev.bind et (Ev.now _))))
theorem fixFrom {a : Int} (ha : I64 a) : fixed_From.f a = some (fit (a * 4294967296)) := by
  unfold fixed_From.f
  rw [fixShl ha, Option.bind_some]
  show some (sh a 32) = _
  congr 1
  unfold sh
  rw [if_neg (by omega)]
  by_cases h : a = 0
  · rw [if_pos h, h]
    rfl
  · rw [if_neg h, if_neg (by omega)]
    rfl
theorem refFloor {a : Int} (ha : I64 a) : Ev (fun k => phalanxref01_Floor.f k a) (a / 4294967296) := by
  obtain ⟨A, ea, oa, va, la⟩ := Of_val a ha.1 ha.2
  obtain ⟨u, x, eq, ox, vx, lx⟩ := Quotient_val (decide (a < 0)) false oa ok_01 (by omega) (by simp) (by rw [val_01]; omega)
  rw [fl_one, lv_of va] at vx
  have et := To_val u ox (by omega)
  unfold I64 at ha
  rw [vx, fit_in (by omega) (by omega)] at et
  exact Ev.bind ea (Ev.bind refOne (Ev.bind eq (Ev.bind et (Ev.now _))))
/-- A quotient of two of 32 and 32 bits, or none. -/
def dq (a b : Int) : Int × Bool := if b = 0 then (0, false) else fit (fl (a * 4294967296) b)
theorem refDivQ {a b : Int} (ha : I64 a) (hb : I64 b) : Ev (fun k => phalanxref01_DivQ.f k a b) (dq a b) := by
  unfold dq
  by_cases h : b = 0
  · rw [if_pos h]
    exact Ev.congr (f := fun _ => some (0, false)) (fun k => by unfold phalanxref01_DivQ.f; rw [if_pos h]) (Ev.now _)
  · rw [if_neg h]
    obtain ⟨A, ea, oa, va, la⟩ := Of_val a ha.1 ha.2
    obtain ⟨B, eb, ob, vb, lb⟩ := Of_val b hb.1 hb.2
    obtain ⟨p, ep, op, vp, lp⟩ := Product_val (decide (a < 0)) false oa ok_01 (by omega) (by simp)
    have e1 : lv (decide (a < 0) != false) p = a * 4294967296 := by
      rw [lv_prod vp, lv_of va]
      have : lv false [0, 1] = 4294967296 := val_01
      rw [this]
    obtain ⟨u, x, eq, ox, vx, lx⟩ := Quotient_val (decide (a < 0) != false) (decide (b < 0)) op ob (by simp at lp; omega) (by omega) (val_pos h vb)
    rw [e1, lv_of vb] at vx
    have et := To_val u ox (by omega)
    rw [vx] at et
    have e : ∀ k, phalanxref01_DivQ.f k a b = ((phalanxref01_Of.f k a).bind fun bt566 => ((phalanxref01_one.f).bind fun bt570 => ((phalanxref01_Product.f k bt566.1 bt566.2 bt570.1 bt570.2).bind fun bt574 => ((phalanxref01_Of.f k b).bind fun bt578 => ((phalanxref01_Quotient.f k bt574.1 bt574.2 bt578.1 bt578.2).bind fun bt582 => ((phalanxref01_To.f k bt582.1 bt582.2).bind fun bt586 => (some (bt586.1, bt586.2)))))))) := by
      intro k
      unfold phalanxref01_DivQ.f
      rw [if_neg h]
    exact Ev.congr e (Ev.bind ea (Ev.bind refOne (Ev.bind ep (Ev.bind eb (Ev.bind eq (Ev.bind et (Ev.now _)))))))
theorem fixDivQ {a b : Int} (ha : I64 a) (hb : I64 b) : Ev (fun k => fixed_DivQ.f k a b) (dq a b) := by
  have h1 := am_bd ha
  have h2 := am_bd hb
  have pair : ∀ z : Option (Int × Bool), (z.bind fun b => some (b.1, b.2)) = z := fun z => Option.bind_fun_some z
  have hlo : IntKind.u64.wrap (am a * 4294967296) = am a * 4294967296 % 18446744073709551616 := u64w _
  have no : ∀ d hi lo, Ev (fun k => fixed_DivQ.j0 k a b d hi lo true) (0, false) := fun d hi lo => Ev.step (f := fun _ => some (0, false)) (fun k => by simp [fixed_DivQ.j0]) (Ev.now _)
  unfold dq
  by_cases h : b = 0
  · rw [if_pos h]
    refine Ev.congr (fun k => ?_) (no (am b) (am a / 4294967296) (IntKind.u64.wrap (am a * 4294967296)))
    unfold fixed_DivQ.f
    rw [fixAmount ha, fixAmount hb, Option.bind_some, Option.bind_some, if_pos (by unfold am; simp [h])]
  · rw [if_neg h]
    have hd0 : am b ≠ 0 := by unfold am; split <;> omega
    have e : ∀ k, fixed_DivQ.f k a b = fixed_DivQ.j0 k a b (am b) (am a / 4294967296) (IntKind.u64.wrap (am a * 4294967296)) (decide ((am a / 4294967296) ≥ am b)) := by
      intro k
      unfold fixed_DivQ.f
      rw [fixAmount ha, fixAmount hb, Option.bind_some, Option.bind_some, if_neg hd0]
    refine Ev.congr e ?_
    -- the true quotient, by amounts
    have hfl : fl (a * 4294967296) b = (if parts a b = true then -(am a * 4294967296) else am a * 4294967296) / am b := by
      unfold fl parts am
      by_cases ca : a < 0 <;> by_cases cb : b < 0
      · rw [if_neg (by omega), if_pos ca, if_pos cb, decide_eq_true ca, decide_eq_true cb, if_neg (by simp), Int.neg_mul]
      · rw [if_pos (by omega), if_pos ca, if_neg cb, decide_eq_true ca, decide_eq_false cb, if_pos (by rfl), Int.neg_mul, Int.neg_neg]
      · rw [if_neg (by omega), if_neg ca, if_pos cb, decide_eq_false ca, decide_eq_true cb, if_pos (by rfl)]
      · rw [if_pos (by omega), if_neg ca, if_neg cb, decide_eq_false ca, decide_eq_false cb, if_neg (by simp)]
    rw [hfl, ← signed_div (show 0 < am b by omega)]
    by_cases c : (am a / 4294967296) ≥ am b
    · rw [decide_eq_true c]
      have hq : 18446744073709551616 ≤ am a * 4294967296 / am b := by
        rw [Int.le_ediv_iff_mul_le (show 0 < am b by omega)]
        omega
      rw [fit_out]
      · exact no _ _ _
      · cases parts a b
        · simp only [Bool.false_eq_true, if_false]
          omega
        · simp only [if_true]
          split <;> omega
    · rw [decide_eq_false c]
      have hd := div64 (hi := am a / 4294967296) (lo := am a * 4294967296 % 18446744073709551616) (y := am b) (by omega) (by omega) (by omega) (by omega) (by omega)
      rw [show am a / 4294967296 * 18446744073709551616 + am a * 4294967296 % 18446744073709551616 = am a * 4294967296 by omega] at hd
      have hq0 : 0 ≤ am a * 4294967296 / am b := Int.ediv_nonneg (by omega) (by omega)
      have hq1 : am a * 4294967296 / am b < 18446744073709551616 := by
        rw [Int.ediv_lt_iff_lt_mul (show 0 < am b by omega)]
        omega
      have hr := fixRounded hq0 hq1 (am a * 4294967296 % am b != 0) (parts a b)
      have e2 : ∀ k, fixed_DivQ.j0 (k + 1) a b (am b) (am a / 4294967296) (IntKind.u64.wrap (am a * 4294967296)) false = (bits_Div64.f k (am a / 4294967296) (am a * 4294967296 % 18446744073709551616) (am b)).bind fun x => fixed_rounded.f k x.1 (x.2 != 0) (parts a b) := by
        intro k
        simp only [fixed_DivQ.j0]
        rw [if_neg (by simp), hlo]
        refine congrArg _ (funext fun x => ?_)
        exact pair _
      exact Ev.step e2 (Ev.bind hd hr)
theorem parts_pure : phalanxlaw01_FixedParts.Pure := by
  intro a b ha hb
  have A := wf_i64 ha
  have B := wf_i64 hb
  refine Ev.rounds (g := fun k => phalanxlaw01_FixedParts.f k a b) ?_
  unfold phalanxlaw01_FixedParts.f
  refine Ev.bind (fixMulQ A B) (Ev.bind (refMulQ A B) (then_ _ ?_))
  refine Ev.bind (fixDivQ A B) (Ev.bind (refDivQ A B) (then_ _ ?_))
  refine Ev.bind (at_ (fixFrom A)) (Ev.bind (refFrom A) (then_ _ ?_))
  refine Ev.bind (at_ (r := b / 4294967296) rfl) (Ev.bind (refFloor B) ?_)
  exact Ev.congr (fun k => if_pos rfl) awake_

end Go.Proofs.Ytjhiccoooaleoaa.M01
