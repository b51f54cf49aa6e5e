/- What a way costs, by fixed and by phalanxref01. -/
import Derived.Test.YtjhiccoooaleoaaP01x0
import Derived.Test.YtjhiccoooaleoaaP01x1
import Derived.Test.YtjhiccoooaleoaaP01x2
import Derived.Test.YtjhiccoooaleoaaP01x3
import Derived.Test.YtjhiccoooaleoaaP01x5
import Derived.Test.YtjhiccoooaleoaaP01x6
import Derived.Test.YtjhiccoooaleoaaP01x7
import Derived.Test.YtjhiccoooaleoaaP01x8
import Derived.Test.YtjhiccoooaleoaaP01x9
import Derived.Test.YtjhiccoooaleoaaP01x10
import Derived.Test.YtjhiccoooaleoaaM01d
set_option linter.unusedVariables false
set_option linter.unusedSimpArgs false
namespace Go.Proofs.Ytjhiccoooaleoaa.M01
open Go.RowKit Go.Proofs.YtjhiccoooaleoaaW.PrintWords Go.Proofs.Ytjhiccoooaleoaa.P01

theorem wf_i64 {a : Int} (h : (Lit.int .i64 a).wf = true) : I64 a := by
  simp only [Lit.wf, IntKind.min, IntKind.max, IntKind.signed, IntKind.bits, Bool.and_eq_true, decide_eq_true_eq, if_true] at h
  unfold I64
  omega

/-- What a way costs, by amounts, the greater first. -/
def oc (x y : Int) : Int × Bool := fit (14 * y + 10 * (x - y))
/-- What a way costs. -/
def oct (dx dy : Int) : Int × Bool := if am dx < am dy then oc (am dy) (am dx) else oc (am dx) (am dy)
theorem oct_comm (dx dy : Int) : oct dx dy = oct dy dx := by
  unfold oct
  rcases (by omega : am dx < am dy ∨ am dy < am dx ∨ am dx = am dy) with h | h | h
  · rw [if_pos h, if_neg (by omega)]
  · rw [if_neg (by omega), if_pos h]
  · rw [if_neg (by omega), if_neg (by omega), h]
theorem add64_at (p q : Int) (hp : 0 ≤ p) (hq : 0 ≤ q) : bits_Add64.f p q 0 = some ((p + q) % 18446744073709551616, (p + q) / 18446744073709551616) := by
  obtain ⟨p, rfl⟩ := Int.eq_ofNat_of_zero_le hp
  obtain ⟨q, rfl⟩ := Int.eq_ofNat_of_zero_le hq
  unfold bits_Add64.f
  simp only [Option.some.injEq, Prod.mk.injEq, Int.toNat_natCast]
  constructor
  · rw [Int.natCast_emod]
    simp
  · rw [Int.natCast_ediv]
    simp
theorem sum_at {p q : Int} (h0 : 0 ≤ p) (h1 : 0 ≤ q) {X : Type} (f : Int → X) (no : X) :
    (if p / 18446744073709551616 = 0 then (if q / 18446744073709551616 = 0 then (if (p % 18446744073709551616 + q % 18446744073709551616) / 18446744073709551616 = 0 then f ((p % 18446744073709551616 + q % 18446744073709551616) % 18446744073709551616) else no) else no) else no) = if p + q < 18446744073709551616 then f (p + q) else no := by
  by_cases a : p < 18446744073709551616
  · rw [Int.ediv_eq_zero_of_lt h0 a, if_pos rfl, Int.emod_eq_of_lt h0 a]
    by_cases b : q < 18446744073709551616
    · rw [Int.ediv_eq_zero_of_lt h1 b, if_pos rfl, Int.emod_eq_of_lt h1 b]
      by_cases c : p + q < 18446744073709551616
      · rw [Int.ediv_eq_zero_of_lt (by omega) c, if_pos rfl, Int.emod_eq_of_lt (by omega) c, if_pos c]
      · rw [if_neg c, if_neg]
        intro e
        have := Int.mul_ediv_add_emod (p + q) 18446744073709551616
        have := Int.emod_lt_of_pos (p + q) (show (0 : Int) < 18446744073709551616 by omega)
        omega
    · rw [if_neg (show ¬ p + q < 18446744073709551616 by omega), if_neg]
      intro e
      have := Int.mul_ediv_add_emod q 18446744073709551616
      have := Int.emod_lt_of_pos q (show (0 : Int) < 18446744073709551616 by omega)
      omega
  · rw [if_neg (show ¬ p + q < 18446744073709551616 by omega), if_neg]
    intro e
    have := Int.mul_ediv_add_emod p 18446744073709551616
    have := Int.emod_lt_of_pos p (show (0 : Int) < 18446744073709551616 by omega)
    omega
theorem fixOct_j {x y : Int} (h0 : 0 ≤ y) (h1 : y ≤ x) (h2 : x ≤ 9223372036854775808) : Ev (fun k => fixed_Octile.j0 k x y) (oc x y) := by
  have hy : 0 ≤ y * 14 := by omega
  have hx : 0 ≤ (x - y) * 10 := by omega
  have e : ∀ k, fixed_Octile.j0 (k + 1) x y = if y * 14 + (x - y) * 10 < 18446744073709551616 then fixed_signed.f k (y * 14 + (x - y) * 10) false else some (0, false) := by
    intro k
    rw [← sum_at hy hx (fun n => fixed_signed.f k n false)]
    simp only [fixed_Octile.j0]
    rw [mul64 h0 (by omega) (by omega) (by omega), u64_in (x - y) (by omega) (by omega), mul64 (by omega) (by omega) (by omega) (by omega), Option.bind_some, Option.bind_some, add64_at _ _ (Int.emod_nonneg _ (by omega)) (Int.emod_nonneg _ (by omega)), Option.bind_some]
    have : ∀ z : Option (Int × Bool), (z.bind fun b => some (b.1, b.2)) = z := fun z => Option.bind_fun_some z
    rw [this]
  unfold oc
  rw [show 14 * y + 10 * (x - y) = y * 14 + (x - y) * 10 by omega]
  have hd : 0 ≤ y * 14 + (x - y) * 10 := by omega
  clear hx hy
  generalize y * 14 + (x - y) * 10 = t at *
  by_cases c : t < 18446744073709551616
  · by_cases d : 0 ≤ t
    · have := fixSigned (n := t) d c false
      rw [if_neg (by simp)] at this
      exact Ev.step e (Ev.congr (fun k => if_pos c) this)
    · exact absurd hd d
  · rw [fit_out (by omega)]
    exact Ev.step e (Ev.congr (f := fun _ => some (0, false)) (fun k => if_neg c) (Ev.now _))
theorem fixOct {dx dy : Int} (hx : I64 dx) (hy : I64 dy) : Ev (fun k => fixed_Octile.f k dx dy) (oct dx dy) := by
  have h1 := am_bd hx
  have h2 := am_bd hy
  unfold oct
  by_cases h : am dx < am dy
  · rw [if_pos h]
    refine Ev.congr (fun k => ?_) (fixOct_j h1.1 (by omega) h2.2)
    unfold fixed_Octile.f
    rw [fixAmount hx, fixAmount hy]
    simp only [Option.bind_some]
    rw [if_pos h]
  · rw [if_neg h]
    refine Ev.congr (fun k => ?_) (fixOct_j h2.1 (by omega) h1.2)
    unfold fixed_Octile.f
    rw [fixAmount hx, fixAmount hy]
    simp only [Option.bind_some]
    rw [if_neg h]
/-- What the reference does behind its order of the two. -/
def octJ (k : Nat) (X Y : List Int) : Option (Int × Bool) := (phalanxref01_Of.f k 14).bind fun bt206 => ((phalanxref01_Product.f k false Y bt206.1 bt206.2).bind fun bt210 => ((phalanxref01_minus.f k X Y).bind fun t214 => ((phalanxref01_Of.f k 10).bind fun bt217 => ((phalanxref01_Product.f k false t214 bt217.1 bt217.2).bind fun bt221 => ((phalanxref01_Sum.f k bt210.1 bt210.2 bt221.1 bt221.2).bind fun bt225 => ((phalanxref01_To.f k bt225.1 bt225.2).bind fun bt229 => (some (bt229.1, bt229.2))))))))
theorem refOct_j {X Y : List Int} (oX : ok X) (oY : ok Y) (lX : X.length ≤ 3) (lY : Y.length ≤ 3) (h : val Y ≤ val X) : Ev (fun k => octJ k X Y) (oc (val X) (val Y)) := by
  obtain ⟨A, ea, oa, va, la⟩ := Of_val 14 (by omega) (by omega)
  obtain ⟨B, eb, ob, vb, lb⟩ := Of_val 10 (by omega) (by omega)
  rw [if_neg (by omega)] at va vb
  obtain ⟨p, ep, op, vp, lp⟩ := Product_val false (decide ((14 : Int) < 0)) oY oa (by omega) (by omega)
  obtain ⟨m, em, om, vm, lm⟩ := minus_val oX oY (by omega) h
  obtain ⟨q, eq, oq, vq, lq⟩ := Product_val false (decide ((10 : Int) < 0)) om ob (by omega) (by omega)
  obtain ⟨u, r, es, or_, vs, ls⟩ := Sum_val (s := (false != decide ((14 : Int) < 0))) (t := (false != decide ((10 : Int) < 0))) op oq (by omega) (by omega)
  have et := To_val u or_ (by omega)
  have e : lv u r = 14 * val Y + 10 * (val X - val Y) := by
    rw [vs, lv_prod vp, lv_prod vq]
    unfold lv
    simp [va, vb, vm]
    omega
  rw [e] at et
  exact Ev.bind ea (Ev.bind ep (Ev.bind em (Ev.bind eb (Ev.bind eq (Ev.bind es (Ev.bind et (Ev.now _)))))))
theorem refOct {dx dy : Int} (hx : I64 dx) (hy : I64 dy) : Ev (fun k => phalanxref01_Octile.f k dx dy) (oct dx dy) := by
  obtain ⟨A, ea, oa, va, la⟩ := Of_val dx hx.1 hx.2
  obtain ⟨B, eb, ob, vb, lb⟩ := Of_val dy hy.1 hy.2
  have hl := less_val oa ob (by omega) (by omega)
  have va' : val A = am dx := va
  have vb' : val B = am dy := vb
  unfold oct
  rw [← va', ← vb']
  by_cases h : val A < val B
  · rw [if_pos h]
    rw [decide_eq_true h] at hl
    exact Ev.bind ea (Ev.bind eb (Ev.bind hl (Ev.congr (fun k => if_pos rfl) (refOct_j ob oa lb la (Int.le_of_lt h)))))
  · rw [if_neg h]
    rw [decide_eq_false h] at hl
    exact Ev.bind ea (Ev.bind eb (Ev.bind hl (Ev.congr (fun k => if_neg (by simp)) (refOct_j oa ob la lb (Int.not_lt.1 h)))))
theorem awakes : Ev (fun k => phalanxlaw01_awake.f k) true := by
  have h1 := fixDiv (a := -7) (b := 2) ⟨by omega, by omega⟩ ⟨by omega, by omega⟩
  have h2 := fixOct (dx := 3) (dy := -5) ⟨by omega, by omega⟩ ⟨by omega, by omega⟩
  exact Ev.bind h1 (Ev.bind h2 (Ev.now true))


theorem then_ (x : Int × Bool) {g : Nat → Option Bool} (h : Ev g true) : Ev (fun k => (phalanxlaw01_same.f x.1 x.2 x.1 x.2).bind fun t => if t = true then g k else some false) true :=
  Ev.congr (fun k => by rw [same_self]; rfl) h
theorem at_ {α : Type} {g : Option α} {r : α} (h : g = some r) : Ev (fun _ => g) r := Ev.congr (fun _ => h) (Ev.now _)
theorem awake_ : Ev (fun k => (phalanxlaw01_awake.f k).bind fun t => some t) true := Ev.bind awakes (Ev.now _)

end Go.Proofs.Ytjhiccoooaleoaa.M01
