/- What is added and multiplied is undone. -/
import Derived.Test.YtjhiccoooaleoaaP01x0
import Derived.Test.YtjhiccoooaleoaaP01x10
import Derived.Test.YtjhiccoooaleoaaP01x12
import Derived.Test.YtjhiccoooaleoaaP01x14
import Derived.Test.YtjhiccoooaleoaaP01x18
import Derived.Test.YtjhiccoooaleoaaP01x21
import Derived.Test.YtjhiccoooaleoaaP01x22
import Derived.Test.YtjhiccoooaleoaaM01h
set_option linter.unusedVariables false
set_option linter.unusedSimpArgs false
namespace Go.Proofs.Ytjhiccoooaleoaa.M01
open Go.RowKit Go.Proofs.YtjhiccoooaleoaaW.PrintWords Go.Proofs.Ytjhiccoooaleoaa.P01
/-! ### What is added and multiplied is undone -/
theorem fit_true {x : Int} (h : (fit x).2 = true) : (fit x).1 = x ∧ I64 x := by
  unfold fit at *
  split
  · rename_i h1
    exact ⟨rfl, h1⟩
  · rename_i h1
    rw [if_neg h1] at h
    simp at h
theorem dv_true {a b : Int} (h : (dv a b).2 = true) : b ≠ 0 ∧ (dv a b).1 = fl a b ∧ I64 (fl a b) := by
  have hb : b ≠ 0 := by intro e; rw [dv, if_pos e] at h; simp at h
  rw [dv, if_neg hb] at h ⊢
  exact ⟨hb, fit_true h⟩
theorem fl_mul {a b : Int} (hb : b ≠ 0) : fl (a * b) b = a := by
  unfold fl
  split
  · exact Int.mul_ediv_cancel _ hb
  · rw [← Int.mul_neg]
    exact Int.mul_ediv_cancel _ (by omega)
/-- The rest lies between nought and the divisor. -/
theorem fl_rest {a b : Int} (hb : b ≠ 0) : (0 < b → 0 ≤ a - b * fl a b ∧ a - b * fl a b < b) ∧ (b < 0 → b < a - b * fl a b ∧ a - b * fl a b ≤ 0) := by
  unfold fl
  constructor
  · intro h
    rw [if_pos h]
    have h1 := Int.mul_ediv_add_emod a b
    have h2 := Int.emod_nonneg a hb
    have h3 := Int.emod_lt_of_pos a h
    omega
  · intro h
    rw [if_neg (by omega)]
    have h1 := Int.mul_ediv_add_emod (-a) (-b)
    have h2 := Int.emod_nonneg (-a) (show -b ≠ 0 by omega)
    have h3 := Int.emod_lt_of_pos (-a) (show 0 < -b by omega)
    rw [Int.neg_mul] at h1
    omega
theorem md_of {a b : Int} (ha : I64 a) (hb : I64 b) (h : (dv a b).2 = true) : (md a b).2 = true ∧ (md a b).1 = a - b * (dv a b).1 := by
  obtain ⟨h0, h1, h2⟩ := dv_true h
  have hr := fl_rest (a := a) h0
  unfold md
  rw [if_pos h, h1]
  unfold I64 at hb
  rw [fit_in (by omega) (by omega)]
  exact ⟨rfl, rfl⟩

theorem undo4 {a : Int} (A : I64 a) : Ev (fun k => phalanxlaw01_FixedUndoes.j4 k a) true := by
  have hs : fixed_From.f a = some (sh a 32) := by
    unfold fixed_From.f
    rw [fixShl A]
    rfl
  have step : ∀ k, phalanxlaw01_FixedUndoes.j4 (k + 1) a = if (sh a 32).2 = true then ((fixed_Floor.f (sh a 32).1).bind fun t490 => (if t490 = a then ((phalanxlaw01_awake.f k).bind fun t491 => (some t491)) else (some false))) else ((phalanxlaw01_awake.f k).bind fun t492 => (some t492)) := by
    intro k
    simp only [phalanxlaw01_FixedUndoes.j4]
    rw [hs]
    rfl
  refine Ev.step step ?_
  by_cases h : (sh a 32).2 = true
  · refine Ev.congr (fun k => if_pos h) ?_
    have hv : (sh a 32).1 / 4294967296 = a := by
      unfold sh at h ⊢
      rw [if_neg (by omega)] at h ⊢
      by_cases h0 : a = 0
      · rw [if_pos h0, h0]
        rfl
      · rw [if_neg h0, if_neg (by omega)] at h ⊢
        have := fit_true h
        rw [this.1]
        have e : ((2 : Int) ^ (32 : Int).toNat) = 4294967296 := rfl
        rw [e]
        exact Int.mul_ediv_cancel _ (by omega)
    refine Ev.congr (f := fun k => (phalanxlaw01_awake.f k).bind fun t491 => (some t491)) (fun k => ?_) awake_
    unfold fixed_Floor.f
    rw [Option.bind_some, if_pos hv]
  · exact Ev.congr (fun k => if_neg h) awake_
theorem undo3 {a : Int} (A : I64 a) : Ev (fun k => phalanxlaw01_FixedUndoes.j3 k a) true := by
  have step : ∀ k, phalanxlaw01_FixedUndoes.j3 (k + 1) a = (fixed_Sqrt.f k a).bind fun bt482 => (if bt482.2 = true then ((fixed_Mul.f k bt482.1 bt482.1).bind fun bt484 => ((fixed_Mul.f k (wrap64 (bt482.1 + 1)) (wrap64 (bt482.1 + 1))).bind fun bt486 => (if bt484.2 = true then (if bt484.1 > a then (some false) else (if bt486.2 = true then (if bt486.1 ≤ a then (some false) else (phalanxlaw01_FixedUndoes.j4 k a)) else (phalanxlaw01_FixedUndoes.j4 k a))) else (some false)))) else (phalanxlaw01_FixedUndoes.j4 k a)) := by
    intro k
    simp only [phalanxlaw01_FixedUndoes.j3]
  refine Ev.step step (Ev.bind (fixSqrt A) ?_)
  by_cases h : a < 0
  · have e : (sq a).2 = false := by unfold sq; rw [if_pos h]
    exact Ev.congr (fun k => by rw [e]; exact if_neg (by simp)) (undo4 A)
  · have e : sq a = (rt a 32 0, true) := by unfold sq; rw [if_neg h]
    rw [e]
    unfold I64 at A
    have hr := rt_spec a 32 0 (by omega) (by omega) (by simp; omega)
    have hr4 : rt a 32 0 < 4294967296 := by have := hr.2.2.2; simpa using this
    generalize rt a 32 0 = r at *
    have hr2 : I64 r := ⟨by omega, by omega⟩
    have hr3 : I64 (r + 1) := ⟨by omega, by omega⟩
    refine Ev.congr (fun k => if_pos rfl) (Ev.bind (fixMul hr2 hr2) ?_)
    rw [w64_in _ (by omega) (by omega)]
    refine Ev.bind (fixMul hr3 hr3) ?_
    have h0 : 0 ≤ r * r := Int.mul_nonneg hr.2.2.1 hr.2.2.1
    rw [show fit (((r, true) : Int × Bool).1 * ((r, true) : Int × Bool).1) = (r * r, true) from fit_in (by show _ ≤ r * r; omega) (by show r * r ≤ _; omega)]
    refine Ev.congr (fun k => if_pos rfl) ?_
    refine Ev.congr (fun k => if_neg (show ¬ r * r > a by omega)) ?_
    by_cases c : (fit ((r + 1) * (r + 1))).2 = true
    · refine Ev.congr (fun k => if_pos c) ?_
      have := (fit_true c).1
      exact Ev.congr (fun k => if_neg (by rw [this]; omega)) (undo4 A)
    · exact Ev.congr (fun k => if_neg c) (undo4 A)
theorem undo2 {a b : Int} (A : I64 a) (B : I64 b) : Ev (fun k => phalanxlaw01_FixedUndoes.j2 k a b) true := by
  have step : ∀ k, phalanxlaw01_FixedUndoes.j2 (k + 1) a b = (fixed_Div.f k a b).bind fun bt478 => (if bt478.2 = true then ((fixed_Mod.f k a b).bind fun bt480 => (if bt480.2 = true then (if (wrap64 ((wrap64 (b * bt478.1)) + bt480.1)) = a then (if bt480.1 = 0 then (phalanxlaw01_FixedUndoes.j3 k a) else (if ((decide (bt480.1 < 0)) != (decide (b < 0))) = true then (some false) else (phalanxlaw01_FixedUndoes.j3 k a))) else (some false)) else (some false))) else (phalanxlaw01_FixedUndoes.j3 k a)) := by
    intro k
    simp only [phalanxlaw01_FixedUndoes.j2]
  refine Ev.step step (Ev.bind (fixDiv A B) ?_)
  by_cases h : (dv a b).2 = true
  · refine Ev.congr (fun k => if_pos h) (Ev.bind (fixMod A B) ?_)
    obtain ⟨m1, m2⟩ := md_of A B h
    obtain ⟨h0, h1, h2⟩ := dv_true h
    have hr := fl_rest (a := a) h0
    refine Ev.congr (fun k => if_pos m1) ?_
    refine Ev.congr (fun k => if_pos (by rw [m2]; unfold wrap64; unfold I64 at A; omega)) ?_
    by_cases c : (md a b).1 = 0
    · exact Ev.congr (fun k => if_pos c) (undo3 A)
    · refine Ev.congr (fun k => if_neg c) (Ev.congr (fun k => if_neg ?_) (undo3 A))
      rw [m2, h1] at *
      rcases (by omega : 0 < b ∨ b < 0) with hb | hb
      · have := hr.1 hb
        rw [decide_eq_false (show ¬ b < 0 by omega), decide_eq_false (by omega)]
        simp
      · have := hr.2 hb
        rw [decide_eq_true hb, decide_eq_true (by omega)]
        simp
  · exact Ev.congr (fun k => if_neg h) (undo3 A)
theorem undo0 {a b : Int} (A : I64 a) (B : I64 b) : Ev (fun k => phalanxlaw01_FixedUndoes.j0 k a b) true := by
  have j1f : ∀ x, Ev (fun k => phalanxlaw01_FixedUndoes.j1 k a b x false) true := by
    intro x
    refine Ev.step (f := fun k => phalanxlaw01_FixedUndoes.j2 k a b) (fun k => ?_) (undo2 A B)
    simp only [phalanxlaw01_FixedUndoes.j1]
    exact if_neg (by simp)
  have step : ∀ k, phalanxlaw01_FixedUndoes.j0 (k + 1) a b = (fixed_Mul.f k a b).bind fun bt474 => (if bt474.2 = true then (phalanxlaw01_FixedUndoes.j1 k a b bt474.1 (b != 0)) else (phalanxlaw01_FixedUndoes.j1 k a b bt474.1 false)) := by
    intro k
    simp only [phalanxlaw01_FixedUndoes.j0]
  refine Ev.step step (Ev.bind (fixMul A B) ?_)
  by_cases h : (fit (a * b)).2 = true
  · refine Ev.congr (fun k => if_pos h) ?_
    by_cases hb : b = 0
    · rw [show (b != 0) = false by simp [hb]]
      exact j1f _
    · rw [show (b != 0) = true by simp [hb]]
      have e := (fit_true h)
      have step1 : ∀ k, phalanxlaw01_FixedUndoes.j1 (k + 1) a b (fit (a * b)).1 true = (fixed_Div.f k (fit (a * b)).1 b).bind fun bt476 => (if bt476.2 = true then (if bt476.1 = a then (phalanxlaw01_FixedUndoes.j2 k a b) else (some false)) else (phalanxlaw01_FixedUndoes.j2 k a b)) := by
        intro k
        simp only [phalanxlaw01_FixedUndoes.j1]
        exact if_pos trivial
      refine Ev.step step1 ?_
      rw [e.1]
      refine Ev.bind (fixDiv e.2 B) ?_
      by_cases c : (dv (a * b) b).2 = true
      · obtain ⟨_, h1, _⟩ := dv_true c
        refine Ev.congr (fun k => if_pos c) ?_
        exact Ev.congr (fun k => if_pos (by rw [h1]; exact fl_mul hb)) (undo2 A B)
      · exact Ev.congr (fun k => if_neg c) (undo2 A B)
  · exact Ev.congr (fun k => if_neg h) (j1f _)
theorem undoes_pure : phalanxlaw01_FixedUndoes.Pure := by
  intro a b ha hb
  have A := wf_i64 ha
  have B := wf_i64 hb
  refine Ev.rounds (g := fun k => phalanxlaw01_FixedUndoes.f k a b) ?_
  unfold phalanxlaw01_FixedUndoes.f
  refine Ev.bind (at_ (fixAdd A B)) ?_
  by_cases h : (fit (a + b)).2 = true
  · obtain ⟨h1, h2⟩ := fit_true h
    refine Ev.congr (fun k => if_pos h) ?_
    rw [h1]
    refine Ev.bind (at_ (fixSub h2 B)) ?_
    rw [show a + b - b = a by omega, fit_in A.1 A.2]
    exact Ev.congr (fun k => if_pos rfl) (Ev.congr (fun k => if_pos rfl) (undo0 A B))
  · exact Ev.congr (fun k => if_neg h) (undo0 A B)

end Go.Proofs.Ytjhiccoooaleoaa.M01
