-- Written by a program of this session (wip/tools/myprint.py) for this claim: each Go function as a Lean function, and what its call does. Lean checks it.
import Derived.Test.YtjhiccoooaleoaaP01x0
import Derived.Test.YtjhiccoooaleoaaP01x10
import Derived.Test.YtjhiccoooaleoaaP01x11
import Derived.Test.YtjhiccoooaleoaaP01x12
import Derived.Test.YtjhiccoooaleoaaP01x14
import Derived.Test.YtjhiccoooaleoaaP01x18
import Derived.Test.YtjhiccoooaleoaaP01x21
namespace Go.Proofs.Ytjhiccoooaleoaa.P01
open Go.RowKit Go.Proofs.YtjhiccoooaleoaaW.PrintWords Go.Proofs.YtjhiccoooaleoaaW.PrintLast
set_option linter.unusedVariables false
set_option linter.unusedSimpArgs false

/-! ### phalanxlaw01_FixedUndoes: function 11 -/
mutual
def phalanxlaw01_FixedUndoes.j0 : Nat → Int → Int → Option (Bool)
  | 0, _, _ => none
  | k + 1, x0, x1 => (fixed_Mul.f k x0 x1).bind fun bt499 => (if bt499.2 = true then (phalanxlaw01_FixedUndoes.j1 k x0 x1 bt499.1 (x1 != 0)) else (phalanxlaw01_FixedUndoes.j1 k x0 x1 bt499.1 false))
def phalanxlaw01_FixedUndoes.j1 : Nat → Int → Int → Int → Bool → Option (Bool)
  | 0, _, _, _, _ => none
  | k + 1, x0, x1, x9, x55 => if x55 = true then ((fixed_Div.f k x9 x1).bind fun bt501 => (if bt501.2 = true then (if bt501.1 = x0 then (phalanxlaw01_FixedUndoes.j2 k x0 x1) else (some false)) else (phalanxlaw01_FixedUndoes.j2 k x0 x1))) else (phalanxlaw01_FixedUndoes.j2 k x0 x1)
def phalanxlaw01_FixedUndoes.j2 : Nat → Int → Int → Option (Bool)
  | 0, _, _ => none
  | k + 1, x0, x1 => (fixed_Div.f k x0 x1).bind fun bt503 => (if bt503.2 = true then ((fixed_Mod.f k x0 x1).bind fun bt505 => (if bt505.2 = true then (if (wrap64 ((wrap64 (x1 * bt503.1)) + bt505.1)) = x0 then (if bt505.1 = 0 then (phalanxlaw01_FixedUndoes.j3 k x0) else (if ((decide (bt505.1 < 0)) != (decide (x1 < 0))) = true then (some false) else (phalanxlaw01_FixedUndoes.j3 k x0))) else (some false)) else (some false))) else (phalanxlaw01_FixedUndoes.j3 k x0))
def phalanxlaw01_FixedUndoes.j3 : Nat → Int → Option (Bool)
  | 0, _ => none
  | k + 1, x0 => (fixed_Sqrt.f k x0).bind fun bt507 => (if bt507.2 = true then ((fixed_Mul.f k bt507.1 bt507.1).bind fun bt509 => ((fixed_Mul.f k (wrap64 (bt507.1 + 1)) (wrap64 (bt507.1 + 1))).bind fun bt511 => (if bt509.2 = true then (if bt509.1 > x0 then (some false) else (if bt511.2 = true then (if bt511.1 ≤ x0 then (some false) else (phalanxlaw01_FixedUndoes.j4 k x0)) else (phalanxlaw01_FixedUndoes.j4 k x0))) else (some false)))) else (phalanxlaw01_FixedUndoes.j4 k x0))
def phalanxlaw01_FixedUndoes.j4 : Nat → Int → Option (Bool)
  | 0, _ => none
  | k + 1, x0 => (fixed_From.f x0).bind fun bt513 => (if bt513.2 = true then ((fixed_Floor.f bt513.1).bind fun t515 => (if t515 = x0 then ((phalanxlaw01_awake.f k).bind fun t516 => (some t516)) else (some false))) else ((phalanxlaw01_awake.f k).bind fun t517 => (some t517)))
end
def phalanxlaw01_FixedUndoes.f (k : Nat) (a0 : Int) (a1 : Int) : Option (Bool) := (fixed_Add.f a0 a1).bind fun bt495 => (if bt495.2 = true then ((fixed_Sub.f bt495.1 a1).bind fun bt497 => (if bt497.2 = true then (if bt497.1 = a0 then (phalanxlaw01_FixedUndoes.j0 k a0 a1) else (some false)) else (some false))) else (phalanxlaw01_FixedUndoes.j0 k a0 a1))
theorem phalanxlaw01_FixedUndoes.mono_l : ∀ k, (∀ y0 y1, LeO (phalanxlaw01_FixedUndoes.j0 k y0 y1) (phalanxlaw01_FixedUndoes.j0 (k + 1) y0 y1)) ∧ (∀ y0 y1 y2 y3, LeO (phalanxlaw01_FixedUndoes.j1 k y0 y1 y2 y3) (phalanxlaw01_FixedUndoes.j1 (k + 1) y0 y1 y2 y3)) ∧ (∀ y0 y1, LeO (phalanxlaw01_FixedUndoes.j2 k y0 y1) (phalanxlaw01_FixedUndoes.j2 (k + 1) y0 y1)) ∧ (∀ y0, LeO (phalanxlaw01_FixedUndoes.j3 k y0) (phalanxlaw01_FixedUndoes.j3 (k + 1) y0)) ∧ (∀ y0, LeO (phalanxlaw01_FixedUndoes.j4 k y0) (phalanxlaw01_FixedUndoes.j4 (k + 1) y0))
  | 0 => ⟨fun _ _ r h => by simp [phalanxlaw01_FixedUndoes.j0] at h, fun _ _ _ _ r h => by simp [phalanxlaw01_FixedUndoes.j1] at h, fun _ _ r h => by simp [phalanxlaw01_FixedUndoes.j2] at h, fun _ r h => by simp [phalanxlaw01_FixedUndoes.j3] at h, fun _ r h => by simp [phalanxlaw01_FixedUndoes.j4] at h⟩
  | k + 1 => by
    obtain ⟨ih0, ih1, ih2, ih3, ih4⟩ := phalanxlaw01_FixedUndoes.mono_l k
    refine ⟨?_, ?_, ?_, ?_, ?_⟩
    · intro y0 y1
      unfold phalanxlaw01_FixedUndoes.j0
      repeat' first
      | (with_reducible exact ih0 _ _)
      | (with_reducible exact ih1 _ _ _ _)
      | (with_reducible exact ih2 _ _)
      | (with_reducible exact ih3 _)
      | (with_reducible exact ih4 _)
      | (with_reducible exact fixed_Div.mono _ _ _)
      | (with_reducible exact fixed_Mod.mono _ _ _)
      | (with_reducible exact fixed_Mul.mono _ _ _)
      | (with_reducible exact fixed_Sqrt.mono _ _)
      | (with_reducible exact phalanxlaw01_awake.mono _)
      | (with_reducible exact LeO.refl _)
      | (with_reducible exact LeO.none _)
      | (with_reducible refine LeO.ite ?_ ?_)
      | (with_reducible refine LeO.bind ?_ (fun _ => ?_))
      | exact ih0 _ _
      | exact ih1 _ _ _ _
      | exact ih2 _ _
      | exact ih3 _
      | exact ih4 _
      | exact fixed_Div.mono _ _ _
      | exact fixed_Mod.mono _ _ _
      | exact fixed_Mul.mono _ _ _
      | exact fixed_Sqrt.mono _ _
      | exact phalanxlaw01_awake.mono _
      | exact LeO.none _
      | refine LeO.ite ?_ ?_
      | refine LeO.bind ?_ (fun _ => ?_)
    · intro y0 y1 y2 y3
      unfold phalanxlaw01_FixedUndoes.j1
      repeat' first
      | (with_reducible exact ih0 _ _)
      | (with_reducible exact ih1 _ _ _ _)
      | (with_reducible exact ih2 _ _)
      | (with_reducible exact ih3 _)
      | (with_reducible exact ih4 _)
      | (with_reducible exact fixed_Div.mono _ _ _)
      | (with_reducible exact fixed_Mod.mono _ _ _)
      | (with_reducible exact fixed_Mul.mono _ _ _)
      | (with_reducible exact fixed_Sqrt.mono _ _)
      | (with_reducible exact phalanxlaw01_awake.mono _)
      | (with_reducible exact LeO.refl _)
      | (with_reducible exact LeO.none _)
      | (with_reducible refine LeO.ite ?_ ?_)
      | (with_reducible refine LeO.bind ?_ (fun _ => ?_))
      | exact ih0 _ _
      | exact ih1 _ _ _ _
      | exact ih2 _ _
      | exact ih3 _
      | exact ih4 _
      | exact fixed_Div.mono _ _ _
      | exact fixed_Mod.mono _ _ _
      | exact fixed_Mul.mono _ _ _
      | exact fixed_Sqrt.mono _ _
      | exact phalanxlaw01_awake.mono _
      | exact LeO.none _
      | refine LeO.ite ?_ ?_
      | refine LeO.bind ?_ (fun _ => ?_)
    · intro y0 y1
      unfold phalanxlaw01_FixedUndoes.j2
      repeat' first
      | (with_reducible exact ih0 _ _)
      | (with_reducible exact ih1 _ _ _ _)
      | (with_reducible exact ih2 _ _)
      | (with_reducible exact ih3 _)
      | (with_reducible exact ih4 _)
      | (with_reducible exact fixed_Div.mono _ _ _)
      | (with_reducible exact fixed_Mod.mono _ _ _)
      | (with_reducible exact fixed_Mul.mono _ _ _)
      | (with_reducible exact fixed_Sqrt.mono _ _)
      | (with_reducible exact phalanxlaw01_awake.mono _)
      | (with_reducible exact LeO.refl _)
      | (with_reducible exact LeO.none _)
      | (with_reducible refine LeO.ite ?_ ?_)
      | (with_reducible refine LeO.bind ?_ (fun _ => ?_))
      | exact ih0 _ _
      | exact ih1 _ _ _ _
      | exact ih2 _ _
      | exact ih3 _
      | exact ih4 _
      | exact fixed_Div.mono _ _ _
      | exact fixed_Mod.mono _ _ _
      | exact fixed_Mul.mono _ _ _
      | exact fixed_Sqrt.mono _ _
      | exact phalanxlaw01_awake.mono _
      | exact LeO.none _
      | refine LeO.ite ?_ ?_
      | refine LeO.bind ?_ (fun _ => ?_)
    · intro y0
      unfold phalanxlaw01_FixedUndoes.j3
      repeat' first
      | (with_reducible exact ih0 _ _)
      | (with_reducible exact ih1 _ _ _ _)
      | (with_reducible exact ih2 _ _)
      | (with_reducible exact ih3 _)
      | (with_reducible exact ih4 _)
      | (with_reducible exact fixed_Div.mono _ _ _)
      | (with_reducible exact fixed_Mod.mono _ _ _)
      | (with_reducible exact fixed_Mul.mono _ _ _)
      | (with_reducible exact fixed_Sqrt.mono _ _)
      | (with_reducible exact phalanxlaw01_awake.mono _)
      | (with_reducible exact LeO.refl _)
      | (with_reducible exact LeO.none _)
      | (with_reducible refine LeO.ite ?_ ?_)
      | (with_reducible refine LeO.bind ?_ (fun _ => ?_))
      | exact ih0 _ _
      | exact ih1 _ _ _ _
      | exact ih2 _ _
      | exact ih3 _
      | exact ih4 _
      | exact fixed_Div.mono _ _ _
      | exact fixed_Mod.mono _ _ _
      | exact fixed_Mul.mono _ _ _
      | exact fixed_Sqrt.mono _ _
      | exact phalanxlaw01_awake.mono _
      | exact LeO.none _
      | refine LeO.ite ?_ ?_
      | refine LeO.bind ?_ (fun _ => ?_)
    · intro y0
      unfold phalanxlaw01_FixedUndoes.j4
      repeat' first
      | (with_reducible exact ih0 _ _)
      | (with_reducible exact ih1 _ _ _ _)
      | (with_reducible exact ih2 _ _)
      | (with_reducible exact ih3 _)
      | (with_reducible exact ih4 _)
      | (with_reducible exact fixed_Div.mono _ _ _)
      | (with_reducible exact fixed_Mod.mono _ _ _)
      | (with_reducible exact fixed_Mul.mono _ _ _)
      | (with_reducible exact fixed_Sqrt.mono _ _)
      | (with_reducible exact phalanxlaw01_awake.mono _)
      | (with_reducible exact LeO.refl _)
      | (with_reducible exact LeO.none _)
      | (with_reducible refine LeO.ite ?_ ?_)
      | (with_reducible refine LeO.bind ?_ (fun _ => ?_))
      | exact ih0 _ _
      | exact ih1 _ _ _ _
      | exact ih2 _ _
      | exact ih3 _
      | exact ih4 _
      | exact fixed_Div.mono _ _ _
      | exact fixed_Mod.mono _ _ _
      | exact fixed_Mul.mono _ _ _
      | exact fixed_Sqrt.mono _ _
      | exact phalanxlaw01_awake.mono _
      | exact LeO.none _
      | refine LeO.ite ?_ ?_
      | refine LeO.bind ?_ (fun _ => ?_)
theorem phalanxlaw01_FixedUndoes.mono : ∀ a0 a1 k, LeO (phalanxlaw01_FixedUndoes.f k a0 a1) (phalanxlaw01_FixedUndoes.f (k + 1) a0 a1) := by
  intro a0 a1 k
  obtain ⟨ih0, ih1, ih2, ih3, ih4⟩ := phalanxlaw01_FixedUndoes.mono_l k
  unfold phalanxlaw01_FixedUndoes.f
  repeat' first
      | (with_reducible exact ih0 _ _)
      | (with_reducible exact ih1 _ _ _ _)
      | (with_reducible exact ih2 _ _)
      | (with_reducible exact ih3 _)
      | (with_reducible exact ih4 _)
      | (with_reducible exact fixed_Div.mono _ _ _)
      | (with_reducible exact fixed_Mod.mono _ _ _)
      | (with_reducible exact fixed_Mul.mono _ _ _)
      | (with_reducible exact fixed_Sqrt.mono _ _)
      | (with_reducible exact phalanxlaw01_awake.mono _)
      | (with_reducible exact LeO.refl _)
      | (with_reducible exact LeO.none _)
      | (with_reducible refine LeO.ite ?_ ?_)
      | (with_reducible refine LeO.bind ?_ (fun _ => ?_))
      | exact ih0 _ _
      | exact ih1 _ _ _ _
      | exact ih2 _ _
      | exact ih3 _
      | exact ih4 _
      | exact fixed_Div.mono _ _ _
      | exact fixed_Mod.mono _ _ _
      | exact fixed_Mul.mono _ _ _
      | exact fixed_Sqrt.mono _ _
      | exact phalanxlaw01_awake.mono _
      | exact LeO.none _
      | refine LeO.ite ?_ ?_
      | refine LeO.bind ?_ (fun _ => ?_)
set_option maxHeartbeats 8000000 in
set_option maxRecDepth 100000 in
theorem phalanxlaw01_FixedUndoes.calls (k : Nat) (a0 : Int) (a1 : Int) (r : Bool) (w : World) (h : phalanxlaw01_FixedUndoes.f k a0 a1 = some r) :
    Calls Try.prog 11 #[.int .i64 a0, .int .i64 a1] w fun e w' => e = .returned (.bool r) ∧ Drawn0 w w' := by
  have H : ((fixed_Add.f a0 a1).bind fun bt495 => (if bt495.2 = true then ((fixed_Sub.f bt495.1 a1).bind fun bt497 => (if bt497.2 = true then (if bt497.1 = a0 then (phalanxlaw01_FixedUndoes.j0 k a0 a1) else (some false)) else (some false))) else (phalanxlaw01_FixedUndoes.j0 k a0 a1))) = some r := h
  clear h
  replace H := Option.bind_eq_some_iff.mp H
  obtain ⟨⟨t495, t496⟩, A30, H⟩ := H
  replace H : (if t496 = true then ((fixed_Sub.f t495 a1).bind fun bt497 => (if bt497.2 = true then (if bt497.1 = a0 then (phalanxlaw01_FixedUndoes.j0 k a0 a1) else (some false)) else (some false))) else (phalanxlaw01_FixedUndoes.j0 k a0 a1)) = some r := H
  have A3 := Aside0.mk A30
  clear A30
  have HC4 := Aside0.mk H
  clear H
  go_enter Try.func11, Try.ntmps11
  go_upto_if 31 with (first | ((with_reducible refine gate_callee (f := 43) rfl ?_); refine goesL_ (some 28) rfl rfl Try.func43 (by kernel_rfl) rfl #[.int .i64 a0, .int .i64 a1] rfl (by (try simp only [List.map_toArray, List.map_cons, List.map_nil]); first | done | rfl | (simp only [List.length_drop, List.length_take]; rfl)) ?_; (with_reducible refine (fixed_Add.calls a0 a1 t495 t496 _ A3.out).mono ?_); rintro e w' ⟨rfl, ⟨nd, rfl⟩⟩; refine ⟨_, rfl, ?_⟩))
  (try simp only [Act.put, List.setIfInBounds_toArray, List.set_cons_zero, List.set_cons_succ])
  go_cut [] (fun wc => ∃ (kq : Nat), Aside0 (phalanxlaw01_FixedUndoes.j0 kq a0 a1 = some r) ∧ Aside0 (kq ≤ k) ∧ Drawn0 w wc)
  case first =>
    have H := HC4.out
    clear HC4
    by_cases c5 : t496 = true
    · subst c5
      have H1 : ((fixed_Sub.f t495 a1).bind fun bt497 => (if bt497.2 = true then (if bt497.1 = a0 then (phalanxlaw01_FixedUndoes.j0 k a0 a1) else (some false)) else (some false))) = some r := by rw [if_pos rfl] at H; exact H
      clear H
      have H := H1
      clear H1
      replace H := Option.bind_eq_some_iff.mp H
      obtain ⟨⟨t497, t498⟩, A60, H⟩ := H
      replace H : (if t498 = true then (if t497 = a0 then (phalanxlaw01_FixedUndoes.j0 k a0 a1) else (some false)) else (some false)) = some r := H
      have A6 := Aside0.mk A60
      clear A60
      by_cases c7 : t498 = true
      · subst c7
        have H1 : (if t497 = a0 then (phalanxlaw01_FixedUndoes.j0 k a0 a1) else (some false)) = some r := by rw [if_pos rfl] at H; exact H
        clear H
        have H := H1
        clear H1
        by_cases c8 : t497 = a0
        · rw [if_pos c8] at H
          have c8b0 : (t497 == a0) = true := beq_iff_eq.mpr c8
          have c8b1 : (t497 != a0) = false := bne_eq_false_iff_eq.mpr c8
          clear c8
          (first | rw [c8b0] | (simp only [i64_w, i32_w]; rw [c8b0]) | rw [c8b1] | skip)
          have H' := Aside0.mk H
          clear H
          go_wp2_with (first | ((with_reducible refine gate_callee (f := 45) rfl ?_); refine goesL_ (some 35) rfl rfl Try.func45 (by kernel_rfl) rfl #[.int .i64 t495, .int .i64 a1] rfl (by (try simp only [List.map_toArray, List.map_cons, List.map_nil]); first | done | rfl | (simp only [List.length_drop, List.length_take]; rfl)) ?_; (with_reducible refine (fixed_Sub.calls t495 a1 t497 true _ A6.out).mono ?_); rintro e w' ⟨rfl, ⟨nd, rfl⟩⟩; refine ⟨_, rfl, ?_⟩))
          go_meet
          case rel => exact ⟨_, H', ⟨by first | omega | exact Nat.le_refl _⟩, by repeat (first | exact Drawn0.refl _ | apply Drawn0.step)⟩
        · rw [if_neg c8] at H
          have c8b0 : (t497 == a0) = false := beq_eq_false_iff_ne.mpr c8
          have c8b1 : (t497 != a0) = true := bne_iff_ne.mpr c8
          (first | rw [c8b0] | (simp only [i64_w, i32_w]; rw [c8b0]) | rw [c8b1] | skip)
          obtain rfl := Option.some.inj H
          go_wp2_with (first | ((with_reducible refine gate_callee (f := 45) rfl ?_); refine goesL_ (some 35) rfl rfl Try.func45 (by kernel_rfl) rfl #[.int .i64 t495, .int .i64 a1] rfl (by (try simp only [List.map_toArray, List.map_cons, List.map_nil]); first | done | rfl | (simp only [List.length_drop, List.length_take]; rfl)) ?_; (with_reducible refine (fixed_Sub.calls t495 a1 t497 true _ A6.out).mono ?_); rintro e w' ⟨rfl, ⟨nd, rfl⟩⟩; refine ⟨_, rfl, ?_⟩))
          go_ret
          exact ⟨by first | rfl | (simp; done) | (simp [*]; done), by repeat (first | exact Drawn0.refl _ | apply Drawn0.step)⟩
      · replace c7 := Bool.eq_false_iff.mpr c7
        subst c7
        have H1 : (some false) = some r := by rw [if_neg (show ¬ (false = true) by decide)] at H; exact H
        clear H
        have H := H1
        clear H1
        obtain rfl := Option.some.inj H
        go_wp2_with (first | ((with_reducible refine gate_callee (f := 45) rfl ?_); refine goesL_ (some 35) rfl rfl Try.func45 (by kernel_rfl) rfl #[.int .i64 t495, .int .i64 a1] rfl (by (try simp only [List.map_toArray, List.map_cons, List.map_nil]); first | done | rfl | (simp only [List.length_drop, List.length_take]; rfl)) ?_; (with_reducible refine (fixed_Sub.calls t495 a1 t497 false _ A6.out).mono ?_); rintro e w' ⟨rfl, ⟨nd, rfl⟩⟩; refine ⟨_, rfl, ?_⟩))
        go_ret
        exact ⟨by first | rfl | (simp; done) | (simp [*]; done), by repeat (first | exact Drawn0.refl _ | apply Drawn0.step)⟩
    · replace c5 := Bool.eq_false_iff.mpr c5
      subst c5
      have H1 : (phalanxlaw01_FixedUndoes.j0 k a0 a1) = some r := by rw [if_neg (show ¬ (false = true) by decide)] at H; exact H
      clear H
      have H := H1
      clear H1
      have H' := Aside0.mk H
      clear H
      go_wp2
      go_meet
      case rel => exact ⟨_, H', ⟨by first | omega | exact Nat.le_refl _⟩, by repeat (first | exact Drawn0.refl _ | apply Drawn0.step)⟩
  case rest =>
    clear HC4
    try clear c1
    try clear p2
    try clear c4
    try clear c5
    try clear c7
    try clear c8
    try clear c8b0
    try clear c8b1
    obtain ⟨kq, HA, HJ3, ⟨mc3, rfl⟩⟩ := hcut
    cases kq with
    | zero => exact absurd HA.out (by simp [phalanxlaw01_FixedUndoes.j0])
    | succ kj3 =>
      have H := HA.out
      clear HA
      simp only [phalanxlaw01_FixedUndoes.j0] at H
      replace H := Option.bind_eq_some_iff.mp H
      obtain ⟨⟨t499, t500⟩, A90, H⟩ := H
      replace H : (if t500 = true then (phalanxlaw01_FixedUndoes.j1 kj3 a0 a1 t499 (a1 != 0)) else (phalanxlaw01_FixedUndoes.j1 kj3 a0 a1 t499 false)) = some r := H
      have A9 := Aside0.mk A90
      clear A90
      have HC10 := Aside0.mk H
      clear H
      go_upto_region 7 with (first | ((with_reducible refine gate_callee (f := 47) rfl ?_); refine goesL_ (some 48) rfl rfl Try.func47 (by kernel_rfl) rfl #[.int .i64 a0, .int .i64 a1] rfl (by (try simp only [List.map_toArray, List.map_cons, List.map_nil]); first | done | rfl | (simp only [List.length_drop, List.length_take]; rfl)) ?_; (with_reducible refine (fixed_Mul.calls kj3 a0 a1 t499 t500 _ A9.out).mono ?_); rintro e w' ⟨rfl, ⟨nd, rfl⟩⟩; refine ⟨_, rfl, ?_⟩))
      (try simp only [Act.put, List.setIfInBounds_toArray, List.set_cons_zero, List.set_cons_succ])
      go_cut [55] (fun v55 wc => ∃ (kq : Nat) (x55_9 : Bool), v55 = .bool x55_9 ∧ Aside0 (phalanxlaw01_FixedUndoes.j1 kq a0 a1 t499 x55_9 = some r) ∧ Aside0 (kq ≤ kj3) ∧ Drawn0 w wc)
      case first =>
        have H := HC10.out
        clear HC10
        by_cases c11 : t500 = true
        · subst c11
          have H1 : (phalanxlaw01_FixedUndoes.j1 kj3 a0 a1 t499 (a1 != 0)) = some r := by rw [if_pos rfl] at H; exact H
          clear H
          have H := H1
          clear H1
          have H' := Aside0.mk H
          clear H
          go_wp2
          go_meet
          case rel => exact ⟨_, ((a1 != 0)), (by first | rfl | (simp; done) | (simp [*]; done)), H', ⟨by have := HJ3.out; first | omega | exact Nat.le_refl _⟩, by repeat (first | exact Drawn0.refl _ | apply Drawn0.step)⟩
        · replace c11 := Bool.eq_false_iff.mpr c11
          subst c11
          have H1 : (phalanxlaw01_FixedUndoes.j1 kj3 a0 a1 t499 false) = some r := by rw [if_neg (show ¬ (false = true) by decide)] at H; exact H
          clear H
          have H := H1
          clear H1
          have H' := Aside0.mk H
          clear H
          go_wp2
          go_meet
          case rel => exact ⟨_, (false), (by first | rfl | (simp; done) | (simp [*]; done)), H', ⟨by have := HJ3.out; first | omega | exact Nat.le_refl _⟩, by repeat (first | exact Drawn0.refl _ | apply Drawn0.step)⟩
      case rest =>
        clear HC10
        try clear c1
        try clear p2
        try clear c3
        try clear c4
        try clear c5
        try clear c7
        try clear c8
        try clear c8b0
        try clear c8b1
        try clear c11
        try clear p2
        obtain ⟨kq, x55_9, rfl, HA, HJ9, ⟨mc9, rfl⟩⟩ := hcut
        cases kq with
        | zero => exact absurd HA.out (by simp [phalanxlaw01_FixedUndoes.j1])
        | succ kj9 =>
          have H := HA.out
          clear HA
          simp only [phalanxlaw01_FixedUndoes.j1] at H
          have HC12 := Aside0.mk H
          clear H
          go_upto_if 55 with (fail)
          go_cut [] (fun wc => ∃ (kq : Nat), Aside0 (phalanxlaw01_FixedUndoes.j2 kq a0 a1 = some r) ∧ Aside0 (kq ≤ kj9) ∧ Drawn0 w wc)
          case first =>
            have H := HC12.out
            clear HC12
            by_cases c13 : x55_9 = true
            · subst c13
              have H1 : ((fixed_Div.f kj9 t499 a1).bind fun bt501 => (if bt501.2 = true then (if bt501.1 = a0 then (phalanxlaw01_FixedUndoes.j2 kj9 a0 a1) else (some false)) else (phalanxlaw01_FixedUndoes.j2 kj9 a0 a1))) = some r := by rw [if_pos rfl] at H; exact H
              clear H
              have H := H1
              clear H1
              replace H := Option.bind_eq_some_iff.mp H
              obtain ⟨⟨t501, t502⟩, A140, H⟩ := H
              replace H : (if t502 = true then (if t501 = a0 then (phalanxlaw01_FixedUndoes.j2 kj9 a0 a1) else (some false)) else (phalanxlaw01_FixedUndoes.j2 kj9 a0 a1)) = some r := H
              have A14 := Aside0.mk A140
              clear A140
              by_cases c15 : t502 = true
              · subst c15
                have H1 : (if t501 = a0 then (phalanxlaw01_FixedUndoes.j2 kj9 a0 a1) else (some false)) = some r := by rw [if_pos rfl] at H; exact H
                clear H
                have H := H1
                clear H1
                by_cases c16 : t501 = a0
                · rw [if_pos c16] at H
                  have c16b0 : (t501 == a0) = true := beq_iff_eq.mpr c16
                  have c16b1 : (t501 != a0) = false := bne_eq_false_iff_eq.mpr c16
                  clear c16
                  (first | rw [c16b0] | (simp only [i64_w, i32_w]; rw [c16b0]) | rw [c16b1] | skip)
                  have H' := Aside0.mk H
                  clear H
                  go_wp2_with (first | ((with_reducible refine gate_callee (f := 49) rfl ?_); refine goesL_ (some 59) rfl rfl Try.func49 (by kernel_rfl) rfl #[.int .i64 t499, .int .i64 a1] rfl (by (try simp only [List.map_toArray, List.map_cons, List.map_nil]); first | done | rfl | (simp only [List.length_drop, List.length_take]; rfl)) ?_; (with_reducible refine (fixed_Div.calls kj9 t499 a1 t501 true _ A14.out).mono ?_); rintro e w' ⟨rfl, ⟨nd, rfl⟩⟩; refine ⟨_, rfl, ?_⟩))
                  go_meet
                  case rel => exact ⟨_, H', ⟨by have := HJ3.out; have := HJ9.out; first | omega | exact Nat.le_refl _⟩, by repeat (first | exact Drawn0.refl _ | apply Drawn0.step)⟩
                · rw [if_neg c16] at H
                  have c16b0 : (t501 == a0) = false := beq_eq_false_iff_ne.mpr c16
                  have c16b1 : (t501 != a0) = true := bne_iff_ne.mpr c16
                  (first | rw [c16b0] | (simp only [i64_w, i32_w]; rw [c16b0]) | rw [c16b1] | skip)
                  obtain rfl := Option.some.inj H
                  go_wp2_with (first | ((with_reducible refine gate_callee (f := 49) rfl ?_); refine goesL_ (some 59) rfl rfl Try.func49 (by kernel_rfl) rfl #[.int .i64 t499, .int .i64 a1] rfl (by (try simp only [List.map_toArray, List.map_cons, List.map_nil]); first | done | rfl | (simp only [List.length_drop, List.length_take]; rfl)) ?_; (with_reducible refine (fixed_Div.calls kj9 t499 a1 t501 true _ A14.out).mono ?_); rintro e w' ⟨rfl, ⟨nd, rfl⟩⟩; refine ⟨_, rfl, ?_⟩))
                  go_ret
                  exact ⟨by first | rfl | (simp; done) | (simp [*]; done), by repeat (first | exact Drawn0.refl _ | apply Drawn0.step)⟩
              · replace c15 := Bool.eq_false_iff.mpr c15
                subst c15
                have H1 : (phalanxlaw01_FixedUndoes.j2 kj9 a0 a1) = some r := by rw [if_neg (show ¬ (false = true) by decide)] at H; exact H
                clear H
                have H := H1
                clear H1
                have H' := Aside0.mk H
                clear H
                go_wp2_with (first | ((with_reducible refine gate_callee (f := 49) rfl ?_); refine goesL_ (some 59) rfl rfl Try.func49 (by kernel_rfl) rfl #[.int .i64 t499, .int .i64 a1] rfl (by (try simp only [List.map_toArray, List.map_cons, List.map_nil]); first | done | rfl | (simp only [List.length_drop, List.length_take]; rfl)) ?_; (with_reducible refine (fixed_Div.calls kj9 t499 a1 t501 false _ A14.out).mono ?_); rintro e w' ⟨rfl, ⟨nd, rfl⟩⟩; refine ⟨_, rfl, ?_⟩))
                go_meet
                case rel => exact ⟨_, H', ⟨by have := HJ3.out; have := HJ9.out; first | omega | exact Nat.le_refl _⟩, by repeat (first | exact Drawn0.refl _ | apply Drawn0.step)⟩
            · replace c13 := Bool.eq_false_iff.mpr c13
              subst c13
              have H1 : (phalanxlaw01_FixedUndoes.j2 kj9 a0 a1) = some r := by rw [if_neg (show ¬ (false = true) by decide)] at H; exact H
              clear H
              have H := H1
              clear H1
              have H' := Aside0.mk H
              clear H
              go_wp2
              go_meet
              case rel => exact ⟨_, H', ⟨by have := HJ3.out; have := HJ9.out; first | omega | exact Nat.le_refl _⟩, by repeat (first | exact Drawn0.refl _ | apply Drawn0.step)⟩
          case rest =>
            clear HC12
            try clear c1
            try clear p2
            try clear c3
            try clear c4
            try clear c5
            try clear c7
            try clear c8
            try clear c8b0
            try clear c8b1
            try clear c9
            try clear c11
            try clear c13
            try clear c15
            try clear c16
            try clear c16b0
            try clear c16b1
            try clear p2
            obtain ⟨kq, HA, HJ11, ⟨mc11, rfl⟩⟩ := hcut
            cases kq with
            | zero => exact absurd HA.out (by simp [phalanxlaw01_FixedUndoes.j2])
            | succ kj11 =>
              have H := HA.out
              clear HA
              simp only [phalanxlaw01_FixedUndoes.j2] at H
              replace H := Option.bind_eq_some_iff.mp H
              obtain ⟨⟨t503, t504⟩, A170, H⟩ := H
              replace H : (if t504 = true then ((fixed_Mod.f kj11 a0 a1).bind fun bt505 => (if bt505.2 = true then (if (wrap64 ((wrap64 (a1 * t503)) + bt505.1)) = a0 then (if bt505.1 = 0 then (phalanxlaw01_FixedUndoes.j3 kj11 a0) else (if ((decide (bt505.1 < 0)) != (decide (a1 < 0))) = true then (some false) else (phalanxlaw01_FixedUndoes.j3 kj11 a0))) else (some false)) else (some false))) else (phalanxlaw01_FixedUndoes.j3 kj11 a0)) = some r := H
              have A17 := Aside0.mk A170
              clear A170
              have HC18 := Aside0.mk H
              clear H
              go_upto_if 74 with (first | ((with_reducible refine gate_callee (f := 49) rfl ?_); refine goesL_ (some 71) rfl rfl Try.func49 (by kernel_rfl) rfl #[.int .i64 a0, .int .i64 a1] rfl (by (try simp only [List.map_toArray, List.map_cons, List.map_nil]); first | done | rfl | (simp only [List.length_drop, List.length_take]; rfl)) ?_; (with_reducible refine (fixed_Div.calls kj11 a0 a1 t503 t504 _ A17.out).mono ?_); rintro e w' ⟨rfl, ⟨nd, rfl⟩⟩; refine ⟨_, rfl, ?_⟩))
              (try simp only [Act.put, List.setIfInBounds_toArray, List.set_cons_zero, List.set_cons_succ])
              go_cut [] (fun wc => ∃ (kq : Nat), Aside0 (phalanxlaw01_FixedUndoes.j3 kq a0 = some r) ∧ Aside0 (kq ≤ kj11) ∧ Drawn0 w wc)
              case first =>
                have H := HC18.out
                clear HC18
                by_cases c19 : t504 = true
                · subst c19
                  have H1 : ((fixed_Mod.f kj11 a0 a1).bind fun bt505 => (if bt505.2 = true then (if (wrap64 ((wrap64 (a1 * t503)) + bt505.1)) = a0 then (if bt505.1 = 0 then (phalanxlaw01_FixedUndoes.j3 kj11 a0) else (if ((decide (bt505.1 < 0)) != (decide (a1 < 0))) = true then (some false) else (phalanxlaw01_FixedUndoes.j3 kj11 a0))) else (some false)) else (some false))) = some r := by rw [if_pos rfl] at H; exact H
                  clear H
                  have H := H1
                  clear H1
                  replace H := Option.bind_eq_some_iff.mp H
                  obtain ⟨⟨t505, t506⟩, A200, H⟩ := H
                  replace H : (if t506 = true then (if (wrap64 ((wrap64 (a1 * t503)) + t505)) = a0 then (if t505 = 0 then (phalanxlaw01_FixedUndoes.j3 kj11 a0) else (if ((decide (t505 < 0)) != (decide (a1 < 0))) = true then (some false) else (phalanxlaw01_FixedUndoes.j3 kj11 a0))) else (some false)) else (some false)) = some r := H
                  have A20 := Aside0.mk A200
                  clear A200
                  by_cases c21 : t506 = true
                  · subst c21
                    have H1 : (if (wrap64 ((wrap64 (a1 * t503)) + t505)) = a0 then (if t505 = 0 then (phalanxlaw01_FixedUndoes.j3 kj11 a0) else (if ((decide (t505 < 0)) != (decide (a1 < 0))) = true then (some false) else (phalanxlaw01_FixedUndoes.j3 kj11 a0))) else (some false)) = some r := by rw [if_pos rfl] at H; exact H
                    clear H
                    have H := H1
                    clear H1
                    by_cases c22 : (wrap64 ((wrap64 (a1 * t503)) + t505)) = a0
                    · rw [if_pos c22] at H
                      have c22b0 : ((wrap64 ((wrap64 (a1 * t503)) + t505)) == a0) = true := beq_iff_eq.mpr c22
                      have c22b1 : ((wrap64 ((wrap64 (a1 * t503)) + t505)) != a0) = false := bne_eq_false_iff_eq.mpr c22
                      clear c22
                      (first | rw [c22b0] | (simp only [i64_w, i32_w]; rw [c22b0]) | rw [c22b1] | skip)
                      by_cases c23 : t505 = 0
                      · rw [if_pos c23] at H
                        have c23b0 : (t505 == 0) = true := beq_iff_eq.mpr c23
                        have c23b1 : (t505 != 0) = false := bne_eq_false_iff_eq.mpr c23
                        clear c23
                        have H' := Aside0.mk H
                        clear H
                        go_wp2_with (first | ((with_reducible refine gate_callee (f := 51) rfl ?_); refine goesL_ (some 78) rfl rfl Try.func51 (by kernel_rfl) rfl #[.int .i64 a0, .int .i64 a1] rfl (by (try simp only [List.map_toArray, List.map_cons, List.map_nil]); first | done | rfl | (simp only [List.length_drop, List.length_take]; rfl)) ?_; (with_reducible refine (fixed_Mod.calls kj11 a0 a1 t505 true _ A20.out).mono ?_); rintro e w' ⟨rfl, ⟨nd, rfl⟩⟩; refine ⟨_, rfl, ?_⟩))
                        go_meet
                        case rel => exact ⟨_, H', ⟨by have := HJ3.out; have := HJ9.out; have := HJ11.out; first | omega | exact Nat.le_refl _⟩, by repeat (first | exact Drawn0.refl _ | apply Drawn0.step)⟩
                      · rw [if_neg c23] at H
                        have c23b0 : (t505 == 0) = false := beq_eq_false_iff_ne.mpr c23
                        have c23b1 : (t505 != 0) = true := bne_iff_ne.mpr c23
                        by_cases c24 : ((decide (t505 < 0)) != (decide (a1 < 0))) = true
                        · rw [if_pos c24] at H
                          have c24b0 : ((decide (t505 < 0)) != (decide (a1 < 0))) = true := c24
                          (try (have c24b1 : decide ((decide (t505 < 0)) = (decide (a1 < 0))) = false := by simpa using c24))
                          (try (have c24b2 : ((decide (t505 < 0)) == (decide (a1 < 0))) = false := by simpa using c24))
                          (try (have c24b3 : ¬ ((decide (t505 < 0)) = (decide (a1 < 0))) := by simpa using c24))
                          clear c24
                          obtain rfl := Option.some.inj H
                          go_wp2_with (first | ((with_reducible refine gate_callee (f := 51) rfl ?_); refine goesL_ (some 78) rfl rfl Try.func51 (by kernel_rfl) rfl #[.int .i64 a0, .int .i64 a1] rfl (by (try simp only [List.map_toArray, List.map_cons, List.map_nil]); first | done | rfl | (simp only [List.length_drop, List.length_take]; rfl)) ?_; (with_reducible refine (fixed_Mod.calls kj11 a0 a1 t505 true _ A20.out).mono ?_); rintro e w' ⟨rfl, ⟨nd, rfl⟩⟩; refine ⟨_, rfl, ?_⟩))
                          go_ret
                          exact ⟨by first | rfl | (simp; done) | (simp [*]; done), by repeat (first | exact Drawn0.refl _ | apply Drawn0.step)⟩
                        · rw [if_neg c24] at H
                          have c24b0 : ((decide (t505 < 0)) != (decide (a1 < 0))) = false := by simpa using c24
                          (try (have c24b1 : decide ((decide (t505 < 0)) = (decide (a1 < 0))) = true := by simpa using c24))
                          (try (have c24b2 : ((decide (t505 < 0)) == (decide (a1 < 0))) = true := by simpa using c24))
                          clear c24
                          have H' := Aside0.mk H
                          clear H
                          go_wp2_with (first | ((with_reducible refine gate_callee (f := 51) rfl ?_); refine goesL_ (some 78) rfl rfl Try.func51 (by kernel_rfl) rfl #[.int .i64 a0, .int .i64 a1] rfl (by (try simp only [List.map_toArray, List.map_cons, List.map_nil]); first | done | rfl | (simp only [List.length_drop, List.length_take]; rfl)) ?_; (with_reducible refine (fixed_Mod.calls kj11 a0 a1 t505 true _ A20.out).mono ?_); rintro e w' ⟨rfl, ⟨nd, rfl⟩⟩; refine ⟨_, rfl, ?_⟩))
                          go_meet
                          case rel => exact ⟨_, H', ⟨by have := HJ3.out; have := HJ9.out; have := HJ11.out; first | omega | exact Nat.le_refl _⟩, by repeat (first | exact Drawn0.refl _ | apply Drawn0.step)⟩
                    · rw [if_neg c22] at H
                      have c22b0 : ((wrap64 ((wrap64 (a1 * t503)) + t505)) == a0) = false := beq_eq_false_iff_ne.mpr c22
                      have c22b1 : ((wrap64 ((wrap64 (a1 * t503)) + t505)) != a0) = true := bne_iff_ne.mpr c22
                      (first | rw [c22b0] | (simp only [i64_w, i32_w]; rw [c22b0]) | rw [c22b1] | skip)
                      obtain rfl := Option.some.inj H
                      go_wp2_with (first | ((with_reducible refine gate_callee (f := 51) rfl ?_); refine goesL_ (some 78) rfl rfl Try.func51 (by kernel_rfl) rfl #[.int .i64 a0, .int .i64 a1] rfl (by (try simp only [List.map_toArray, List.map_cons, List.map_nil]); first | done | rfl | (simp only [List.length_drop, List.length_take]; rfl)) ?_; (with_reducible refine (fixed_Mod.calls kj11 a0 a1 t505 true _ A20.out).mono ?_); rintro e w' ⟨rfl, ⟨nd, rfl⟩⟩; refine ⟨_, rfl, ?_⟩))
                      go_ret
                      exact ⟨by first | rfl | (simp; done) | (simp [*]; done), by repeat (first | exact Drawn0.refl _ | apply Drawn0.step)⟩
                  · replace c21 := Bool.eq_false_iff.mpr c21
                    subst c21
                    have H1 : (some false) = some r := by rw [if_neg (show ¬ (false = true) by decide)] at H; exact H
                    clear H
                    have H := H1
                    clear H1
                    obtain rfl := Option.some.inj H
                    go_wp2_with (first | ((with_reducible refine gate_callee (f := 51) rfl ?_); refine goesL_ (some 78) rfl rfl Try.func51 (by kernel_rfl) rfl #[.int .i64 a0, .int .i64 a1] rfl (by (try simp only [List.map_toArray, List.map_cons, List.map_nil]); first | done | rfl | (simp only [List.length_drop, List.length_take]; rfl)) ?_; (with_reducible refine (fixed_Mod.calls kj11 a0 a1 t505 false _ A20.out).mono ?_); rintro e w' ⟨rfl, ⟨nd, rfl⟩⟩; refine ⟨_, rfl, ?_⟩))
                    go_ret
                    exact ⟨by first | rfl | (simp; done) | (simp [*]; done), by repeat (first | exact Drawn0.refl _ | apply Drawn0.step)⟩
                · replace c19 := Bool.eq_false_iff.mpr c19
                  subst c19
                  have H1 : (phalanxlaw01_FixedUndoes.j3 kj11 a0) = some r := by rw [if_neg (show ¬ (false = true) by decide)] at H; exact H
                  clear H
                  have H := H1
                  clear H1
                  have H' := Aside0.mk H
                  clear H
                  go_wp2
                  go_meet
                  case rel => exact ⟨_, H', ⟨by have := HJ3.out; have := HJ9.out; have := HJ11.out; first | omega | exact Nat.le_refl _⟩, by repeat (first | exact Drawn0.refl _ | apply Drawn0.step)⟩
              case rest =>
                clear HC18
                try clear c1
                try clear c2
                try clear p2
                try clear c3
                try clear c4
                try clear c5
                try clear p6
                try clear c7
                try clear c8
                try clear c8b0
                try clear c8b1
                try clear c9
                try clear c11
                try clear c13
                try clear c15
                try clear c16
                try clear c16b0
                try clear c16b1
                try clear c19
                try clear c21
                try clear c22
                try clear c22b0
                try clear c22b1
                try clear c23
                try clear c23b0
                try clear c23b1
                try clear c24
                try clear c24b0
                try clear c24b1
                try clear c24b2
                try clear p2
                obtain ⟨kq, HA, HJ17, ⟨mc17, rfl⟩⟩ := hcut
                cases kq with
                | zero => exact absurd HA.out (by simp [phalanxlaw01_FixedUndoes.j3])
                | succ kj17 =>
                  have H := HA.out
                  clear HA
                  simp only [phalanxlaw01_FixedUndoes.j3] at H
                  replace H := Option.bind_eq_some_iff.mp H
                  obtain ⟨⟨t507, t508⟩, A250, H⟩ := H
                  replace H : (if t508 = true then ((fixed_Mul.f kj17 t507 t507).bind fun bt509 => ((fixed_Mul.f kj17 (wrap64 (t507 + 1)) (wrap64 (t507 + 1))).bind fun bt511 => (if bt509.2 = true then (if bt509.1 > a0 then (some false) else (if bt511.2 = true then (if bt511.1 ≤ a0 then (some false) else (phalanxlaw01_FixedUndoes.j4 kj17 a0)) else (phalanxlaw01_FixedUndoes.j4 kj17 a0))) else (some false)))) else (phalanxlaw01_FixedUndoes.j4 kj17 a0)) = some r := H
                  have A25 := Aside0.mk A250
                  clear A250
                  have HC26 := Aside0.mk H
                  clear H
                  go_upto_if 108 with (first | ((with_reducible refine gate_callee (f := 55) rfl ?_); refine goesL_ (some 105) rfl rfl Try.func55 (by kernel_rfl) rfl #[.int .i64 a0] rfl (by (try simp only [List.map_toArray, List.map_cons, List.map_nil]); first | done | rfl | (simp only [List.length_drop, List.length_take]; rfl)) ?_; (with_reducible refine (fixed_Sqrt.calls kj17 a0 t507 t508 _ A25.out).mono ?_); rintro e w' ⟨rfl, ⟨nd, rfl⟩⟩; refine ⟨_, rfl, ?_⟩))
                  (try simp only [Act.put, List.setIfInBounds_toArray, List.set_cons_zero, List.set_cons_succ])
                  go_cut [] (fun wc => ∃ (kq : Nat), Aside0 (phalanxlaw01_FixedUndoes.j4 kq a0 = some r) ∧ Aside0 (kq ≤ kj17) ∧ Drawn0 w wc)
                  case first =>
                    have H := HC26.out
                    clear HC26
                    by_cases c27 : t508 = true
                    · subst c27
                      have H1 : ((fixed_Mul.f kj17 t507 t507).bind fun bt509 => ((fixed_Mul.f kj17 (wrap64 (t507 + 1)) (wrap64 (t507 + 1))).bind fun bt511 => (if bt509.2 = true then (if bt509.1 > a0 then (some false) else (if bt511.2 = true then (if bt511.1 ≤ a0 then (some false) else (phalanxlaw01_FixedUndoes.j4 kj17 a0)) else (phalanxlaw01_FixedUndoes.j4 kj17 a0))) else (some false)))) = some r := by rw [if_pos rfl] at H; exact H
                      clear H
                      have H := H1
                      clear H1
                      replace H := Option.bind_eq_some_iff.mp H
                      obtain ⟨⟨t509, t510⟩, A280, H⟩ := H
                      replace H : ((fixed_Mul.f kj17 (wrap64 (t507 + 1)) (wrap64 (t507 + 1))).bind fun bt511 => (if t510 = true then (if t509 > a0 then (some false) else (if bt511.2 = true then (if bt511.1 ≤ a0 then (some false) else (phalanxlaw01_FixedUndoes.j4 kj17 a0)) else (phalanxlaw01_FixedUndoes.j4 kj17 a0))) else (some false))) = some r := H
                      have A28 := Aside0.mk A280
                      clear A280
                      replace H := Option.bind_eq_some_iff.mp H
                      obtain ⟨⟨t511, t512⟩, A290, H⟩ := H
                      replace H : (if t510 = true then (if t509 > a0 then (some false) else (if t512 = true then (if t511 ≤ a0 then (some false) else (phalanxlaw01_FixedUndoes.j4 kj17 a0)) else (phalanxlaw01_FixedUndoes.j4 kj17 a0))) else (some false)) = some r := H
                      have A29 := Aside0.mk A290
                      clear A290
                      by_cases c30 : t510 = true
                      · subst c30
                        have H1 : (if t509 > a0 then (some false) else (if t512 = true then (if t511 ≤ a0 then (some false) else (phalanxlaw01_FixedUndoes.j4 kj17 a0)) else (phalanxlaw01_FixedUndoes.j4 kj17 a0))) = some r := by rw [if_pos rfl] at H; exact H
                        clear H
                        have H := H1
                        clear H1
                        by_cases c31 : t509 > a0
                        · rw [if_pos c31] at H
                          have c31b0 : decide (a0 < t509) = true := decide_eq_true c31
                          clear c31
                          (first | rw [c31b0] | (simp only [i64_w, i32_w]; rw [c31b0]) | rw [c31b1] | skip)
                          obtain rfl := Option.some.inj H
                          go_wp2_with (first | ((with_reducible refine gate_callee (f := 47) rfl ?_); refine goesL_ (some 112) rfl rfl Try.func47 (by kernel_rfl) rfl #[.int .i64 t507, .int .i64 t507] rfl (by (try simp only [List.map_toArray, List.map_cons, List.map_nil]); first | done | rfl | (simp only [List.length_drop, List.length_take]; rfl)) ?_; (with_reducible refine (fixed_Mul.calls kj17 t507 t507 t509 true _ A28.out).mono ?_); rintro e w' ⟨rfl, ⟨nd, rfl⟩⟩; refine ⟨_, rfl, ?_⟩) | ((with_reducible refine gate_callee (f := 47) rfl ?_); refine goesL_ (some 120) rfl rfl Try.func47 (by kernel_rfl) rfl #[.int .i64 (wrap64 (t507 + 1)), .int .i64 (wrap64 (t507 + 1))] rfl (by (try simp only [List.map_toArray, List.map_cons, List.map_nil]); first | done | rfl | (simp only [List.length_drop, List.length_take]; rfl)) ?_; (with_reducible refine (fixed_Mul.calls kj17 (wrap64 (t507 + 1)) (wrap64 (t507 + 1)) t511 t512 _ A29.out).mono ?_); rintro e w' ⟨rfl, ⟨nd, rfl⟩⟩; refine ⟨_, rfl, ?_⟩))
                          go_ret
                          exact ⟨by first | rfl | (simp; done) | (simp [*]; done), by repeat (first | exact Drawn0.refl _ | apply Drawn0.step)⟩
                        · rw [if_neg c31] at H
                          have c31b0 : decide (a0 < t509) = false := decide_eq_false c31
                          clear c31
                          (first | rw [c31b0] | (simp only [i64_w, i32_w]; rw [c31b0]) | rw [c31b1] | skip)
                          by_cases c32 : t512 = true
                          · subst c32
                            have H1 : (if t511 ≤ a0 then (some false) else (phalanxlaw01_FixedUndoes.j4 kj17 a0)) = some r := by rw [if_pos rfl] at H; exact H
                            clear H
                            have H := H1
                            clear H1
                            by_cases c33 : t511 ≤ a0
                            · rw [if_pos c33] at H
                              have c33b0 : decide (t511 ≤ a0) = true := decide_eq_true c33
                              clear c33
                              obtain rfl := Option.some.inj H
                              go_wp2_with (first | ((with_reducible refine gate_callee (f := 47) rfl ?_); refine goesL_ (some 112) rfl rfl Try.func47 (by kernel_rfl) rfl #[.int .i64 t507, .int .i64 t507] rfl (by (try simp only [List.map_toArray, List.map_cons, List.map_nil]); first | done | rfl | (simp only [List.length_drop, List.length_take]; rfl)) ?_; (with_reducible refine (fixed_Mul.calls kj17 t507 t507 t509 true _ A28.out).mono ?_); rintro e w' ⟨rfl, ⟨nd, rfl⟩⟩; refine ⟨_, rfl, ?_⟩) | ((with_reducible refine gate_callee (f := 47) rfl ?_); refine goesL_ (some 120) rfl rfl Try.func47 (by kernel_rfl) rfl #[.int .i64 (wrap64 (t507 + 1)), .int .i64 (wrap64 (t507 + 1))] rfl (by (try simp only [List.map_toArray, List.map_cons, List.map_nil]); first | done | rfl | (simp only [List.length_drop, List.length_take]; rfl)) ?_; (with_reducible refine (fixed_Mul.calls kj17 (wrap64 (t507 + 1)) (wrap64 (t507 + 1)) t511 true _ A29.out).mono ?_); rintro e w' ⟨rfl, ⟨nd, rfl⟩⟩; refine ⟨_, rfl, ?_⟩))
                              go_ret
                              exact ⟨by first | rfl | (simp; done) | (simp [*]; done), by repeat (first | exact Drawn0.refl _ | apply Drawn0.step)⟩
                            · rw [if_neg c33] at H
                              have c33b0 : decide (t511 ≤ a0) = false := decide_eq_false c33
                              clear c33
                              have H' := Aside0.mk H
                              clear H
                              go_wp2_with (first | ((with_reducible refine gate_callee (f := 47) rfl ?_); refine goesL_ (some 112) rfl rfl Try.func47 (by kernel_rfl) rfl #[.int .i64 t507, .int .i64 t507] rfl (by (try simp only [List.map_toArray, List.map_cons, List.map_nil]); first | done | rfl | (simp only [List.length_drop, List.length_take]; rfl)) ?_; (with_reducible refine (fixed_Mul.calls kj17 t507 t507 t509 true _ A28.out).mono ?_); rintro e w' ⟨rfl, ⟨nd, rfl⟩⟩; refine ⟨_, rfl, ?_⟩) | ((with_reducible refine gate_callee (f := 47) rfl ?_); refine goesL_ (some 120) rfl rfl Try.func47 (by kernel_rfl) rfl #[.int .i64 (wrap64 (t507 + 1)), .int .i64 (wrap64 (t507 + 1))] rfl (by (try simp only [List.map_toArray, List.map_cons, List.map_nil]); first | done | rfl | (simp only [List.length_drop, List.length_take]; rfl)) ?_; (with_reducible refine (fixed_Mul.calls kj17 (wrap64 (t507 + 1)) (wrap64 (t507 + 1)) t511 true _ A29.out).mono ?_); rintro e w' ⟨rfl, ⟨nd, rfl⟩⟩; refine ⟨_, rfl, ?_⟩))
                              go_meet
                              case rel => exact ⟨_, H', ⟨by have := HJ3.out; have := HJ9.out; have := HJ11.out; have := HJ17.out; first | omega | exact Nat.le_refl _⟩, by repeat (first | exact Drawn0.refl _ | apply Drawn0.step)⟩
                          · replace c32 := Bool.eq_false_iff.mpr c32
                            subst c32
                            have H1 : (phalanxlaw01_FixedUndoes.j4 kj17 a0) = some r := by rw [if_neg (show ¬ (false = true) by decide)] at H; exact H
                            clear H
                            have H := H1
                            clear H1
                            have H' := Aside0.mk H
                            clear H
                            go_wp2_with (first | ((with_reducible refine gate_callee (f := 47) rfl ?_); refine goesL_ (some 112) rfl rfl Try.func47 (by kernel_rfl) rfl #[.int .i64 t507, .int .i64 t507] rfl (by (try simp only [List.map_toArray, List.map_cons, List.map_nil]); first | done | rfl | (simp only [List.length_drop, List.length_take]; rfl)) ?_; (with_reducible refine (fixed_Mul.calls kj17 t507 t507 t509 true _ A28.out).mono ?_); rintro e w' ⟨rfl, ⟨nd, rfl⟩⟩; refine ⟨_, rfl, ?_⟩) | ((with_reducible refine gate_callee (f := 47) rfl ?_); refine goesL_ (some 120) rfl rfl Try.func47 (by kernel_rfl) rfl #[.int .i64 (wrap64 (t507 + 1)), .int .i64 (wrap64 (t507 + 1))] rfl (by (try simp only [List.map_toArray, List.map_cons, List.map_nil]); first | done | rfl | (simp only [List.length_drop, List.length_take]; rfl)) ?_; (with_reducible refine (fixed_Mul.calls kj17 (wrap64 (t507 + 1)) (wrap64 (t507 + 1)) t511 false _ A29.out).mono ?_); rintro e w' ⟨rfl, ⟨nd, rfl⟩⟩; refine ⟨_, rfl, ?_⟩))
                            go_meet
                            case rel => exact ⟨_, H', ⟨by have := HJ3.out; have := HJ9.out; have := HJ11.out; have := HJ17.out; first | omega | exact Nat.le_refl _⟩, by repeat (first | exact Drawn0.refl _ | apply Drawn0.step)⟩
                      · replace c30 := Bool.eq_false_iff.mpr c30
                        subst c30
                        have H1 : (some false) = some r := by rw [if_neg (show ¬ (false = true) by decide)] at H; exact H
                        clear H
                        have H := H1
                        clear H1
                        obtain rfl := Option.some.inj H
                        go_wp2_with (first | ((with_reducible refine gate_callee (f := 47) rfl ?_); refine goesL_ (some 112) rfl rfl Try.func47 (by kernel_rfl) rfl #[.int .i64 t507, .int .i64 t507] rfl (by (try simp only [List.map_toArray, List.map_cons, List.map_nil]); first | done | rfl | (simp only [List.length_drop, List.length_take]; rfl)) ?_; (with_reducible refine (fixed_Mul.calls kj17 t507 t507 t509 false _ A28.out).mono ?_); rintro e w' ⟨rfl, ⟨nd, rfl⟩⟩; refine ⟨_, rfl, ?_⟩) | ((with_reducible refine gate_callee (f := 47) rfl ?_); refine goesL_ (some 120) rfl rfl Try.func47 (by kernel_rfl) rfl #[.int .i64 (wrap64 (t507 + 1)), .int .i64 (wrap64 (t507 + 1))] rfl (by (try simp only [List.map_toArray, List.map_cons, List.map_nil]); first | done | rfl | (simp only [List.length_drop, List.length_take]; rfl)) ?_; (with_reducible refine (fixed_Mul.calls kj17 (wrap64 (t507 + 1)) (wrap64 (t507 + 1)) t511 t512 _ A29.out).mono ?_); rintro e w' ⟨rfl, ⟨nd, rfl⟩⟩; refine ⟨_, rfl, ?_⟩))
                        go_ret
                        exact ⟨by first | rfl | (simp; done) | (simp [*]; done), by repeat (first | exact Drawn0.refl _ | apply Drawn0.step)⟩
                    · replace c27 := Bool.eq_false_iff.mpr c27
                      subst c27
                      have H1 : (phalanxlaw01_FixedUndoes.j4 kj17 a0) = some r := by rw [if_neg (show ¬ (false = true) by decide)] at H; exact H
                      clear H
                      have H := H1
                      clear H1
                      have H' := Aside0.mk H
                      clear H
                      go_wp2
                      go_meet
                      case rel => exact ⟨_, H', ⟨by have := HJ3.out; have := HJ9.out; have := HJ11.out; have := HJ17.out; first | omega | exact Nat.le_refl _⟩, by repeat (first | exact Drawn0.refl _ | apply Drawn0.step)⟩
                  case rest =>
                    clear HC26
                    try clear c1
                    try clear c2
                    try clear p2
                    try clear c3
                    try clear c4
                    try clear c5
                    try clear p6
                    try clear c7
                    try clear c8
                    try clear c8b0
                    try clear c8b1
                    try clear c9
                    try clear c11
                    try clear c13
                    try clear c15
                    try clear c16
                    try clear c16b0
                    try clear c16b1
                    try clear c17
                    try clear c19
                    try clear c21
                    try clear c22
                    try clear c22b0
                    try clear c22b1
                    try clear c23
                    try clear c23b0
                    try clear c23b1
                    try clear c24
                    try clear c24b0
                    try clear c24b1
                    try clear c24b2
                    try clear c27
                    try clear c30
                    try clear c31
                    try clear c31b0
                    try clear c32
                    try clear c33
                    try clear c33b0
                    try clear p2
                    try clear p6
                    obtain ⟨kq, HA, HJ25, ⟨mc25, rfl⟩⟩ := hcut
                    cases kq with
                    | zero => exact absurd HA.out (by simp [phalanxlaw01_FixedUndoes.j4])
                    | succ kj25 =>
                      have H := HA.out
                      clear HA
                      simp only [phalanxlaw01_FixedUndoes.j4] at H
                      replace H := Option.bind_eq_some_iff.mp H
                      obtain ⟨⟨t513, t514⟩, A340, H⟩ := H
                      replace H : (if t514 = true then ((fixed_Floor.f t513).bind fun t515 => (if t515 = a0 then ((phalanxlaw01_awake.f kj25).bind fun t516 => (some t516)) else (some false))) else ((phalanxlaw01_awake.f kj25).bind fun t517 => (some t517))) = some r := H
                      have A34 := Aside0.mk A340
                      clear A340
                      by_cases c35 : t514 = true
                      · subst c35
                        have H1 : ((fixed_Floor.f t513).bind fun t515 => (if t515 = a0 then ((phalanxlaw01_awake.f kj25).bind fun t516 => (some t516)) else (some false))) = some r := by rw [if_pos rfl] at H; exact H
                        clear H
                        have H := H1
                        clear H1
                        replace H := Option.bind_eq_some_iff.mp H
                        obtain ⟨t515, A360, H⟩ := H
                        replace H : (if t515 = a0 then ((phalanxlaw01_awake.f kj25).bind fun t516 => (some t516)) else (some false)) = some r := H
                        have A36 := Aside0.mk A360
                        clear A360
                        by_cases c37 : t515 = a0
                        · rw [if_pos c37] at H
                          have c37b0 : (t515 == a0) = true := beq_iff_eq.mpr c37
                          have c37b1 : (t515 != a0) = false := bne_eq_false_iff_eq.mpr c37
                          clear c37
                          replace H := Option.bind_eq_some_iff.mp H
                          obtain ⟨t516, A380, H⟩ := H
                          replace H : (some t516) = some r := H
                          have A38 := Aside0.mk A380
                          clear A380
                          obtain rfl := Option.some.inj H
                          go_wp2_with (first | ((with_reducible refine gate_callee (f := 65) rfl ?_); refine goesL_ (some 140) rfl rfl Try.func65 (by kernel_rfl) rfl #[.int .i64 a0] rfl (by (try simp only [List.map_toArray, List.map_cons, List.map_nil]); first | done | rfl | (simp only [List.length_drop, List.length_take]; rfl)) ?_; (with_reducible refine (fixed_From.calls a0 t513 true _ A34.out).mono ?_); rintro e w' ⟨rfl, ⟨nd, rfl⟩⟩; refine ⟨_, rfl, ?_⟩) | (go_at_call 66; (with_reducible refine (fixed_Floor.calls t513 t515 _ A36.out).mono ?_); rintro e w' ⟨rfl, ⟨nd, rfl⟩⟩) | ((with_reducible refine gate_callee (f := 23) rfl ?_); refine goesL_ (some 150) rfl rfl Try.func23 (by kernel_rfl) rfl #[] rfl (by (try simp only [List.map_toArray, List.map_cons, List.map_nil]); first | done | rfl | (simp only [List.length_drop, List.length_take]; rfl)) ?_; (with_reducible refine (phalanxlaw01_awake.calls kj25  t516 _ A38.out).mono ?_); rintro e w' ⟨rfl, ⟨nd, rfl⟩⟩; refine ⟨_, rfl, ?_⟩))
                          go_ret
                          exact ⟨by first | rfl | (simp; done) | (simp [*]; done), by repeat (first | exact Drawn0.refl _ | apply Drawn0.step)⟩
                        · rw [if_neg c37] at H
                          have c37b0 : (t515 == a0) = false := beq_eq_false_iff_ne.mpr c37
                          have c37b1 : (t515 != a0) = true := bne_iff_ne.mpr c37
                          obtain rfl := Option.some.inj H
                          go_wp2_with (first | ((with_reducible refine gate_callee (f := 65) rfl ?_); refine goesL_ (some 140) rfl rfl Try.func65 (by kernel_rfl) rfl #[.int .i64 a0] rfl (by (try simp only [List.map_toArray, List.map_cons, List.map_nil]); first | done | rfl | (simp only [List.length_drop, List.length_take]; rfl)) ?_; (with_reducible refine (fixed_From.calls a0 t513 true _ A34.out).mono ?_); rintro e w' ⟨rfl, ⟨nd, rfl⟩⟩; refine ⟨_, rfl, ?_⟩) | (go_at_call 66; (with_reducible refine (fixed_Floor.calls t513 t515 _ A36.out).mono ?_); rintro e w' ⟨rfl, ⟨nd, rfl⟩⟩))
                          go_ret
                          exact ⟨by first | rfl | (simp; done) | (simp [*]; done), by repeat (first | exact Drawn0.refl _ | apply Drawn0.step)⟩
                      · replace c35 := Bool.eq_false_iff.mpr c35
                        subst c35
                        have H1 : ((phalanxlaw01_awake.f kj25).bind fun t517 => (some t517)) = some r := by rw [if_neg (show ¬ (false = true) by decide)] at H; exact H
                        clear H
                        have H := H1
                        clear H1
                        replace H := Option.bind_eq_some_iff.mp H
                        obtain ⟨t517, A390, H⟩ := H
                        replace H : (some t517) = some r := H
                        have A39 := Aside0.mk A390
                        clear A390
                        obtain rfl := Option.some.inj H
                        go_wp2_with (first | ((with_reducible refine gate_callee (f := 65) rfl ?_); refine goesL_ (some 140) rfl rfl Try.func65 (by kernel_rfl) rfl #[.int .i64 a0] rfl (by (try simp only [List.map_toArray, List.map_cons, List.map_nil]); first | done | rfl | (simp only [List.length_drop, List.length_take]; rfl)) ?_; (with_reducible refine (fixed_From.calls a0 t513 false _ A34.out).mono ?_); rintro e w' ⟨rfl, ⟨nd, rfl⟩⟩; refine ⟨_, rfl, ?_⟩) | ((with_reducible refine gate_callee (f := 23) rfl ?_); refine goesL_ (some 150) rfl rfl Try.func23 (by kernel_rfl) rfl #[] rfl (by (try simp only [List.map_toArray, List.map_cons, List.map_nil]); first | done | rfl | (simp only [List.length_drop, List.length_take]; rfl)) ?_; (with_reducible refine (phalanxlaw01_awake.calls kj25  t517 _ A39.out).mono ?_); rintro e w' ⟨rfl, ⟨nd, rfl⟩⟩; refine ⟨_, rfl, ?_⟩))
                        go_ret
                        exact ⟨by first | rfl | (simp; done) | (simp [*]; done), by repeat (first | exact Drawn0.refl _ | apply Drawn0.step)⟩

/-- THE ONE PURE STATEMENT of phalanxlaw01_FixedUndoes: yours. -/
def phalanxlaw01_FixedUndoes.Pure : Prop := ∀ (a0 : Int) (a1 : Int), (Lit.int .i64 a0).wf = true → (Lit.int .i64 a1).wf = true → ∃ k, phalanxlaw01_FixedUndoes.f k a0 a1 = some true
theorem phalanxlaw01_FixedUndoes.walk (P : phalanxlaw01_FixedUndoes.Pure) (a0 : Int) (a1 : Int) (w : World) (w0 : (Lit.int .i64 a0).wf = true) (w1 : (Lit.int .i64 a1).wf = true) :
    Calls Try.prog 11 #[.int .i64 a0, .int .i64 a1] w fun e w' => e = .returned (.bool true) ∧ Below w.heap.size w w' := by
  obtain ⟨k, h⟩ := P a0 a1 w0 w1
  refine (phalanxlaw01_FixedUndoes.calls k a0 a1 true w h).mono ?_
  rintro e w' ⟨rfl, hd⟩
  exact ⟨rfl, hd.below⟩

end Go.Proofs.Ytjhiccoooaleoaa.P01
