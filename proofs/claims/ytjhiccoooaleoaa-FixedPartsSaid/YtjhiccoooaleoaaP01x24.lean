-- Written by a program of this session (wip/tools/myprint.py) for this claim: each Go function as a Lean function, and what its call does. Lean checks it.
import Derived.Test.YtjhiccoooaleoaaP01x0
import Derived.Test.YtjhiccoooaleoaaP01x3
import Derived.Test.YtjhiccoooaleoaaP01x6
import Derived.Test.YtjhiccoooaleoaaP01x8
import Derived.Test.YtjhiccoooaleoaaP01x13
import Derived.Test.YtjhiccoooaleoaaP01x23
namespace Go.Proofs.Ytjhiccoooaleoaa.P01
open Go.RowKit Go.Proofs.YtjhiccoooaleoaaW.PrintWords Go.Proofs.YtjhiccoooaleoaaW.PrintLast
set_option linter.unusedVariables false
set_option linter.unusedSimpArgs false

/-! ### phalanxref01_MulQ: function 68 -/
def phalanxref01_MulQ.f (k : Nat) (a0 : Int) (a1 : Int) : Option (Int × Bool) := (phalanxref01_Of.f k a0).bind fun bt536 => ((phalanxref01_Of.f k a1).bind fun bt540 => ((phalanxref01_Product.f k bt536.1 bt536.2 bt540.1 bt540.2).bind fun bt544 => ((phalanxref01_one.f).bind fun bt548 => ((phalanxref01_Quotient.f k bt544.1 bt544.2 bt548.1 bt548.2).bind fun bt552 => ((phalanxref01_To.f k bt552.1 bt552.2).bind fun bt556 => (some (bt556.1, bt556.2)))))))
theorem phalanxref01_MulQ.mono : ∀ a0 a1 k, LeO (phalanxref01_MulQ.f k a0 a1) (phalanxref01_MulQ.f (k + 1) a0 a1) := by
  intro a0 a1 k
  unfold phalanxref01_MulQ.f
  repeat' first
      | (with_reducible exact phalanxref01_Of.mono _ _)
      | (with_reducible exact phalanxref01_Product.mono _ _ _ _ _)
      | (with_reducible exact phalanxref01_Quotient.mono _ _ _ _ _)
      | (with_reducible exact phalanxref01_To.mono _ _ _)
      | (with_reducible exact LeO.refl _)
      | (with_reducible exact LeO.none _)
      | (with_reducible refine LeO.ite ?_ ?_)
      | (with_reducible refine LeO.bind ?_ (fun _ => ?_))
      | exact phalanxref01_Of.mono _ _
      | exact phalanxref01_Product.mono _ _ _ _ _
      | exact phalanxref01_Quotient.mono _ _ _ _ _
      | exact phalanxref01_To.mono _ _ _
      | exact LeO.none _
      | refine LeO.ite ?_ ?_
      | refine LeO.bind ?_ (fun _ => ?_)
set_option maxHeartbeats 8000000 in
set_option maxRecDepth 100000 in
theorem phalanxref01_MulQ.calls (k : Nat) (a0 : Int) (a1 : Int) (r1 : Int) (r2 : Bool) (w : World) (h : phalanxref01_MulQ.f k a0 a1 = some (r1, r2)) :
    Calls Try.prog 68 #[.int .i64 a0, .int .i64 a1] w fun e w' => e = .returned (.tuple #[.int .i64 r1, .bool r2]) ∧ Below w.heap.size w w' := by
  have HB := Aside0.mk (Below.refl w.heap.size w)
  have H : ((phalanxref01_Of.f k a0).bind fun bt536 => ((phalanxref01_Of.f k a1).bind fun bt540 => ((phalanxref01_Product.f k bt536.1 bt536.2 bt540.1 bt540.2).bind fun bt544 => ((phalanxref01_one.f).bind fun bt548 => ((phalanxref01_Quotient.f k bt544.1 bt544.2 bt548.1 bt548.2).bind fun bt552 => ((phalanxref01_To.f k bt552.1 bt552.2).bind fun bt556 => (some (bt556.1, bt556.2)))))))) = some (r1, r2) := h
  clear h
  replace H := Option.bind_eq_some_iff.mp H
  obtain ⟨⟨t536, t537⟩, A30, H⟩ := H
  replace H : ((phalanxref01_Of.f k a1).bind fun bt540 => ((phalanxref01_Product.f k t536 t537 bt540.1 bt540.2).bind fun bt544 => ((phalanxref01_one.f).bind fun bt548 => ((phalanxref01_Quotient.f k bt544.1 bt544.2 bt548.1 bt548.2).bind fun bt552 => ((phalanxref01_To.f k bt552.1 bt552.2).bind fun bt556 => (some (bt556.1, bt556.2))))))) = some (r1, r2) := H
  have A3 := Aside0.mk A30
  clear A30
  replace H := Option.bind_eq_some_iff.mp H
  obtain ⟨⟨t540, t541⟩, A40, H⟩ := H
  replace H : ((phalanxref01_Product.f k t536 t537 t540 t541).bind fun bt544 => ((phalanxref01_one.f).bind fun bt548 => ((phalanxref01_Quotient.f k bt544.1 bt544.2 bt548.1 bt548.2).bind fun bt552 => ((phalanxref01_To.f k bt552.1 bt552.2).bind fun bt556 => (some (bt556.1, bt556.2)))))) = some (r1, r2) := H
  have A4 := Aside0.mk A40
  clear A40
  replace H := Option.bind_eq_some_iff.mp H
  obtain ⟨⟨t544, t545⟩, A50, H⟩ := H
  replace H : ((phalanxref01_one.f).bind fun bt548 => ((phalanxref01_Quotient.f k t544 t545 bt548.1 bt548.2).bind fun bt552 => ((phalanxref01_To.f k bt552.1 bt552.2).bind fun bt556 => (some (bt556.1, bt556.2))))) = some (r1, r2) := H
  have A5 := Aside0.mk A50
  clear A50
  replace H := Option.bind_eq_some_iff.mp H
  obtain ⟨⟨t548, t549⟩, A60, H⟩ := H
  replace H : ((phalanxref01_Quotient.f k t544 t545 t548 t549).bind fun bt552 => ((phalanxref01_To.f k bt552.1 bt552.2).bind fun bt556 => (some (bt556.1, bt556.2)))) = some (r1, r2) := H
  have A6 := Aside0.mk A60
  clear A60
  replace H := Option.bind_eq_some_iff.mp H
  obtain ⟨⟨t552, t553⟩, A70, H⟩ := H
  replace H : ((phalanxref01_To.f k t552 t553).bind fun bt556 => (some (bt556.1, bt556.2))) = some (r1, r2) := H
  have A7 := Aside0.mk A70
  clear A70
  replace H := Option.bind_eq_some_iff.mp H
  obtain ⟨⟨t556, t557⟩, A80, H⟩ := H
  replace H : (some (t556, t557)) = some (r1, r2) := H
  have A8 := Aside0.mk A80
  clear A80
  simp only [Option.some.injEq, Prod.mk.injEq] at H
  obtain ⟨rfl, rfl⟩ := H
  go_enter Try.func68, Try.ntmps68
  go_wp2_with (first | ((with_reducible refine gate_callee (f := 81) rfl ?_); refine goesL_ (some 7) rfl rfl Try.func81 (by kernel_rfl) rfl #[.int .i64 a0] rfl (by (try simp only [List.map_toArray, List.map_cons, List.map_nil]); first | done | rfl | (simp only [List.length_drop, List.length_take]; rfl)) ?_; (with_reducible refine (phalanxref01_Of.calls k a0 t536 t537 _ A3.out).mono ?_); rintro e w9 ⟨v538, rfl, ho0, hb⟩; refine ⟨_, rfl, ?_⟩; have n0_ := Aside0.mk (Kd.R_lower ho0 (below_size (by repeat (first | (with_reducible first | exact HB.out | apply below_alloc | apply pw_below_drewN | apply below_drew1) | exact HB.out)))); have n1_ := Aside0.mk (below_step (by repeat (first | (with_reducible first | exact HB.out | apply below_alloc | apply pw_below_drewN | apply below_drew1) | exact HB.out)) hb); clear HB; have HO539 := n0_; have HB := n1_; clear n0_ n1_; (try clear hb); (try clear hb2); (try clear hk); (try clear hi); (try clear ho0)) | ((with_reducible refine gate_callee (f := 81) rfl ?_); refine goesL_ (some 9) rfl rfl Try.func81 (by kernel_rfl) rfl #[.int .i64 a1] rfl (by (try simp only [List.map_toArray, List.map_cons, List.map_nil]); first | done | rfl | (simp only [List.length_drop, List.length_take]; rfl)) ?_; (with_reducible refine (phalanxref01_Of.calls k a1 t540 t541 _ A4.out).mono ?_); rintro e w10 ⟨v542, rfl, ho0, hb⟩; refine ⟨_, rfl, ?_⟩; have n0_ := Aside0.mk (Kd.R_elder' (by (with_reducible repeat (first | apply Kd.R_alloc | apply Kd.R_drewN | apply Kd.R_drew)); exact HO539.out) (Kd.R_base ho0) hb); have n1_ := Aside0.mk (Kd.R_lower (Kd.R_new' ho0 (Kd.R_lt (by (with_reducible repeat (first | apply Kd.R_alloc | apply Kd.R_drewN | apply Kd.R_drew)); exact HO539.out))) (below_size (by repeat (first | (with_reducible first | exact HB.out | apply below_alloc | apply pw_below_drewN | apply below_drew1) | exact HB.out)))); have n2_ := Aside0.mk (below_step (by repeat (first | (with_reducible first | exact HB.out | apply below_alloc | apply pw_below_drewN | apply below_drew1) | exact HB.out)) hb); clear HO539; clear HB; have HO539 := n0_; have HO543 := n1_; have HB := n2_; clear n0_ n1_ n2_; (try clear hb); (try clear hb2); (try clear hk); (try clear hi); (try clear ho0); obtain ⟨Ao11, co11, eo11⟩ := Kd.R_slice HO539.out; subst eo11; obtain ⟨Ao12, co12, eo12⟩ := Kd.R_slice HO543.out; subst eo12) | ((with_reducible refine gate_callee (f := 85) rfl ?_); refine goesL_ (some 10) rfl rfl Try.func85 (by kernel_rfl) rfl #[.agg #[.bool t536, .slice Ao11 t537.length co11], .agg #[.bool t540, .slice Ao12 t541.length co12]] rfl (by (try simp only [List.map_toArray, List.map_cons, List.map_nil]); first | done | rfl | (simp only [List.length_drop, List.length_take]; rfl)) ?_; (with_reducible refine (phalanxref01_Product.calls k t536 _ _ t537 t540 _ _ t541 t544 t545 _ ?side1 ?side2 ?side3 ?side4 A5.out).mono ?_); (case side1 => repeat (first | exact (Kd.R_reads' HO539.out).2.2 | (with_reducible refine Kd.C_alloc ?_ _) | (with_reducible refine Kd.C_drewN ?_ _) | (with_reducible refine Kd.C_drew ?_))); (case side2 => exact (Kd.R_reads' HO539.out).2.1); (case side3 => repeat (first | exact (Kd.R_reads' HO543.out).2.2 | (with_reducible refine Kd.C_alloc ?_ _) | (with_reducible refine Kd.C_drewN ?_ _) | (with_reducible refine Kd.C_drew ?_))); (case side4 => exact (Kd.R_reads' HO543.out).2.1); rintro e w13 ⟨v546, rfl, ho0, hb⟩; refine ⟨_, rfl, ?_⟩; have n0_ := Aside0.mk (Kd.R_elder' (by (with_reducible repeat (first | apply Kd.R_alloc | apply Kd.R_drewN | apply Kd.R_drew)); exact HO539.out) (Kd.R_base ho0) hb); have n1_ := Aside0.mk (Kd.R_elder' (by (with_reducible repeat (first | apply Kd.R_alloc | apply Kd.R_drewN | apply Kd.R_drew)); exact HO543.out) (Kd.R_base ho0) hb); have n2_ := Aside0.mk (Kd.R_lower (Kd.R_new' (Kd.R_new' ho0 (Kd.R_lt (by (with_reducible repeat (first | apply Kd.R_alloc | apply Kd.R_drewN | apply Kd.R_drew)); exact HO539.out))) (Kd.R_lt (by (with_reducible repeat (first | apply Kd.R_alloc | apply Kd.R_drewN | apply Kd.R_drew)); exact HO543.out))) (below_size (by repeat (first | (with_reducible first | exact HB.out | apply below_alloc | apply pw_below_drewN | apply below_drew1) | exact HB.out)))); have n3_ := Aside0.mk (below_step (by repeat (first | (with_reducible first | exact HB.out | apply below_alloc | apply pw_below_drewN | apply below_drew1) | exact HB.out)) hb); clear HO539; clear HO543; clear HB; have HO539 := n0_; have HO543 := n1_; have HO547 := n2_; have HB := n3_; clear n0_ n1_ n2_ n3_; (try clear hb); (try clear hb2); (try clear hk); (try clear hi); (try clear ho0)) | ((with_reducible refine gate_callee (f := 99) rfl ?_); refine goesL_ (some 11) rfl rfl Try.func99 (by kernel_rfl) rfl #[] rfl (by (try simp only [List.map_toArray, List.map_cons, List.map_nil]); first | done | rfl | (simp only [List.length_drop, List.length_take]; rfl)) ?_; (with_reducible refine (phalanxref01_one.calls  t548 t549 _ A6.out).mono ?_); rintro e w14 ⟨v550, rfl, ho0, hb⟩; refine ⟨_, rfl, ?_⟩; have n0_ := Aside0.mk (Kd.R_elder' (by (with_reducible repeat (first | apply Kd.R_alloc | apply Kd.R_drewN | apply Kd.R_drew)); exact HO539.out) (Kd.R_base ho0) hb); have n1_ := Aside0.mk (Kd.R_elder' (by (with_reducible repeat (first | apply Kd.R_alloc | apply Kd.R_drewN | apply Kd.R_drew)); exact HO543.out) (Kd.R_base ho0) hb); have n2_ := Aside0.mk (Kd.R_elder' (by (with_reducible repeat (first | apply Kd.R_alloc | apply Kd.R_drewN | apply Kd.R_drew)); exact HO547.out) (Kd.R_base ho0) hb); have n3_ := Aside0.mk (Kd.R_lower (Kd.R_new' (Kd.R_new' (Kd.R_new' ho0 (Kd.R_lt (by (with_reducible repeat (first | apply Kd.R_alloc | apply Kd.R_drewN | apply Kd.R_drew)); exact HO539.out))) (Kd.R_lt (by (with_reducible repeat (first | apply Kd.R_alloc | apply Kd.R_drewN | apply Kd.R_drew)); exact HO543.out))) (Kd.R_lt (by (with_reducible repeat (first | apply Kd.R_alloc | apply Kd.R_drewN | apply Kd.R_drew)); exact HO547.out))) (below_size (by repeat (first | (with_reducible first | exact HB.out | apply below_alloc | apply pw_below_drewN | apply below_drew1) | exact HB.out)))); have n4_ := Aside0.mk (below_step (by repeat (first | (with_reducible first | exact HB.out | apply below_alloc | apply pw_below_drewN | apply below_drew1) | exact HB.out)) hb); clear HO539; clear HO543; clear HO547; clear HB; have HO539 := n0_; have HO543 := n1_; have HO547 := n2_; have HO551 := n3_; have HB := n4_; clear n0_ n1_ n2_ n3_ n4_; (try clear hb); (try clear hb2); (try clear hk); (try clear hi); (try clear ho0); obtain ⟨Ao15, co15, eo15⟩ := Kd.R_slice HO547.out; subst eo15; obtain ⟨Ao16, co16, eo16⟩ := Kd.R_slice HO551.out; subst eo16) | ((with_reducible refine gate_callee (f := 95) rfl ?_); refine goesL_ (some 12) rfl rfl Try.func95 (by kernel_rfl) rfl #[.agg #[.bool t544, .slice Ao15 t545.length co15], .agg #[.bool t548, .slice Ao16 t549.length co16]] rfl (by (try simp only [List.map_toArray, List.map_cons, List.map_nil]); first | done | rfl | (simp only [List.length_drop, List.length_take]; rfl)) ?_; (with_reducible refine (phalanxref01_Quotient.calls k t544 _ _ t545 t548 _ _ t549 t552 t553 _ ?side1 ?side2 ?side3 ?side4 A7.out).mono ?_); (case side1 => repeat (first | exact (Kd.R_reads' HO547.out).2.2 | (with_reducible refine Kd.C_alloc ?_ _) | (with_reducible refine Kd.C_drewN ?_ _) | (with_reducible refine Kd.C_drew ?_))); (case side2 => exact (Kd.R_reads' HO547.out).2.1); (case side3 => repeat (first | exact (Kd.R_reads' HO551.out).2.2 | (with_reducible refine Kd.C_alloc ?_ _) | (with_reducible refine Kd.C_drewN ?_ _) | (with_reducible refine Kd.C_drew ?_))); (case side4 => exact (Kd.R_reads' HO551.out).2.1); rintro e w17 ⟨v554, rfl, ho0, hb⟩; refine ⟨_, rfl, ?_⟩; have n0_ := Aside0.mk (Kd.R_elder' (by (with_reducible repeat (first | apply Kd.R_alloc | apply Kd.R_drewN | apply Kd.R_drew)); exact HO539.out) (Kd.R_base ho0) hb); have n1_ := Aside0.mk (Kd.R_elder' (by (with_reducible repeat (first | apply Kd.R_alloc | apply Kd.R_drewN | apply Kd.R_drew)); exact HO543.out) (Kd.R_base ho0) hb); have n2_ := Aside0.mk (Kd.R_elder' (by (with_reducible repeat (first | apply Kd.R_alloc | apply Kd.R_drewN | apply Kd.R_drew)); exact HO547.out) (Kd.R_base ho0) hb); have n3_ := Aside0.mk (Kd.R_elder' (by (with_reducible repeat (first | apply Kd.R_alloc | apply Kd.R_drewN | apply Kd.R_drew)); exact HO551.out) (Kd.R_base ho0) hb); have n4_ := Aside0.mk (Kd.R_lower (Kd.R_new' (Kd.R_new' (Kd.R_new' (Kd.R_new' ho0 (Kd.R_lt (by (with_reducible repeat (first | apply Kd.R_alloc | apply Kd.R_drewN | apply Kd.R_drew)); exact HO539.out))) (Kd.R_lt (by (with_reducible repeat (first | apply Kd.R_alloc | apply Kd.R_drewN | apply Kd.R_drew)); exact HO543.out))) (Kd.R_lt (by (with_reducible repeat (first | apply Kd.R_alloc | apply Kd.R_drewN | apply Kd.R_drew)); exact HO547.out))) (Kd.R_lt (by (with_reducible repeat (first | apply Kd.R_alloc | apply Kd.R_drewN | apply Kd.R_drew)); exact HO551.out))) (below_size (by repeat (first | (with_reducible first | exact HB.out | apply below_alloc | apply pw_below_drewN | apply below_drew1) | exact HB.out)))); have n5_ := Aside0.mk (below_step (by repeat (first | (with_reducible first | exact HB.out | apply below_alloc | apply pw_below_drewN | apply below_drew1) | exact HB.out)) hb); clear HO539; clear HO543; clear HO547; clear HO551; clear HB; have HO539 := n0_; have HO543 := n1_; have HO547 := n2_; have HO551 := n3_; have HO555 := n4_; have HB := n5_; clear n0_ n1_ n2_ n3_ n4_ n5_; (try clear hb); (try clear hb2); (try clear hk); (try clear hi); (try clear ho0); obtain ⟨Ao18, co18, eo18⟩ := Kd.R_slice HO555.out; subst eo18) | ((with_reducible refine gate_callee (f := 83) rfl ?_); refine goesL_ (some 13) rfl rfl Try.func83 (by kernel_rfl) rfl #[.agg #[.bool t552, .slice Ao18 t553.length co18]] rfl (by (try simp only [List.map_toArray, List.map_cons, List.map_nil]); first | done | rfl | (simp only [List.length_drop, List.length_take]; rfl)) ?_; (with_reducible refine (phalanxref01_To.calls k t552 _ _ t553 t556 t557 _ ?side1 ?side2 A8.out).mono ?_); (case side1 => repeat (first | exact (Kd.R_reads' HO555.out).2.2 | (with_reducible refine Kd.C_alloc ?_ _) | (with_reducible refine Kd.C_drewN ?_ _) | (with_reducible refine Kd.C_drew ?_))); (case side2 => exact (Kd.R_reads' HO555.out).2.1); rintro e w19 ⟨rfl, hb⟩; refine ⟨_, rfl, ?_⟩; have n0_ := Aside0.mk (Kd.R_below (by (with_reducible repeat (first | apply Kd.R_alloc | apply Kd.R_drewN | apply Kd.R_drew)); exact HO539.out) hb); have n1_ := Aside0.mk (Kd.R_below (by (with_reducible repeat (first | apply Kd.R_alloc | apply Kd.R_drewN | apply Kd.R_drew)); exact HO543.out) hb); have n2_ := Aside0.mk (Kd.R_below (by (with_reducible repeat (first | apply Kd.R_alloc | apply Kd.R_drewN | apply Kd.R_drew)); exact HO547.out) hb); have n3_ := Aside0.mk (Kd.R_below (by (with_reducible repeat (first | apply Kd.R_alloc | apply Kd.R_drewN | apply Kd.R_drew)); exact HO551.out) hb); have n4_ := Aside0.mk (Kd.R_below (by (with_reducible repeat (first | apply Kd.R_alloc | apply Kd.R_drewN | apply Kd.R_drew)); exact HO555.out) hb); have n5_ := Aside0.mk (below_step (by repeat (first | (with_reducible first | exact HB.out | apply below_alloc | apply pw_below_drewN | apply below_drew1) | exact HB.out)) hb); clear HO539; clear HO543; clear HO547; clear HO551; clear HO555; clear HB; have HO539 := n0_; have HO543 := n1_; have HO547 := n2_; have HO551 := n3_; have HO555 := n4_; have HB := n5_; clear n0_ n1_ n2_ n3_ n4_ n5_; (try clear hb); (try clear hb2); (try clear hk); (try clear hi)))
  go_ret2
  exact ⟨by first | rfl | (simp [errW_none, errW_some] <;> rfl) | (simp [*, errW_none, errW_some] <;> rfl), by repeat (first | (with_reducible first | exact HB.out | apply below_alloc | apply pw_below_drewN | apply below_drew1) | exact HB.out)⟩

/-! ### bits_Len64: function 105 -/
def bits_Len64.f (x : Int) : Option Int := if 0 ≤ x then (if x ≤ 18446744073709551615 then some (Lib.bitLen x.toNat : Int) else none) else none
theorem len8tab_at (b : Int) (h0 : 0 ≤ b) (h1 : b ≤ 255) (h : b.toNat < Lib.len8tab.size) : ((Lib.len8tab[b.toNat]'h).toNat : Int) = (Lib.bitLen b.toNat : Int) := by
  rw [← Lib.len8_of b h0 h1]
  unfold Lib.len8
  rw [getElem?_pos Lib.len8tab b.toNat h]
  rfl
theorem len64_end (y : Int) (n k : Nat) (h : (Lib.bitLen n : Int) = k + Lib.bitLen y.toNat) (hk : k ≤ 56) (h0 : 0 ≤ y) (h1 : y ≤ 255) (hh : y.toNat < Lib.len8tab.size) :
    wrap64 (k + wrap64 ((Lib.len8tab[y.toNat]'hh).toNat : Int)) = (Lib.bitLen n : Int) := by
  rw [len8tab_at y h0 h1, h]
  have l := Lib.bitLen_le8' y h0 h1
  simp only [wrap64]
  omega
set_option maxHeartbeats 4000000 in
set_option maxRecDepth 100000 in
theorem bits_Len64.calls (x : Int) (r : Int) (w : World) (h : bits_Len64.f x = some r) :
    Calls Try.prog 105 #[.int .u64 x] w fun e w' => e = .returned (.int .i64 r) ∧ Drawn0 w w' := by
  unfold bits_Len64.f at h
  by_cases h0 : 0 ≤ x
  case neg => rw [if_neg h0] at h; cases h
  by_cases h1 : x ≤ 18446744073709551615
  case neg => rw [if_pos h0, if_neg h1] at h; cases h
  rw [if_pos h0, if_pos h1] at h
  obtain rfl := Option.some.inj h
  clear h
  have hsz : Lib.len8tab.size = 256 := by kernel_rfl
  go_enter Try.func105, Try.ntmps105
  go_wp2
  all_goals (go_ret; refine ⟨congrArg Ending.returned (congrArg (Value.int IntKind.i64) ?_), Drawn0.refl _⟩)
  all_goals first
    | (refine len64_end (x / 4294967296 / 65536 / 256) x.toNat 56 ?_ (by omega) (by omega) (by omega) _; rw [Lib.bitLen_shift56 x.toNat (by omega) (by omega), show (x / 4294967296 / 65536 / 256).toNat = x.toNat / 72057594037927936 by omega]; simp)
    | (refine len64_end (x / 4294967296 / 65536) x.toNat 48 ?_ (by omega) (by omega) (by omega) _; rw [Lib.bitLen_shift48 x.toNat (by omega) (by omega), show (x / 4294967296 / 65536).toNat = x.toNat / 281474976710656 by omega]; simp)
    | (refine len64_end (x / 4294967296 / 256) x.toNat 40 ?_ (by omega) (by omega) (by omega) _; rw [Lib.bitLen_shift40 x.toNat (by omega) (by omega), show (x / 4294967296 / 256).toNat = x.toNat / 1099511627776 by omega]; simp)
    | (refine len64_end (x / 4294967296) x.toNat 32 ?_ (by omega) (by omega) (by omega) _; rw [Lib.bitLen_shift32 x.toNat (by omega) (by omega), show (x / 4294967296).toNat = x.toNat / 4294967296 by omega]; simp)
    | (refine len64_end (x / 65536 / 256) x.toNat 24 ?_ (by omega) (by omega) (by omega) _; rw [Lib.bitLen_shift24 x.toNat (by omega) (by omega), show (x / 65536 / 256).toNat = x.toNat / 16777216 by omega]; simp)
    | (refine len64_end (x / 65536) x.toNat 16 ?_ (by omega) (by omega) (by omega) _; rw [Lib.bitLen_shift16 x.toNat (by omega) (by omega), show (x / 65536).toNat = x.toNat / 65536 by omega]; simp)
    | (refine len64_end (x / 256) x.toNat 8 ?_ (by omega) (by omega) (by omega) _; rw [Lib.bitLen_shift8 x.toNat (by omega) (by omega), show (x / 256).toNat = x.toNat / 256 by omega]; simp)
    | (refine Eq.trans ?_ (len64_end x x.toNat 0 (by simp) (by omega) (by omega) (by omega) (by omega)); simp)
    | (trace_state; fail)

/-! ### bits_LeadingZeros64: function 104 -/
def bits_LeadingZeros64.f (a0 : Int) : Option (Int) := (bits_Len64.f a0).bind fun t558 => (some (wrap64 (64 - t558)))
set_option maxHeartbeats 8000000 in
set_option maxRecDepth 100000 in
theorem bits_LeadingZeros64.calls (a0 : Int) (r : Int) (w : World) (h : bits_LeadingZeros64.f a0 = some r) :
    Calls Try.prog 104 #[.int .u64 a0] w fun e w' => e = .returned (.int .i64 r) ∧ Drawn0 w w' := by
  have H : ((bits_Len64.f a0).bind fun t558 => (some (wrap64 (64 - t558)))) = some r := h
  clear h
  replace H := Option.bind_eq_some_iff.mp H
  obtain ⟨t558, A20, H⟩ := H
  replace H : (some (wrap64 (64 - t558))) = some r := H
  have A2 := Aside0.mk A20
  clear A20
  obtain rfl := Option.some.inj H
  go_enter Try.func104, Try.ntmps104
  go_wp2_with (first | ((with_reducible refine gate_callee (f := 105) rfl ?_); refine goesL_ (some 4) rfl rfl Try.func105 (by kernel_rfl) rfl #[.int .u64 a0] rfl (by (try simp only [List.map_toArray, List.map_cons, List.map_nil]); first | done | rfl | (simp only [List.length_drop, List.length_take]; rfl)) ?_; (with_reducible refine (bits_Len64.calls a0 t558 _ A2.out).mono ?_); rintro e w' ⟨rfl, ⟨nd, rfl⟩⟩; refine ⟨_, rfl, ?_⟩))
  go_ret
  exact ⟨by first | rfl | (simp; done) | (simp [*]; done), by repeat (first | exact Drawn0.refl _ | apply Drawn0.step)⟩

end Go.Proofs.Ytjhiccoooaleoaa.P01
