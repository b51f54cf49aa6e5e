-- Written by a program of this session (wip/tools/myprint.py) for this claim: each Go function as a Lean function, and what its call does. Lean checks it.
import Derived.Test.YtjehijlpdeadiaaRows
import Derived.Test.YtjehijlpdeadiaaP17bx10
import Derived.Test.YtjehijlpdeadiaaPureSlotsBoxes
import Derived.Test.YtjehijlpdeadiaaOpn
import Derived.WalkKit
import Derived.ProofKit
import Derived.OpenShut
import Derived.ShutString
import Derived.ChangeOld
import Derived.Below
import Derived.SizedLaws
namespace Go.Proofs.Ytjehijlpdeadiaa.slotsBoxes
open Go.ChangeShapes Go.WideShapes Go.ChangeAt Go.RowKit Go.Proofs.Ytjehijlpdeadiaa.Opn Go.Proofs.Ytjehijlpdeadiaa.P17b Go.Proofs.YtjehijlpdeadiaaW.PrintWords
open Go.ChangeMaps (open_string shut_string)
set_option linter.unusedVariables false
set_option linter.unusedSimpArgs false
theorem own : ownKnob Try.prog.godebug = none := by kernel_rfl
theorem laidOut : laidOutB Try.prog = true := by kernel_rfl
theorem o23 : Opens Try.prog 23 k23 okS23 :=
  Opens.imp (opens_iso (opens_struct Try.underlying23 (by kernel_rfl) (fits_cons rfl (by kernel_rfl) (opens_int Try.underlying3) (fits_one rfl (by kernel_rfl) (opens_int Try.underlying3)))) (fun x : S23 => (x.f0, x.f1)) (fun p => (⟨p.1, p.2⟩ : S23)) (fun _ => rfl)) (fun x h => h)
theorem o25 : Opens Try.prog 25 k25 okS25 :=
  Opens.imp (opens_iso (opens_struct Try.underlying25 (by kernel_rfl) (fits_cons rfl (by kernel_rfl) (opens_int Try.underlying3) (fits_one rfl (by kernel_rfl) (opens_int Try.underlying3)))) (fun x : S25 => (x.f0, x.f1)) (fun p => (⟨p.1, p.2⟩ : S25)) (fun _ => rfl)) (fun x h => h)
set_option maxRecDepth 100000 in
theorem lifted (os : Os) (started : os.Started) (H : Type) (enc : TypeId × Value → H) :
    ReturnsInHanded {} Try.checked os 11 .any (Rows.slotsBoxesSpec.pre6 enc Try.prog Try.f11 Rows.slotsBoxesRow.domain false) (Rows.slotsBoxesSpec.post enc Try.prog Try.f11 false true false false) := by
  refine returnsInHanded_of_change_sized (C := Try.checked) own started (by kernel_rfl) Try.func11
    (ChangeSpec.witness6 (enc := enc) (C := Try.checked) false ⟨#[], #[.slice none 0 0, .agg #[.int .i64 0, .int .i64 0]], []⟩ 8 (by kernel_rfl) (by kernel_rfl) (by kernel_rfl) (by kernel_rfl)) ?_
  intro W base args ds gs before hval0 hW hcnd hsz0 _
  have hsz : (DataW.weightsEach Try.prog (Try.f11.params.toList ++ Rows.slotsBoxesSpec.plain.varTypes Try.prog) (ds ++ gs)).all (· ≤ reachBytes) = true := hsz0
  have hval : ∀ (j : Nat) t v, Try.f11.params[j]? = some t → args[j]? = some v → Value.okWide Try.prog W .any base t v := hval0
  have hW' := hW
  obtain ⟨p, q, hA0, hV, rfl, hfz, hnd⟩ := hW
  have hA : DataW.TrodAll enc Try.prog W 0 (fun _ => true) true Try.f11.params.toList args.toList ds p := hA0
  rw [Try.params11] at hA hval hsz
  obtain ⟨v0, vs0, d0, ds0, p0, q0, hargs, rfl, rfl, h0, r0⟩ := trodAll_cons hA
  obtain ⟨v1, vs1, d1, ds1, p1, q1, rfl, rfl, rfl, h1, r1⟩ := trodAll_cons r0
  obtain ⟨rfl, rfl, rfl⟩ := trodAll_nil r1
  obtain rfl : args = #[v0, v1] := by cases args; simp_all
  obtain ⟨rfl, rfl⟩ := trodVars_none hV
  have k0 := h0
  have lt0 : ∀ x ∈ p0, x.block < W.heap.size := by obtain ⟨m, hm⟩ := k0; exact DataW.trod_lt m _ _ _ hm
  have wt0 : ∀ n ∈ d0.weights Try.prog 41, n ≤ reachBytes := fun n hn => by have z := List.all_eq_true.1 hsz n (DataW.weights_mem_each (j := 0) (t := 41) rfl rfl n hn); simpa using z
  obtain ⟨b0, len0, cap0, rfl⟩ := okWide_slice Try.underlying41 (hval 0 41 v0 rfl rfl)
  obtain ⟨fuel0, hf0⟩ := h0
  obtain ⟨l0, ⟨A0, c0, he0, hc0, hr0⟩, ok0⟩ := ((Opens.imp (ok' := fun l : List (S23) => l.length ≤ maxLen ∧ l.length * 16 ≤ 140737488351232 ∧ ∀ a_ ∈ l, okES23 a_) (opens_slice Try.underlying41 (by kernel_rfl) o23) (fun l h => ⟨h.1, by have z := h.2.1; rw [show Try.prog.bytesOf 23 = 16 from by kernel_rfl] at z; exact z, h.2.2⟩))).out enc W 0 _ _ fuel0 _ _ hf0 wt0
  simp only [Value.cells, List.cons.injEq, Value.slice.injEq, and_true] at he0
  obtain ⟨rfl, rfl, rfl⟩ := he0
  have k1 := h1
  have lt1 : ∀ x ∈ p1, x.block < W.heap.size := by obtain ⟨m, hm⟩ := k1; exact DataW.trod_lt m _ _ _ hm
  have wt1 : ∀ n ∈ d1.weights Try.prog 25, n ≤ reachBytes := fun n hn => by have z := List.all_eq_true.1 hsz n (DataW.weights_mem_each (j := 1) (t := 25) rfl rfl n hn); simpa using z
  obtain ⟨cs1, rfl, hz1⟩ := okWide_struct Try.underlying25 (hval 1 25 v1 rfl rfl)
  obtain ⟨fuel1, hf1⟩ := h1
  obtain ⟨L1, hL1⟩ : ∃ L, cs1.toList = L := ⟨_, rfl⟩
  have hg1 : DataW.trod enc Try.prog W 0 (fun _ => true) true fuel1 25 L1 = some (d1, p1) := by rw [← hL1]; simpa only [Value.cells] using hf1
  obtain ⟨x1, hk1, ok1⟩ := o25.out enc W 0 _ _ fuel1 _ _ hg1 wt1
  obtain ⟨_, _, rfl, rfl, rfl⟩ := hk1
  obtain rfl : cs1 = #[.int .i64 x1.f0, .int .i64 x1.f1] := Array.toList_inj.1 (hL1.trans rfl)
  obtain ⟨k, hp⟩ := Pure.SlotsBoxes (l0) (x1.f0) (x1.f1) (ok0.1) (ok0.2.1) (ok0.2.2) (ok1.1) (ok1.2)
  refine (P17b.phalanxlaw17_SlotsBoxes.calls (A0 := _) (c0 := _) (l0 := l0) (hr0 := hr0) (hc0 := hc0) (a1_0 := x1.f0) (a1_1 := x1.f1) (k := k) (r := true) (w := W) (h := hp)).mono fun e W' ⟨he, bel0⟩ => ?_
  have bel : Below W.heap.size W W' := bel0
  subst he
  exact ⟨_, rfl, _, _, _, [], _, [], hW', trodAll_mk1 (shut_bool Try.underlying4 _), (trodAll_cons_mk (Below.trod laidOut (by kernel_rfl) (of_decide_eq_true (by kernel_rfl)) k0 bel lt0) (trodAll_cons_mk (Below.trod laidOut (by kernel_rfl) (of_decide_eq_true (by kernel_rfl)) k1 bel lt1) trodAll_mk0)), rfl, bel.frame _, fun h => by cases h⟩
theorem over : Rows.slotsBoxesRow.holds Try.pinned (OpenSpec.ofChange Rows.slotsBoxesSpec) :=
  OpenClaim.holds_of_wide 11 Try.f11 rfl rfl rfl rfl rfl rfl rfl ⟨rfl, rfl, rfl, rfl, rfl⟩ rfl rfl rfl rfl rfl (by kernel_rfl) Try.func11 (by kernel_rfl)
    (of_decide_eq_true (by kernel_rfl)) (by unfold Func.isWrapper; first | (rw [if_pos (by decide +kernel)]; kernel_rfl) | (rw [if_neg (by decide +kernel)]; exact ⟨rfl, rfl⟩))
    (fun os started H enc _ => lifted os started H enc)
theorem proved : Rows.SlotsBoxesSaid := over
#print axioms proved
end Go.Proofs.Ytjehijlpdeadiaa.slotsBoxes
namespace Go.Proofs.Ytjehijlpdeadiaa
/-- The row, under a short name, for the claim. -/
theorem slotsBoxes_holds : Rows.SlotsBoxesSaid := slotsBoxes.proved
end Go.Proofs.Ytjehijlpdeadiaa
