/- phalanxlaw07.ClearNobody, shown whatever comes in: the law's function comes back true, and what came in reads as it did. No conditions. -/
import Derived.Test.YtkfgphiegkdohaaShWClearNobodya
import Derived.Test.YtkfgphiegkdohaaShArg
import Derived.Test.YtkfgphiegkdohaaRows
import Derived.ShutString
import Derived.ChangeOld
set_option linter.all false
set_option linter.unusedVariables false
set_option linter.unusedSimpArgs false
set_option autoImplicit false
set_option linter.all false
namespace Go.Proofs.Ytkfgphiegkdohaa.clearNobody
open Go.Sh Go.Sh.T
open Go.ChangeShapes Go.WideShapes Go.ChangeAt Go.RowKit
open Go.ChangeMaps (open_string shut_string)
set_option maxRecDepth 100000
theorem own : ownKnob Try.prog.godebug = none := by kernel_rfl
theorem laidOut : laidOutB Try.prog = true := by kernel_rfl
theorem mixed : Try.prog.follows .mixedOrders = true := by kernel_rfl
theorem tblOk : TblOk Try.prog tb := by
  intro f sf h
  unfold tb at h
  split at h
  case _ => cases h; exact ⟨_, Try.func10, by kernel_rfl⟩
  case _ => cases h; exact ⟨_, Try.func12, by kernel_rfl⟩
  case _ => cases h; exact ⟨_, Try.func14, by kernel_rfl⟩
  case _ => cases h; exact ⟨_, Try.func16, by kernel_rfl⟩
  case _ => cases h; exact ⟨_, Try.func20, by kernel_rfl⟩
  case _ => cases h; exact ⟨_, Try.func22, by kernel_rfl⟩
  case _ => cases h; exact ⟨_, Try.func23, by kernel_rfl⟩
  case _ => cases h; exact ⟨_, Try.func26, by kernel_rfl⟩
  case _ => cases h; exact ⟨_, Try.func27, by kernel_rfl⟩
  case _ => cases h; exact ⟨_, Try.func30, by kernel_rfl⟩
  case _ => cases h; exact ⟨_, Try.func40, by kernel_rfl⟩
  case _ => cases h; exact ⟨_, Try.func42, by kernel_rfl⟩
  case _ => cases h; exact ⟨_, Try.func43, by kernel_rfl⟩
  case _ => cases h; exact ⟨_, Try.func45, by kernel_rfl⟩
  case _ => cases h; exact ⟨_, Try.func47, by kernel_rfl⟩
  case _ => cases h; exact ⟨_, Try.func48, by kernel_rfl⟩
  case _ => cases h; exact ⟨_, Try.func49, by kernel_rfl⟩
  case _ => cases h; exact ⟨_, Try.func50, by kernel_rfl⟩
  case _ => cases h; exact ⟨_, Try.func51, by kernel_rfl⟩
  case _ => cases h; exact ⟨_, Try.func55, by kernel_rfl⟩
  case _ => cases h; exact ⟨_, Try.func56, by kernel_rfl⟩
  case _ => cases h; exact ⟨_, Try.func66, by kernel_rfl⟩
  case _ => cases h; exact ⟨_, Try.func69, by kernel_rfl⟩
  case _ => cases h; exact ⟨_, Try.func71, by kernel_rfl⟩
  case _ => cases h; exact ⟨_, Try.func72, by kernel_rfl⟩
  case _ => cases h; exact ⟨_, Try.func73, by kernel_rfl⟩
  case _ => cases h; exact ⟨_, Try.func74, by kernel_rfl⟩
  case _ => cases h; exact ⟨_, Try.func77, by kernel_rfl⟩
  case _ => cases h; exact ⟨_, Try.func79, by kernel_rfl⟩
  case _ => cases h; exact ⟨_, Try.func81, by kernel_rfl⟩
  case _ => cases h; exact ⟨_, Try.func86, by kernel_rfl⟩
  case _ => cases h; exact ⟨_, Try.func88, by kernel_rfl⟩
  case _ => cases h; exact ⟨_, Try.func90, by kernel_rfl⟩
  case _ => cases h; exact ⟨_, Try.func94, by kernel_rfl⟩
  case _ => cases h
theorem lifted (os : Os) (started : os.Started) (H : Type) (enc : TypeId × Value → H) :
    ReturnsInHanded {} Try.checked os 10 .any (Rows.clearNobodySpec.pre6 enc Try.prog Try.f10 Rows.clearNobodyRow.domain false) (Rows.clearNobodySpec.post enc Try.prog Try.f10 false true false false) := by
  refine returnsInHanded_of_change_sized (C := Try.checked) own started (by kernel_rfl) Try.func10
    (ChangeSpec.witness6 (enc := enc) (C := Try.checked) false ⟨#[], #[.agg #[.int .i64 0, .int .i64 0]], []⟩ 8 (by kernel_rfl) (by kernel_rfl) (by kernel_rfl) (by kernel_rfl)) ?_
  intro W base args ds gs before hval0 hW hcnd hsz0 _
  have hsz : (DataW.weightsEach Try.prog (Try.f10.params.toList ++ Rows.clearNobodySpec.plain.varTypes Try.prog) (ds ++ gs)).all (· ≤ reachBytes) = true := hsz0
  have hval : ∀ (j : Nat) t v, Try.f10.params[j]? = some t → args[j]? = some v → Value.okWide Try.prog W .any base t v := hval0
  have hW' := hW
  obtain ⟨p, q, hA0, hV, rfl, hfz, hnd⟩ := hW
  have hA : DataW.TrodAll enc Try.prog W 0 (fun _ => true) true Try.f10.params.toList args.toList ds p := hA0
  rw [Try.params10] at hA hval hsz
  obtain ⟨v0, vs0, d0, ds0, p0, q0, hargs, rfl, rfl, h0, r0⟩ := trodAll_cons hA
  obtain ⟨rfl, rfl, rfl⟩ := trodAll_nil r0
  obtain rfl : args = #[v0] := by cases args; simp_all
  obtain ⟨rfl, rfl⟩ := trodVars_none hV
  have lt : ∀ {t v d p}, (∃ fuel, DataW.trod enc Try.prog W 0 (fun _ => true) true fuel t v = some (d, p)) → ∀ x ∈ p, x.block < W.heap.size := fun ⟨m, hm⟩ => DataW.trod_lt m _ _ _ hm
  have wt0 : ∀ n ∈ d0.weights Try.prog 25, n ≤ reachBytes := fun n hn => by have z := List.all_eq_true.1 hsz n (DataW.weights_mem_each (j := 0) (t := 25) rfl rfl n hn); simpa using z
  have hh0 := h0
  obtain ⟨fuel0, hf0⟩ := hh0
  obtain ⟨a0, ok0, len0, k0⟩ := ((Reads.flat (reads_struct Try.underlying25 (by kernel_rfl) (ffits_cons rfl (by kernel_rfl) (reads_int Try.underlying3) (ffits_one rfl (by kernel_rfl) (reads_int Try.underlying3)))))).out enc W 0 _ true fuel0 _ _ (fun _ => rfl) hf0 wt0
  obtain ⟨n0, e0, u0, w0⟩ := k0 [] (In.Ok.nil _ _)
  have q0 := w0
  obtain ⟨mz, hlaw⟩ := law07_ClearNobody a0 _
  refine (call_lim mixed tblOk hlaw (In.sim u0) (VRs.cons (arg_agg Try.underlying25 (hval 0 25 v0 rfl rfl) q0) .nil)).mono fun e W' ⟨u, μ', he, hu, hp⟩ => ?_
  have bel := In.below hp
  subst he
  cases hu
  exact ⟨_, rfl, _, _, _, [], _, [], hW', trodAll_mk1 (shut_bool Try.underlying4 _), (trodAll_cons_mk (Below.trod laidOut (by kernel_rfl) (of_decide_eq_true (by kernel_rfl)) h0 bel (lt h0)) trodAll_mk0), rfl, bel.frame _, fun h => by cases h⟩
theorem over : Rows.clearNobodyRow.holds Try.pinned (OpenSpec.ofChange Rows.clearNobodySpec) :=
  OpenClaim.holds_of_wide 10 Try.f10 rfl rfl rfl rfl rfl rfl rfl ⟨rfl, rfl, rfl, rfl, rfl⟩ rfl rfl rfl rfl rfl (by kernel_rfl) Try.func10 (by kernel_rfl)
    (of_decide_eq_true (by kernel_rfl)) (by unfold Func.isWrapper; first | (rw [if_pos (by decide +kernel)]; kernel_rfl) | (rw [if_neg (by decide +kernel)]; exact ⟨rfl, rfl⟩))
    (fun os started H enc _ => lifted os started H enc)
theorem proved : Rows.ClearNobodySaid := over
end Go.Proofs.Ytkfgphiegkdohaa.clearNobody
namespace Go.Proofs.Ytkfgphiegkdohaa
/-- The row, under a short name, for the claim. -/
theorem clearNobody_holds : Rows.ClearNobodySaid := clearNobody.proved
end Go.Proofs.Ytkfgphiegkdohaa
