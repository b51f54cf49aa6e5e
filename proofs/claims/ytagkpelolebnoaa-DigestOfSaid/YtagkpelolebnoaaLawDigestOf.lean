/- phalanxlaw27.DigestOf, shown whatever comes in: the law's function comes back true, and what came in reads as it did. No conditions. -/
import Derived.Test.YtagkpelolebnoaaShWDigestOfa
import Derived.Test.YtagkpelolebnoaaShArg
import Derived.Test.YtagkpelolebnoaaRows
import Derived.ShutString
import Derived.ChangeOld
set_option linter.all false
set_option linter.unusedVariables false
set_option linter.unusedSimpArgs false
set_option autoImplicit false
set_option linter.all false
namespace Go.Proofs.Ytagkpelolebnoaa.digestOf
open Go.Sh Go.Sh.T
open Go.ChangeShapes Go.WideShapes Go.ChangeAt Go.RowKit
open Go.ChangeMaps (open_string shut_string)
set_option maxRecDepth 100000
theorem own : ownKnob Try.prog.godebug = none := by kernel_rfl
theorem laidOut : laidOutB Try.prog = true := by kernel_rfl
theorem mixed : Try.prog.follows .mixedOrders = true := by kernel_rfl
theorem tblOk : TblOk Try.prog tb := by
  intro f sf h
  unfold tb at h
  split at h
  case _ => cases h; exact ⟨_, false, Try.func3, by kernel_rfl⟩
  case _ => cases h; exact ⟨_, false, Try.func11, by kernel_rfl⟩
  case _ => cases h; exact ⟨_, false, Try.func12, by kernel_rfl⟩
  case _ => cases h; exact ⟨_, false, Try.func13, by kernel_rfl⟩
  case _ => cases h; exact ⟨_, false, Try.func14, by kernel_rfl⟩
  case _ => cases h; exact ⟨_, false, Try.func16, by kernel_rfl⟩
  case _ => cases h; exact ⟨_, false, Try.func17, by kernel_rfl⟩
  case _ => cases h; exact ⟨_, false, Try.func19, by kernel_rfl⟩
  case _ => cases h; exact ⟨_, false, Try.func35, by kernel_rfl⟩
  case _ => cases h; exact ⟨_, false, Try.func36, by kernel_rfl⟩
  case _ => cases h; exact ⟨_, false, Try.func37, by kernel_rfl⟩
  case _ => cases h; exact ⟨_, false, Try.func38, by kernel_rfl⟩
  case _ => cases h; exact ⟨_, false, Try.func39, by kernel_rfl⟩
  case _ => cases h; exact ⟨_, false, Try.func57, by kernel_rfl⟩
  case _ => cases h; exact ⟨_, false, Try.func58, by kernel_rfl⟩
  case _ => cases h; exact ⟨_, false, Try.func59, by kernel_rfl⟩
  case _ => cases h; exact ⟨_, false, Try.func60, by kernel_rfl⟩
  case _ => cases h; exact ⟨_, false, Try.func61, by kernel_rfl⟩
  case _ => cases h; exact ⟨_, false, Try.func77, by kernel_rfl⟩
  case _ => cases h; exact ⟨_, false, Try.func78, by kernel_rfl⟩
  case _ => cases h; exact ⟨_, false, Try.func82, by kernel_rfl⟩
  case _ => cases h; exact ⟨_, false, Try.func83, by kernel_rfl⟩
  case _ => cases h; exact ⟨_, false, Try.func84, by kernel_rfl⟩
  case _ => cases h
theorem lifted (os : Os) (started : os.Started) (H : Type) (enc : TypeId × Value → H) :
    ReturnsInHanded {} Try.checked os 3 .any (Rows.digestOfSpec.pre6 enc Try.prog Try.f3 Rows.digestOfRow.domain false) (Rows.digestOfSpec.post enc Try.prog Try.f3 false true false false) := by
  refine returnsInHanded_of_change_sized (C := Try.checked) own started (by kernel_rfl) Try.func3
    (ChangeSpec.witness6 (enc := enc) (C := Try.checked) false ⟨#[], #[.slice none 0 0], []⟩ 8 (by kernel_rfl) (by kernel_rfl) (by kernel_rfl) (by kernel_rfl)) ?_
  intro W base args ds gs before hval0 hW hcnd hsz0 _
  have hsz : (DataW.weightsEach Try.prog (Try.f3.params.toList ++ Rows.digestOfSpec.plain.varTypes Try.prog) (ds ++ gs)).all (· ≤ reachBytes) = true := hsz0
  have hval : ∀ (j : Nat) t v, Try.f3.params[j]? = some t → args[j]? = some v → Value.okWide Try.prog W .any base t v := hval0
  have hW' := hW
  obtain ⟨p, q, hA0, hV, rfl, hfz, hnd⟩ := hW
  have hA : DataW.TrodAll enc Try.prog W 0 (fun _ => true) true Try.f3.params.toList args.toList ds p := hA0
  rw [Try.params3] at hA hval hsz
  obtain ⟨v0, vs0, d0, ds0, p0, q0, hargs, rfl, rfl, h0, r0⟩ := trodAll_cons hA
  obtain ⟨rfl, rfl, rfl⟩ := trodAll_nil r0
  obtain rfl : args = #[v0] := by cases args; simp_all
  obtain ⟨rfl, rfl⟩ := trodVars_none hV
  have lt : ∀ {t v d p}, (∃ fuel, DataW.trod enc Try.prog W 0 (fun _ => true) true fuel t v = some (d, p)) → ∀ x ∈ p, x.block < W.heap.size := fun ⟨m, hm⟩ => DataW.trod_lt m _ _ _ hm
  have wt0 : ∀ n ∈ d0.weights Try.prog 22, n ≤ reachBytes := fun n hn => by have z := List.all_eq_true.1 hsz n (DataW.weights_mem_each (j := 0) (t := 22) rfl rfl n hn); simpa using z
  have hh0 := h0
  obtain ⟨fuel0, hf0⟩ := hh0
  obtain ⟨a0, ok0, len0, k0⟩ := ((reads_slice Try.underlying22 (by kernel_rfl) (by decide) (reads_int Try.underlying5))).out enc W 0 _ true fuel0 _ _ (fun _ => rfl) hf0 wt0
  obtain ⟨n0, e0, u0, w0⟩ := k0 [] (In.Ok.nil _ _)
  have q0 := w0
  obtain ⟨mz, hlaw⟩ := law27_DigestOf a0 ok0 e0
  refine (call_lim mixed tblOk hlaw (In.sim u0) (VRs.cons (arg_slice Try.underlying22 (hval 0 22 v0 rfl rfl) q0) .nil)).mono fun e W' ⟨u, μ', he, hu, hp⟩ => ?_
  have bel := In.below hp
  subst he
  cases hu
  exact ⟨_, rfl, _, _, _, [], _, [], hW', trodAll_mk1 (shut_bool Try.underlying4 _), (trodAll_cons_mk (Below.trod laidOut (by kernel_rfl) (of_decide_eq_true (by kernel_rfl)) h0 bel (lt h0)) trodAll_mk0), rfl, bel.frame _, fun h => by cases h⟩
theorem over : Rows.digestOfRow.holds Try.pinned (OpenSpec.ofChange Rows.digestOfSpec) :=
  OpenClaim.holds_of_wide 3 Try.f3 rfl rfl rfl rfl rfl rfl rfl ⟨rfl, rfl, rfl, rfl, rfl⟩ rfl rfl rfl rfl rfl (by kernel_rfl) Try.func3 (by kernel_rfl)
    (of_decide_eq_true (by kernel_rfl)) (by unfold Func.isWrapper; first | (rw [if_pos (by decide +kernel)]; kernel_rfl) | (rw [if_neg (by decide +kernel)]; exact ⟨rfl, rfl⟩))
    (fun os started H enc _ => lifted os started H enc)
theorem proved : Rows.DigestOfSaid := over
end Go.Proofs.Ytagkpelolebnoaa.digestOf
namespace Go.Proofs.Ytagkpelolebnoaa
/-- The row, under a short name, for the claim. -/
theorem digestOf_holds : Rows.DigestOfSaid := digestOf.proved
end Go.Proofs.Ytagkpelolebnoaa
