/- phalanxlaw27.DigestPieces, shown whatever comes in: the law's function comes back true, and what came in reads as it did. No conditions. -/
import Derived.Test.YtagkpelolebnoaaShWDigestPiecesa
import Derived.Test.YtagkpelolebnoaaShArg
import Derived.Test.YtagkpelolebnoaaRows
import Derived.ShutString
import Derived.ChangeOld
set_option linter.all false
set_option linter.unusedVariables false
set_option linter.unusedSimpArgs false
set_option autoImplicit false
set_option linter.all false
namespace Go.Proofs.Ytagkpelolebnoaa.digestPieces
open Go.Sh Go.Sh.T
open Go.ChangeShapes Go.WideShapes Go.ChangeAt Go.RowKit
open Go.ChangeMaps (open_string shut_string)
set_option maxRecDepth 100000
theorem own : ownKnob Try.prog.godebug = none := by kernel_rfl
theorem laidOut : laidOutB Try.prog = true := by kernel_rfl
theorem mixed : Try.prog.follows .mixedOrders = true := by kernel_rfl
theorem tblOk : TblOk Try.prog tb := by
  intro f sf h
  unfold tb at h
  split at h
  case _ => cases h; exact ⟨_, false, Try.func5, by kernel_rfl⟩
  case _ => cases h; exact ⟨_, false, Try.func11, by kernel_rfl⟩
  case _ => cases h; exact ⟨_, false, Try.func12, by kernel_rfl⟩
  case _ => cases h; exact ⟨_, false, Try.func14, by kernel_rfl⟩
  case _ => cases h; exact ⟨_, false, Try.func16, by kernel_rfl⟩
  case _ => cases h; exact ⟨_, false, Try.func17, by kernel_rfl⟩
  case _ => cases h; exact ⟨_, false, Try.func18, by kernel_rfl⟩
  case _ => cases h; exact ⟨_, false, Try.func19, by kernel_rfl⟩
  case _ => cases h; exact ⟨_, false, Try.func38, by kernel_rfl⟩
  case _ => cases h; exact ⟨_, false, Try.func39, by kernel_rfl⟩
  case _ => cases h; exact ⟨_, false, Try.func59, by kernel_rfl⟩
  case _ => cases h; exact ⟨_, false, Try.func60, by kernel_rfl⟩
  case _ => cases h; exact ⟨_, false, Try.func61, by kernel_rfl⟩
  case _ => cases h; exact ⟨_, false, Try.func78, by kernel_rfl⟩
  case _ => cases h
theorem lifted (os : Os) (started : os.Started) (H : Type) (enc : TypeId × Value → H) :
    ReturnsInHanded {} Try.checked os 5 .any (Rows.digestPiecesSpec.pre6 enc Try.prog Try.f5 Rows.digestPiecesRow.domain false) (Rows.digestPiecesSpec.post enc Try.prog Try.f5 false true false false) := by
  refine returnsInHanded_of_change_sized (C := Try.checked) own started (by kernel_rfl) Try.func5
    (ChangeSpec.witness6 (enc := enc) (C := Try.checked) false ⟨#[], #[.slice none 0 0], []⟩ 8 (by kernel_rfl) (by kernel_rfl) (by kernel_rfl) (by kernel_rfl)) ?_
  intro W base args ds gs before hval0 hW hcnd hsz0 _
  have hsz : (DataW.weightsEach Try.prog (Try.f5.params.toList ++ Rows.digestPiecesSpec.plain.varTypes Try.prog) (ds ++ gs)).all (· ≤ reachBytes) = true := hsz0
  have hval : ∀ (j : Nat) t v, Try.f5.params[j]? = some t → args[j]? = some v → Value.okWide Try.prog W .any base t v := hval0
  have hW' := hW
  obtain ⟨p, q, hA0, hV, rfl, hfz, hnd⟩ := hW
  have hA : DataW.TrodAll enc Try.prog W 0 (fun _ => true) true Try.f5.params.toList args.toList ds p := hA0
  rw [Try.params5] at hA hval hsz
  obtain ⟨v0, vs0, d0, ds0, p0, q0, hargs, rfl, rfl, h0, r0⟩ := trodAll_cons hA
  obtain ⟨rfl, rfl, rfl⟩ := trodAll_nil r0
  obtain rfl : args = #[v0] := by cases args; simp_all
  obtain ⟨rfl, rfl⟩ := trodVars_none hV
  have lt : ∀ {t v d p}, (∃ fuel, DataW.trod enc Try.prog W 0 (fun _ => true) true fuel t v = some (d, p)) → ∀ x ∈ p, x.block < W.heap.size := fun ⟨m, hm⟩ => DataW.trod_lt m _ _ _ hm
  have wt0 : ∀ n ∈ d0.weights Try.prog 29, n ≤ reachBytes := fun n hn => by have z := List.all_eq_true.1 hsz n (DataW.weights_mem_each (j := 0) (t := 29) rfl rfl n hn); simpa using z
  have hh0 := h0
  obtain ⟨fuel0, hf0⟩ := hh0
  obtain ⟨a0, ok0, len0, k0⟩ := ((reads_rslice Try.underlying29 (by kernel_rfl) (by decide) (reads_slice Try.underlying22 (by kernel_rfl) (by decide) (reads_int Try.underlying5)))).out enc W 0 _ true fuel0 _ _ (fun _ => rfl) hf0 wt0
  obtain ⟨n0, e0, u0, w0⟩ := k0 [] (In.Ok.nil _ _)
  have q0 := w0
  obtain ⟨mz, hlaw⟩ := law27_DigestPieces a0 ok0 (by kernel_rfl) (by kernel_rfl) e0
  refine (call_lim mixed tblOk hlaw (In.sim u0) (VRs.cons (arg_slice Try.underlying29 (hval 0 29 v0 rfl rfl) q0) .nil)).mono fun e W' ⟨u, μ', he, hu, hp⟩ => ?_
  have bel := In.below hp
  subst he
  cases hu
  exact ⟨_, rfl, _, _, _, [], _, [], hW', trodAll_mk1 (shut_bool Try.underlying4 _), (trodAll_cons_mk (Below.trod laidOut (by kernel_rfl) (of_decide_eq_true (by kernel_rfl)) h0 bel (lt h0)) trodAll_mk0), rfl, bel.frame _, fun h => by cases h⟩
theorem over : Rows.digestPiecesRow.holds Try.pinned (OpenSpec.ofChange Rows.digestPiecesSpec) :=
  OpenClaim.holds_of_wide 5 Try.f5 rfl rfl rfl rfl rfl rfl rfl ⟨rfl, rfl, rfl, rfl, rfl⟩ rfl rfl rfl rfl rfl (by kernel_rfl) Try.func5 (by kernel_rfl)
    (of_decide_eq_true (by kernel_rfl)) (by unfold Func.isWrapper; first | (rw [if_pos (by decide +kernel)]; kernel_rfl) | (rw [if_neg (by decide +kernel)]; exact ⟨rfl, rfl⟩))
    (fun os started H enc _ => lifted os started H enc)
theorem proved : Rows.DigestPiecesSaid := over
end Go.Proofs.Ytagkpelolebnoaa.digestPieces
namespace Go.Proofs.Ytagkpelolebnoaa
/-- The row, under a short name, for the claim. -/
theorem digestPieces_holds : Rows.DigestPiecesSaid := digestPieces.proved
end Go.Proofs.Ytagkpelolebnoaa
