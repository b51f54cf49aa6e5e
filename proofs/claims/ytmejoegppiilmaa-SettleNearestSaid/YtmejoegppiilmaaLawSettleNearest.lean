/- phalanxlaw19.SettleNearest, shown whatever comes in: the law's function comes back true, and what came in reads as it did. No conditions. -/
import Derived.Test.YtmejoegppiilmaaShWSettleNearestc
import Derived.Test.YtmejoegppiilmaaShArg
import Derived.Test.YtmejoegppiilmaaRows
import Derived.ShutString
import Derived.ChangeOld
set_option linter.all false
set_option linter.unusedVariables false
set_option linter.unusedSimpArgs false
set_option autoImplicit false
set_option linter.all false
namespace Go.Proofs.Ytmejoegppiilmaa.settleNearest
open Go.Sh Go.Sh.T
open Go.ChangeShapes Go.WideShapes Go.ChangeAt Go.RowKit
open Go.ChangeMaps (open_string shut_string)
set_option maxRecDepth 100000
theorem own : ownKnob Try.prog.godebug = none := by kernel_rfl
theorem laidOut : laidOutB Try.prog = true := by kernel_rfl
theorem mixed : Try.prog.follows .mixedOrders = true := by kernel_rfl
theorem tblOk : TblOk Try.prog tb := by
  intro f sf h
  unfold tb at h
  split at h
  case _ => cases h; exact ⟨_, false, Try.func5, by kernel_rfl⟩
  case _ => cases h; exact ⟨_, false, Try.func11, by kernel_rfl⟩
  case _ => cases h; exact ⟨_, false, Try.func18, by kernel_rfl⟩
  case _ => cases h; exact ⟨_, false, Try.func19, by kernel_rfl⟩
  case _ => cases h; exact ⟨_, false, Try.func20, by kernel_rfl⟩
  case _ => cases h; exact ⟨_, false, Try.func21, by kernel_rfl⟩
  case _ => cases h; exact ⟨_, false, Try.func23, by kernel_rfl⟩
  case _ => cases h; exact ⟨_, false, Try.func24, by kernel_rfl⟩
  case _ => cases h; exact ⟨_, false, Try.func25, by kernel_rfl⟩
  case _ => cases h; exact ⟨_, false, Try.func26, by kernel_rfl⟩
  case _ => cases h; exact ⟨_, false, Try.func27, by kernel_rfl⟩
  case _ => cases h; exact ⟨_, false, Try.func29, by kernel_rfl⟩
  case _ => cases h; exact ⟨_, false, Try.func31, by kernel_rfl⟩
  case _ => cases h; exact ⟨_, false, Try.func36, by kernel_rfl⟩
  case _ => cases h; exact ⟨_, false, Try.func37, by kernel_rfl⟩
  case _ => cases h; exact ⟨_, false, Try.func38, by kernel_rfl⟩
  case _ => cases h; exact ⟨_, false, Try.func39, by kernel_rfl⟩
  case _ => cases h; exact ⟨_, false, Try.func42, by kernel_rfl⟩
  case _ => cases h; exact ⟨_, false, Try.func44, by kernel_rfl⟩
  case _ => cases h; exact ⟨_, false, Try.func45, by kernel_rfl⟩
  case _ => cases h; exact ⟨_, false, Try.func46, by kernel_rfl⟩
  case _ => cases h; exact ⟨_, false, Try.func48, by kernel_rfl⟩
  case _ => cases h; exact ⟨_, false, Try.func49, by kernel_rfl⟩
  case _ => cases h; exact ⟨_, false, Try.func50, by kernel_rfl⟩
  case _ => cases h; exact ⟨_, false, Try.func51, by kernel_rfl⟩
  case _ => cases h; exact ⟨_, false, Try.func52, by kernel_rfl⟩
  case _ => cases h; exact ⟨_, false, Try.func53, by kernel_rfl⟩
  case _ => cases h; exact ⟨_, false, Try.func54, by kernel_rfl⟩
  case _ => cases h; exact ⟨_, false, Try.func55, by kernel_rfl⟩
  case _ => cases h; exact ⟨_, true, Try.func56, by kernel_rfl⟩
  case _ => cases h; exact ⟨_, false, Try.func57, by kernel_rfl⟩
  case _ => cases h; exact ⟨_, false, Try.func58, by kernel_rfl⟩
  case _ => cases h; exact ⟨_, false, Try.func59, by kernel_rfl⟩
  case _ => cases h; exact ⟨_, false, Try.func60, by kernel_rfl⟩
  case _ => cases h; exact ⟨_, false, Try.func61, by kernel_rfl⟩
  case _ => cases h; exact ⟨_, false, Try.func62, by kernel_rfl⟩
  case _ => cases h; exact ⟨_, false, Try.func63, by kernel_rfl⟩
  case _ => cases h; exact ⟨_, false, Try.func64, by kernel_rfl⟩
  case _ => cases h; exact ⟨_, false, Try.func65, by kernel_rfl⟩
  case _ => cases h; exact ⟨_, false, Try.func66, by kernel_rfl⟩
  case _ => cases h; exact ⟨_, false, Try.func67, by kernel_rfl⟩
  case _ => cases h; exact ⟨_, false, Try.func70, by kernel_rfl⟩
  case _ => cases h; exact ⟨_, false, Try.func71, by kernel_rfl⟩
  case _ => cases h; exact ⟨_, false, Try.func72, by kernel_rfl⟩
  case _ => cases h; exact ⟨_, false, Try.func73, by kernel_rfl⟩
  case _ => cases h; exact ⟨_, false, Try.func74, by kernel_rfl⟩
  case _ => cases h; exact ⟨_, false, Try.func75, by kernel_rfl⟩
  case _ => cases h; exact ⟨_, false, Try.func76, by kernel_rfl⟩
  case _ => cases h; exact ⟨_, false, Try.func77, by kernel_rfl⟩
  case _ => cases h; exact ⟨_, false, Try.func84, by kernel_rfl⟩
  case _ => cases h; exact ⟨_, false, Try.func85, by kernel_rfl⟩
  case _ => cases h; exact ⟨_, false, Try.func86, by kernel_rfl⟩
  case _ => cases h; exact ⟨_, false, Try.func87, by kernel_rfl⟩
  case _ => cases h; exact ⟨_, false, Try.func88, by kernel_rfl⟩
  case _ => cases h; exact ⟨_, false, Try.func89, by kernel_rfl⟩
  case _ => cases h; exact ⟨_, false, Try.func90, by kernel_rfl⟩
  case _ => cases h; exact ⟨_, false, Try.func91, by kernel_rfl⟩
  case _ => cases h; exact ⟨_, false, Try.func92, by kernel_rfl⟩
  case _ => cases h; exact ⟨_, false, Try.func93, by kernel_rfl⟩
  case _ => cases h; exact ⟨_, false, Try.func94, by kernel_rfl⟩
  case _ => cases h; exact ⟨_, false, Try.func95, by kernel_rfl⟩
  case _ => cases h; exact ⟨_, false, Try.func96, by kernel_rfl⟩
  case _ => cases h; exact ⟨_, false, Try.func97, by kernel_rfl⟩
  case _ => cases h; exact ⟨_, false, Try.func98, by kernel_rfl⟩
  case _ => cases h; exact ⟨_, false, Try.func99, by kernel_rfl⟩
  case _ => cases h; exact ⟨_, false, Try.func100, by kernel_rfl⟩
  case _ => cases h; exact ⟨_, false, Try.func101, by kernel_rfl⟩
  case _ => cases h; exact ⟨_, false, Try.func102, by kernel_rfl⟩
  case _ => cases h; exact ⟨_, false, Try.func103, by kernel_rfl⟩
  case _ => cases h; exact ⟨_, false, Try.func104, by kernel_rfl⟩
  case _ => cases h; exact ⟨_, false, Try.func105, by kernel_rfl⟩
  case _ => cases h; exact ⟨_, false, Try.func106, by kernel_rfl⟩
  case _ => cases h; exact ⟨_, false, Try.func113, by kernel_rfl⟩
  case _ => cases h; exact ⟨_, false, Try.func114, by kernel_rfl⟩
  case _ => cases h; exact ⟨_, false, Try.func116, by kernel_rfl⟩
  case _ => cases h; exact ⟨_, false, Try.func117, by kernel_rfl⟩
  case _ => cases h; exact ⟨_, false, Try.func118, by kernel_rfl⟩
  case _ => cases h; exact ⟨_, false, Try.func119, by kernel_rfl⟩
  case _ => cases h; exact ⟨_, false, Try.func120, by kernel_rfl⟩
  case _ => cases h
theorem lifted (os : Os) (started : os.Started) (H : Type) (enc : TypeId × Value → H) :
    ReturnsInHanded {} Try.checked os 5 .any (Rows.settleNearestSpec.pre6 enc Try.prog Try.f5 Rows.settleNearestRow.domain false) (Rows.settleNearestSpec.post enc Try.prog Try.f5 false true false false) := by
  refine returnsInHanded_of_change_sized (C := Try.checked) own started (by kernel_rfl) Try.func5
    (ChangeSpec.witness6 (enc := enc) (C := Try.checked) false ⟨#[], #[.agg #[.int .i64 0, .int .i64 0, .slice none 0 0, .slice none 0 0], .agg #[.int .i64 0, .int .i64 0, .int .i64 0, .int .i64 0, .int .i64 0, .int .i64 0, .slice none 0 0]], []⟩ 8 (by kernel_rfl) (by kernel_rfl) (by kernel_rfl) (by kernel_rfl)) ?_
  intro W base args ds gs before hval0 hW hcnd hsz0 _
  have hsz : (DataW.weightsEach Try.prog (Try.f5.params.toList ++ Rows.settleNearestSpec.plain.varTypes Try.prog) (ds ++ gs)).all (· ≤ reachBytes) = true := hsz0
  have hval : ∀ (j : Nat) t v, Try.f5.params[j]? = some t → args[j]? = some v → Value.okWide Try.prog W .any base t v := hval0
  have hW' := hW
  obtain ⟨p, q, hA0, hV, rfl, hfz, hnd⟩ := hW
  have hA : DataW.TrodAll enc Try.prog W 0 (fun _ => true) true Try.f5.params.toList args.toList ds p := hA0
  rw [Try.params5] at hA hval hsz
  obtain ⟨v0, vs0, d0, ds0, p0, q0, hargs, rfl, rfl, h0, r0⟩ := trodAll_cons hA
  obtain ⟨v1, vs1, d1, ds1, p1, q1, rfl, rfl, rfl, h1, r1⟩ := trodAll_cons r0
  obtain ⟨rfl, rfl, rfl⟩ := trodAll_nil r1
  obtain rfl : args = #[v0, v1] := by cases args; simp_all
  obtain ⟨rfl, rfl⟩ := trodVars_none hV
  have lt : ∀ {t v d p}, (∃ fuel, DataW.trod enc Try.prog W 0 (fun _ => true) true fuel t v = some (d, p)) → ∀ x ∈ p, x.block < W.heap.size := fun ⟨m, hm⟩ => DataW.trod_lt m _ _ _ hm
  have wt0 : ∀ n ∈ d0.weights Try.prog 25, n ≤ reachBytes := fun n hn => by have z := List.all_eq_true.1 hsz n (DataW.weights_mem_each (j := 0) (t := 25) rfl rfl n hn); simpa using z
  have hh0 := h0
  obtain ⟨fuel0, hf0⟩ := hh0
  obtain ⟨a0, ok0, len0, k0⟩ := ((reads_rstruct Try.underlying25 (by kernel_rfl) (rfits_cons rfl (by kernel_rfl) (Reads.flat (reads_int Try.underlying3)) (rfits_cons rfl (by kernel_rfl) (Reads.flat (reads_int Try.underlying3)) (rfits_cons rfl (by kernel_rfl) (reads_slice Try.underlying22 (by kernel_rfl) (by decide) (reads_int Try.underlying5)) (rfits_one rfl (by kernel_rfl) (reads_slice Try.underlying23 (by kernel_rfl) (by decide) (reads_struct Try.underlying124 (by kernel_rfl) (ffits_cons rfl (by kernel_rfl) (reads_int Try.underlying3) (ffits_one rfl (by kernel_rfl) (reads_struct Try.underlying31 (by kernel_rfl) (ffits_cons rfl (by kernel_rfl) (reads_struct Try.underlying29 (by kernel_rfl) (ffits_cons rfl (by kernel_rfl) (reads_int Try.underlying3) (ffits_one rfl (by kernel_rfl) (reads_int Try.underlying3)))) (ffits_cons rfl (by kernel_rfl) (reads_int Try.underlying3) (ffits_one rfl (by kernel_rfl) (reads_int Try.underlying3))))))))))))))).out enc W 0 _ true fuel0 _ _ (fun _ => rfl) hf0 wt0
  obtain ⟨n0, e0, u0, w0⟩ := k0 [] (In.Ok.nil _ _)
  have wt1 : ∀ n ∈ d1.weights Try.prog 62, n ≤ reachBytes := fun n hn => by have z := List.all_eq_true.1 hsz n (DataW.weights_mem_each (j := 1) (t := 62) rfl rfl n hn); simpa using z
  have hh1 := h1
  obtain ⟨fuel1, hf1⟩ := hh1
  obtain ⟨a1, ok1, len1, k1⟩ := ((reads_rstruct Try.underlying62 (by kernel_rfl) (rfits_cons rfl (by kernel_rfl) (Reads.flat (reads_struct Try.underlying27 (by kernel_rfl) (ffits_cons rfl (by kernel_rfl) (reads_int Try.underlying3) (ffits_one rfl (by kernel_rfl) (reads_int Try.underlying3))))) (rfits_cons rfl (by kernel_rfl) (Reads.flat (reads_struct Try.underlying29 (by kernel_rfl) (ffits_cons rfl (by kernel_rfl) (reads_int Try.underlying3) (ffits_one rfl (by kernel_rfl) (reads_int Try.underlying3))))) (rfits_cons rfl (by kernel_rfl) (Reads.flat (reads_struct Try.underlying29 (by kernel_rfl) (ffits_cons rfl (by kernel_rfl) (reads_int Try.underlying3) (ffits_one rfl (by kernel_rfl) (reads_int Try.underlying3))))) (rfits_one rfl (by kernel_rfl) (reads_slice Try.underlying60 (by kernel_rfl) (by decide) (reads_struct Try.underlying31 (by kernel_rfl) (ffits_cons rfl (by kernel_rfl) (reads_struct Try.underlying29 (by kernel_rfl) (ffits_cons rfl (by kernel_rfl) (reads_int Try.underlying3) (ffits_one rfl (by kernel_rfl) (reads_int Try.underlying3)))) (ffits_cons rfl (by kernel_rfl) (reads_int Try.underlying3) (ffits_one rfl (by kernel_rfl) (reads_int Try.underlying3)))))))))))).out enc W 0 _ true fuel1 _ _ (fun _ => rfl) hf1 wt1
  obtain ⟨n1, e1, u1, w1⟩ := k1 ([] ++ n0) u0
  have q0 := (w0.sub fun _ _ h => In.mu_app (k := n1) h)
  have q1 := w1
  obtain ⟨mz, hlaw⟩ := law19_SettleNearest a0 a1 ok0.2.2.1 ok0.2.2.2 (by kernel_rfl) ok1.2.2.2 (by kernel_rfl) e0 e1
  refine (call_lim mixed tblOk hlaw (In.sim u1) (VRs.cons (arg_agg Try.underlying25 (hval 0 25 v0 rfl rfl) q0) (VRs.cons (arg_agg Try.underlying62 (hval 1 62 v1 rfl rfl) q1) .nil))).mono fun e W' ⟨u, μ', he, hu, hp⟩ => ?_
  have bel := In.below hp
  subst he
  cases hu
  exact ⟨_, rfl, _, _, _, [], _, [], hW', trodAll_mk1 (shut_bool Try.underlying4 _), (trodAll_cons_mk (Below.trod laidOut (by kernel_rfl) (of_decide_eq_true (by kernel_rfl)) h0 bel (lt h0)) (trodAll_cons_mk (Below.trod laidOut (by kernel_rfl) (of_decide_eq_true (by kernel_rfl)) h1 bel (lt h1)) trodAll_mk0)), rfl, bel.frame _, fun h => by cases h⟩
theorem over : Rows.settleNearestRow.holds Try.pinned (OpenSpec.ofChange Rows.settleNearestSpec) :=
  OpenClaim.holds_of_wide 5 Try.f5 rfl rfl rfl rfl rfl rfl rfl ⟨rfl, rfl, rfl, rfl, rfl⟩ rfl rfl rfl rfl rfl (by kernel_rfl) Try.func5 (by kernel_rfl)
    (of_decide_eq_true (by kernel_rfl)) (by unfold Func.isWrapper; first | (rw [if_pos (by decide +kernel)]; kernel_rfl) | (rw [if_neg (by decide +kernel)]; exact ⟨rfl, rfl⟩))
    (fun os started H enc _ => lifted os started H enc)
theorem proved : Rows.SettleNearestSaid := over
end Go.Proofs.Ytmejoegppiilmaa.settleNearest
namespace Go.Proofs.Ytmejoegppiilmaa
/-- The row, under a short name, for the claim. -/
theorem settleNearest_holds : Rows.SettleNearestSaid := settleNearest.proved
end Go.Proofs.Ytmejoegppiilmaa
