/- phalanxlaw16.CacheActs, shown whatever comes in: the law's function comes back true, and what came in reads as it did. No conditions. -/
import Derived.Test.YtjehijlpdeadiaaShWCacheActsa
import Derived.Test.YtjehijlpdeadiaaShArg
import Derived.Test.YtjehijlpdeadiaaRows
import Derived.ShutString
import Derived.ChangeOld
set_option linter.all false
set_option linter.unusedVariables false
set_option linter.unusedSimpArgs false
set_option autoImplicit false
set_option linter.all false
namespace Go.Proofs.Ytjehijlpdeadiaa.cacheActs
open Go.Sh Go.Sh.T
open Go.ChangeShapes Go.WideShapes Go.ChangeAt Go.RowKit
open Go.ChangeMaps (open_string shut_string)
set_option maxRecDepth 100000
theorem own : ownKnob Try.prog.godebug = none := by kernel_rfl
theorem laidOut : laidOutB Try.prog = true := by kernel_rfl
theorem mixed : Try.prog.follows .mixedOrders = true := by kernel_rfl
theorem tblOk : TblOk Try.prog tb := by
  intro f sf h
  unfold tb at h
  split at h
  case _ => cases h; exact ⟨_, false, Try.func7, by kernel_rfl⟩
  case _ => cases h; exact ⟨_, false, Try.func12, by kernel_rfl⟩
  case _ => cases h; exact ⟨_, false, Try.func13, by kernel_rfl⟩
  case _ => cases h; exact ⟨_, false, Try.func14, by kernel_rfl⟩
  case _ => cases h; exact ⟨_, false, Try.func15, by kernel_rfl⟩
  case _ => cases h; exact ⟨_, false, Try.func16, by kernel_rfl⟩
  case _ => cases h; exact ⟨_, false, Try.func32, by kernel_rfl⟩
  case _ => cases h; exact ⟨_, false, Try.func33, by kernel_rfl⟩
  case _ => cases h; exact ⟨_, false, Try.func34, by kernel_rfl⟩
  case _ => cases h; exact ⟨_, false, Try.func35, by kernel_rfl⟩
  case _ => cases h; exact ⟨_, false, Try.func36, by kernel_rfl⟩
  case _ => cases h; exact ⟨_, false, Try.func37, by kernel_rfl⟩
  case _ => cases h; exact ⟨_, false, Try.func41, by kernel_rfl⟩
  case _ => cases h; exact ⟨_, false, Try.func50, by kernel_rfl⟩
  case _ => cases h; exact ⟨_, false, Try.func51, by kernel_rfl⟩
  case _ => cases h; exact ⟨_, false, Try.func56, by kernel_rfl⟩
  case _ => cases h
theorem lifted (os : Os) (started : os.Started) (H : Type) (enc : TypeId × Value → H) :
    ReturnsInHanded {} Try.checked os 7 .any (Rows.cacheActsSpec.pre6 enc Try.prog Try.f7 Rows.cacheActsRow.domain false) (Rows.cacheActsSpec.post enc Try.prog Try.f7 false true false false) := by
  refine returnsInHanded_of_change_sized (C := Try.checked) own started (by kernel_rfl) Try.func7
    (ChangeSpec.witness6 (enc := enc) (C := Try.checked) false ⟨#[], #[.int .i64 0, .slice none 0 0], []⟩ 8 (by kernel_rfl) (by kernel_rfl) (by kernel_rfl) (by kernel_rfl)) ?_
  intro W base args ds gs before hval0 hW hcnd hsz0 _
  have hsz : (DataW.weightsEach Try.prog (Try.f7.params.toList ++ Rows.cacheActsSpec.plain.varTypes Try.prog) (ds ++ gs)).all (· ≤ reachBytes) = true := hsz0
  have hval : ∀ (j : Nat) t v, Try.f7.params[j]? = some t → args[j]? = some v → Value.okWide Try.prog W .any base t v := hval0
  have hW' := hW
  obtain ⟨p, q, hA0, hV, rfl, hfz, hnd⟩ := hW
  have hA : DataW.TrodAll enc Try.prog W 0 (fun _ => true) true Try.f7.params.toList args.toList ds p := hA0
  rw [Try.params7] at hA hval hsz
  obtain ⟨v0, vs0, d0, ds0, p0, q0, hargs, rfl, rfl, h0, r0⟩ := trodAll_cons hA
  obtain ⟨v1, vs1, d1, ds1, p1, q1, rfl, rfl, rfl, h1, r1⟩ := trodAll_cons r0
  obtain ⟨rfl, rfl, rfl⟩ := trodAll_nil r1
  obtain rfl : args = #[v0, v1] := by cases args; simp_all
  obtain ⟨rfl, rfl⟩ := trodVars_none hV
  have lt : ∀ {t v d p}, (∃ fuel, DataW.trod enc Try.prog W 0 (fun _ => true) true fuel t v = some (d, p)) → ∀ x ∈ p, x.block < W.heap.size := fun ⟨m, hm⟩ => DataW.trod_lt m _ _ _ hm
  have wt0 : ∀ n ∈ d0.weights Try.prog 3, n ≤ reachBytes := fun n hn => by have z := List.all_eq_true.1 hsz n (DataW.weights_mem_each (j := 0) (t := 3) rfl rfl n hn); simpa using z
  have hh0 := h0
  obtain ⟨fuel0, hf0⟩ := hh0
  obtain ⟨a0, ok0, len0, k0⟩ := ((Reads.flat (reads_int Try.underlying3))).out enc W 0 _ true fuel0 _ _ (fun _ => rfl) hf0 wt0
  obtain ⟨n0, e0, u0, w0⟩ := k0 [] (In.Ok.nil _ _)
  have wt1 : ∀ n ∈ d1.weights Try.prog 64, n ≤ reachBytes := fun n hn => by have z := List.all_eq_true.1 hsz n (DataW.weights_mem_each (j := 1) (t := 64) rfl rfl n hn); simpa using z
  have hh1 := h1
  obtain ⟨fuel1, hf1⟩ := hh1
  obtain ⟨a1, ok1, len1, k1⟩ := ((reads_rslice Try.underlying64 (by kernel_rfl) (by decide) (reads_rstruct Try.underlying69 (by kernel_rfl) (rfits_cons rfl (by kernel_rfl) (Reads.flat (reads_bool Try.underlying4)) (rfits_cons rfl (by kernel_rfl) (Reads.flat (reads_struct Try.underlying27 (by kernel_rfl) (ffits_cons rfl (by kernel_rfl) (reads_struct Try.underlying23 (by kernel_rfl) (ffits_cons rfl (by kernel_rfl) (reads_int Try.underlying3) (ffits_one rfl (by kernel_rfl) (reads_int Try.underlying3)))) (ffits_cons rfl (by kernel_rfl) (reads_struct Try.underlying25 (by kernel_rfl) (ffits_cons rfl (by kernel_rfl) (reads_int Try.underlying3) (ffits_one rfl (by kernel_rfl) (reads_int Try.underlying3)))) (ffits_one rfl (by kernel_rfl) (reads_struct Try.underlying25 (by kernel_rfl) (ffits_cons rfl (by kernel_rfl) (reads_int Try.underlying3) (ffits_one rfl (by kernel_rfl) (reads_int Try.underlying3))))))))) (rfits_cons rfl (by kernel_rfl) (Reads.flat (reads_int Try.underlying3)) (rfits_one rfl (by kernel_rfl) (reads_rstruct Try.underlying35 (by kernel_rfl) (rfits_cons rfl (by kernel_rfl) (Reads.flat (reads_int Try.underlying3)) (rfits_one rfl (by kernel_rfl) (reads_slice Try.underlying28 (by kernel_rfl) (by decide) (reads_struct Try.underlying25 (by kernel_rfl) (ffits_cons rfl (by kernel_rfl) (reads_int Try.underlying3) (ffits_one rfl (by kernel_rfl) (reads_int Try.underlying3))))))))))))))).out enc W 0 _ true fuel1 _ _ (fun _ => rfl) hf1 wt1
  obtain ⟨n1, e1, u1, w1⟩ := k1 ([] ++ n0) u0
  have q0 := (w0.sub fun _ _ h => In.mu_app (k := n1) h)
  have q1 := w1
  obtain ⟨mz, hlaw⟩ := law16_CacheActs a0 a1 ok1 (fun a h => h.2.2.2.2) (by kernel_rfl) (by kernel_rfl) e1
  refine (call_lim mixed tblOk hlaw (In.sim u1) (VRs.cons (arg_int Try.underlying3 (hval 0 3 v0 rfl rfl) q0) (VRs.cons (arg_slice Try.underlying64 (hval 1 64 v1 rfl rfl) q1) .nil))).mono fun e W' ⟨u, μ', he, hu, hp⟩ => ?_
  have bel := In.below hp
  subst he
  cases hu
  exact ⟨_, rfl, _, _, _, [], _, [], hW', trodAll_mk1 (shut_bool Try.underlying4 _), (trodAll_cons_mk (Below.trod laidOut (by kernel_rfl) (of_decide_eq_true (by kernel_rfl)) h0 bel (lt h0)) (trodAll_cons_mk (Below.trod laidOut (by kernel_rfl) (of_decide_eq_true (by kernel_rfl)) h1 bel (lt h1)) trodAll_mk0)), rfl, bel.frame _, fun h => by cases h⟩
theorem over : Rows.cacheActsRow.holds Try.pinned (OpenSpec.ofChange Rows.cacheActsSpec) :=
  OpenClaim.holds_of_wide 7 Try.f7 rfl rfl rfl rfl rfl rfl rfl ⟨rfl, rfl, rfl, rfl, rfl⟩ rfl rfl rfl rfl rfl (by kernel_rfl) Try.func7 (by kernel_rfl)
    (of_decide_eq_true (by kernel_rfl)) (by unfold Func.isWrapper; first | (rw [if_pos (by decide +kernel)]; kernel_rfl) | (rw [if_neg (by decide +kernel)]; exact ⟨rfl, rfl⟩))
    (fun os started H enc _ => lifted os started H enc)
theorem proved : Rows.CacheActsSaid := over
end Go.Proofs.Ytjehijlpdeadiaa.cacheActs
namespace Go.Proofs.Ytjehijlpdeadiaa
/-- The row, under a short name, for the claim. -/
theorem cacheActs_holds : Rows.CacheActsSaid := cacheActs.proved
end Go.Proofs.Ytjehijlpdeadiaa
