/- phalanxlaw08.PartsUpdates, shown whatever comes in: the law's function comes back true, and what came in reads as it did. No conditions. -/
import Derived.Test.YtepecbjlfekkaaaShWPartsUpdatesd
import Derived.Test.YtepecbjlfekkaaaShArg
import Derived.Test.YtepecbjlfekkaaaRows
import Derived.ShutString
import Derived.ChangeOld
set_option linter.all false
set_option linter.unusedVariables false
set_option linter.unusedSimpArgs false
set_option autoImplicit false
set_option linter.all false
namespace Go.Proofs.Ytepecbjlfekkaaa.partsUpdates
open Go.Sh Go.Sh.T
open Go.ChangeShapes Go.WideShapes Go.ChangeAt Go.RowKit
open Go.ChangeMaps (open_string shut_string)
set_option maxRecDepth 100000
theorem own : ownKnob Try.prog.godebug = none := by kernel_rfl
theorem laidOut : laidOutB Try.prog = true := by kernel_rfl
theorem mixed : Try.prog.follows .mixedOrders = true := by kernel_rfl
theorem tblOk : TblOk Try.prog tb := by
  intro f sf h
  unfold tb at h
  split at h
  case _ => cases h; exact ⟨_, false, Try.func10, by kernel_rfl⟩
  case _ => cases h; exact ⟨_, false, Try.func11, by kernel_rfl⟩
  case _ => cases h; exact ⟨_, false, Try.func12, by kernel_rfl⟩
  case _ => cases h; exact ⟨_, false, Try.func13, by kernel_rfl⟩
  case _ => cases h; exact ⟨_, false, Try.func14, by kernel_rfl⟩
  case _ => cases h; exact ⟨_, false, Try.func16, by kernel_rfl⟩
  case _ => cases h; exact ⟨_, false, Try.func18, by kernel_rfl⟩
  case _ => cases h; exact ⟨_, false, Try.func24, by kernel_rfl⟩
  case _ => cases h; exact ⟨_, false, Try.func30, by kernel_rfl⟩
  case _ => cases h; exact ⟨_, false, Try.func31, by kernel_rfl⟩
  case _ => cases h; exact ⟨_, false, Try.func34, by kernel_rfl⟩
  case _ => cases h; exact ⟨_, false, Try.func35, by kernel_rfl⟩
  case _ => cases h; exact ⟨_, false, Try.func36, by kernel_rfl⟩
  case _ => cases h; exact ⟨_, false, Try.func37, by kernel_rfl⟩
  case _ => cases h; exact ⟨_, false, Try.func38, by kernel_rfl⟩
  case _ => cases h; exact ⟨_, false, Try.func39, by kernel_rfl⟩
  case _ => cases h; exact ⟨_, false, Try.func40, by kernel_rfl⟩
  case _ => cases h; exact ⟨_, false, Try.func41, by kernel_rfl⟩
  case _ => cases h; exact ⟨_, false, Try.func42, by kernel_rfl⟩
  case _ => cases h; exact ⟨_, false, Try.func43, by kernel_rfl⟩
  case _ => cases h; exact ⟨_, false, Try.func44, by kernel_rfl⟩
  case _ => cases h; exact ⟨_, false, Try.func45, by kernel_rfl⟩
  case _ => cases h; exact ⟨_, true, Try.func46, by kernel_rfl⟩
  case _ => cases h; exact ⟨_, false, Try.func47, by kernel_rfl⟩
  case _ => cases h; exact ⟨_, false, Try.func48, by kernel_rfl⟩
  case _ => cases h; exact ⟨_, false, Try.func49, by kernel_rfl⟩
  case _ => cases h; exact ⟨_, false, Try.func50, by kernel_rfl⟩
  case _ => cases h; exact ⟨_, false, Try.func53, by kernel_rfl⟩
  case _ => cases h; exact ⟨_, false, Try.func56, by kernel_rfl⟩
  case _ => cases h; exact ⟨_, false, Try.func60, by kernel_rfl⟩
  case _ => cases h; exact ⟨_, false, Try.func66, by kernel_rfl⟩
  case _ => cases h; exact ⟨_, false, Try.func67, by kernel_rfl⟩
  case _ => cases h; exact ⟨_, false, Try.func68, by kernel_rfl⟩
  case _ => cases h; exact ⟨_, false, Try.func69, by kernel_rfl⟩
  case _ => cases h; exact ⟨_, false, Try.func70, by kernel_rfl⟩
  case _ => cases h; exact ⟨_, false, Try.func71, by kernel_rfl⟩
  case _ => cases h; exact ⟨_, false, Try.func72, by kernel_rfl⟩
  case _ => cases h; exact ⟨_, false, Try.func73, by kernel_rfl⟩
  case _ => cases h; exact ⟨_, false, Try.func74, by kernel_rfl⟩
  case _ => cases h; exact ⟨_, false, Try.func75, by kernel_rfl⟩
  case _ => cases h; exact ⟨_, false, Try.func76, by kernel_rfl⟩
  case _ => cases h; exact ⟨_, false, Try.func77, by kernel_rfl⟩
  case _ => cases h; exact ⟨_, false, Try.func78, by kernel_rfl⟩
  case _ => cases h; exact ⟨_, false, Try.func79, by kernel_rfl⟩
  case _ => cases h; exact ⟨_, false, Try.func80, by kernel_rfl⟩
  case _ => cases h; exact ⟨_, false, Try.func81, by kernel_rfl⟩
  case _ => cases h; exact ⟨_, false, Try.func82, by kernel_rfl⟩
  case _ => cases h; exact ⟨_, false, Try.func83, by kernel_rfl⟩
  case _ => cases h; exact ⟨_, false, Try.func84, by kernel_rfl⟩
  case _ => cases h; exact ⟨_, false, Try.func85, by kernel_rfl⟩
  case _ => cases h; exact ⟨_, false, Try.func86, by kernel_rfl⟩
  case _ => cases h; exact ⟨_, false, Try.func87, by kernel_rfl⟩
  case _ => cases h; exact ⟨_, false, Try.func88, by kernel_rfl⟩
  case _ => cases h; exact ⟨_, false, Try.func89, by kernel_rfl⟩
  case _ => cases h; exact ⟨_, false, Try.func90, by kernel_rfl⟩
  case _ => cases h; exact ⟨_, false, Try.func91, by kernel_rfl⟩
  case _ => cases h; exact ⟨_, false, Try.func93, by kernel_rfl⟩
  case _ => cases h; exact ⟨_, false, Try.func96, by kernel_rfl⟩
  case _ => cases h; exact ⟨_, false, Try.func97, by kernel_rfl⟩
  case _ => cases h; exact ⟨_, false, Try.func98, by kernel_rfl⟩
  case _ => cases h; exact ⟨_, false, Try.func99, by kernel_rfl⟩
  case _ => cases h; exact ⟨_, false, Try.func100, by kernel_rfl⟩
  case _ => cases h; exact ⟨_, false, Try.func101, by kernel_rfl⟩
  case _ => cases h; exact ⟨_, false, Try.func102, by kernel_rfl⟩
  case _ => cases h; exact ⟨_, false, Try.func103, by kernel_rfl⟩
  case _ => cases h; exact ⟨_, false, Try.func104, by kernel_rfl⟩
  case _ => cases h; exact ⟨_, false, Try.func105, by kernel_rfl⟩
  case _ => cases h; exact ⟨_, false, Try.func106, by kernel_rfl⟩
  case _ => cases h; exact ⟨_, false, Try.func107, by kernel_rfl⟩
  case _ => cases h; exact ⟨_, false, Try.func108, by kernel_rfl⟩
  case _ => cases h; exact ⟨_, false, Try.func109, by kernel_rfl⟩
  case _ => cases h; exact ⟨_, false, Try.func110, by kernel_rfl⟩
  case _ => cases h; exact ⟨_, false, Try.func111, by kernel_rfl⟩
  case _ => cases h; exact ⟨_, false, Try.func112, by kernel_rfl⟩
  case _ => cases h; exact ⟨_, false, Try.func116, by kernel_rfl⟩
  case _ => cases h; exact ⟨_, false, Try.func117, by kernel_rfl⟩
  case _ => cases h
theorem lifted (os : Os) (started : os.Started) (H : Type) (enc : TypeId × Value → H) :
    ReturnsInHanded {} Try.checked os 10 .any (Rows.partsUpdatesSpec.pre6 enc Try.prog Try.f10 Rows.partsUpdatesRow.domain false) (Rows.partsUpdatesSpec.post enc Try.prog Try.f10 false true false false) := by
  refine returnsInHanded_of_change_sized (C := Try.checked) own started (by kernel_rfl) Try.func10
    (ChangeSpec.witness6 (enc := enc) (C := Try.checked) false ⟨#[], #[.agg #[.int .i64 0, .int .i64 0, .slice none 0 0, .slice none 0 0], .agg #[.int .i64 0, .int .i64 0], .slice none 0 0], []⟩ 8 (by kernel_rfl) (by kernel_rfl) (by kernel_rfl) (by kernel_rfl)) ?_
  intro W base args ds gs before hval0 hW hcnd hsz0 _
  have hsz : (DataW.weightsEach Try.prog (Try.f10.params.toList ++ Rows.partsUpdatesSpec.plain.varTypes Try.prog) (ds ++ gs)).all (· ≤ reachBytes) = true := hsz0
  have hval : ∀ (j : Nat) t v, Try.f10.params[j]? = some t → args[j]? = some v → Value.okWide Try.prog W .any base t v := hval0
  have hW' := hW
  obtain ⟨p, q, hA0, hV, rfl, hfz, hnd⟩ := hW
  have hA : DataW.TrodAll enc Try.prog W 0 (fun _ => true) true Try.f10.params.toList args.toList ds p := hA0
  rw [Try.params10] at hA hval hsz
  obtain ⟨v0, vs0, d0, ds0, p0, q0, hargs, rfl, rfl, h0, r0⟩ := trodAll_cons hA
  obtain ⟨v1, vs1, d1, ds1, p1, q1, rfl, rfl, rfl, h1, r1⟩ := trodAll_cons r0
  obtain ⟨v2, vs2, d2, ds2, p2, q2, rfl, rfl, rfl, h2, r2⟩ := trodAll_cons r1
  obtain ⟨rfl, rfl, rfl⟩ := trodAll_nil r2
  obtain rfl : args = #[v0, v1, v2] := by cases args; simp_all
  obtain ⟨rfl, rfl⟩ := trodVars_none hV
  have lt : ∀ {t v d p}, (∃ fuel, DataW.trod enc Try.prog W 0 (fun _ => true) true fuel t v = some (d, p)) → ∀ x ∈ p, x.block < W.heap.size := fun ⟨m, hm⟩ => DataW.trod_lt m _ _ _ hm
  have wt0 : ∀ n ∈ d0.weights Try.prog 25, n ≤ reachBytes := fun n hn => by have z := List.all_eq_true.1 hsz n (DataW.weights_mem_each (j := 0) (t := 25) rfl rfl n hn); simpa using z
  have hh0 := h0
  obtain ⟨fuel0, hf0⟩ := hh0
  obtain ⟨a0, ok0, len0, k0⟩ := ((reads_rstruct Try.underlying25 (by kernel_rfl) (rfits_cons rfl (by kernel_rfl) (Reads.flat (reads_int Try.underlying3)) (rfits_cons rfl (by kernel_rfl) (Reads.flat (reads_int Try.underlying3)) (rfits_cons rfl (by kernel_rfl) (reads_slice Try.underlying22 (by kernel_rfl) (by decide) (reads_int Try.underlying5)) (rfits_one rfl (by kernel_rfl) (reads_slice Try.underlying23 (by kernel_rfl) (by decide) (reads_struct Try.underlying85 (by kernel_rfl) (ffits_cons rfl (by kernel_rfl) (reads_int Try.underlying3) (ffits_one rfl (by kernel_rfl) (reads_struct Try.underlying50 (by kernel_rfl) (ffits_cons rfl (by kernel_rfl) (reads_struct Try.underlying29 (by kernel_rfl) (ffits_cons rfl (by kernel_rfl) (reads_int Try.underlying3) (ffits_one rfl (by kernel_rfl) (reads_int Try.underlying3)))) (ffits_cons rfl (by kernel_rfl) (reads_int Try.underlying3) (ffits_one rfl (by kernel_rfl) (reads_int Try.underlying3))))))))))))))).out enc W 0 _ true fuel0 _ _ (fun _ => rfl) hf0 wt0
  obtain ⟨n0, e0, u0, w0⟩ := k0 [] (In.Ok.nil _ _)
  have wt1 : ∀ n ∈ d1.weights Try.prog 27, n ≤ reachBytes := fun n hn => by have z := List.all_eq_true.1 hsz n (DataW.weights_mem_each (j := 1) (t := 27) rfl rfl n hn); simpa using z
  have hh1 := h1
  obtain ⟨fuel1, hf1⟩ := hh1
  obtain ⟨a1, ok1, len1, k1⟩ := ((Reads.flat (reads_struct Try.underlying27 (by kernel_rfl) (ffits_cons rfl (by kernel_rfl) (reads_int Try.underlying3) (ffits_one rfl (by kernel_rfl) (reads_int Try.underlying3)))))).out enc W 0 _ true fuel1 _ _ (fun _ => rfl) hf1 wt1
  obtain ⟨n1, e1, u1, w1⟩ := k1 ([] ++ n0) u0
  have wt2 : ∀ n ∈ d2.weights Try.prog 81, n ≤ reachBytes := fun n hn => by have z := List.all_eq_true.1 hsz n (DataW.weights_mem_each (j := 2) (t := 81) rfl rfl n hn); simpa using z
  have hh2 := h2
  obtain ⟨fuel2, hf2⟩ := hh2
  obtain ⟨a2, ok2, len2, k2⟩ := ((reads_slice Try.underlying81 (by kernel_rfl) (by decide) (reads_struct Try.underlying87 (by kernel_rfl) (ffits_cons rfl (by kernel_rfl) (reads_bool Try.underlying4) (ffits_one rfl (by kernel_rfl) (reads_struct Try.underlying85 (by kernel_rfl) (ffits_cons rfl (by kernel_rfl) (reads_int Try.underlying3) (ffits_one rfl (by kernel_rfl) (reads_struct Try.underlying50 (by kernel_rfl) (ffits_cons rfl (by kernel_rfl) (reads_struct Try.underlying29 (by kernel_rfl) (ffits_cons rfl (by kernel_rfl) (reads_int Try.underlying3) (ffits_one rfl (by kernel_rfl) (reads_int Try.underlying3)))) (ffits_cons rfl (by kernel_rfl) (reads_int Try.underlying3) (ffits_one rfl (by kernel_rfl) (reads_int Try.underlying3))))))))))))).out enc W 0 _ true fuel2 _ _ (fun _ => rfl) hf2 wt2
  obtain ⟨n2, e2, u2, w2⟩ := k2 (([] ++ n0) ++ n1) u1
  have q0 := ((w0.sub fun _ _ h => In.mu_app (k := n1) h).sub fun _ _ h => In.mu_app (k := n2) h)
  have q1 := (w1.sub fun _ _ h => In.mu_app (k := n2) h)
  have q2 := w2
  obtain ⟨mz, hlaw⟩ := law08_PartsUpdates a0 a1 a2 ok0.2.2.1 ok0.2.2.2 (by kernel_rfl) ok2 e0 e2
  refine (call_lim mixed tblOk hlaw (In.sim u2) (VRs.cons (arg_agg Try.underlying25 (hval 0 25 v0 rfl rfl) q0) (VRs.cons (arg_agg Try.underlying27 (hval 1 27 v1 rfl rfl) q1) (VRs.cons (arg_slice Try.underlying81 (hval 2 81 v2 rfl rfl) q2) .nil)))).mono fun e W' ⟨u, μ', he, hu, hp⟩ => ?_
  have bel := In.below hp
  subst he
  cases hu
  exact ⟨_, rfl, _, _, _, [], _, [], hW', trodAll_mk1 (shut_bool Try.underlying4 _), (trodAll_cons_mk (Below.trod laidOut (by kernel_rfl) (of_decide_eq_true (by kernel_rfl)) h0 bel (lt h0)) (trodAll_cons_mk (Below.trod laidOut (by kernel_rfl) (of_decide_eq_true (by kernel_rfl)) h1 bel (lt h1)) (trodAll_cons_mk (Below.trod laidOut (by kernel_rfl) (of_decide_eq_true (by kernel_rfl)) h2 bel (lt h2)) trodAll_mk0))), rfl, bel.frame _, fun h => by cases h⟩
theorem over : Rows.partsUpdatesRow.holds Try.pinned (OpenSpec.ofChange Rows.partsUpdatesSpec) :=
  OpenClaim.holds_of_wide 10 Try.f10 rfl rfl rfl rfl rfl rfl rfl ⟨rfl, rfl, rfl, rfl, rfl⟩ rfl rfl rfl rfl rfl (by kernel_rfl) Try.func10 (by kernel_rfl)
    (of_decide_eq_true (by kernel_rfl)) (by unfold Func.isWrapper; first | (rw [if_pos (by decide +kernel)]; kernel_rfl) | (rw [if_neg (by decide +kernel)]; exact ⟨rfl, rfl⟩))
    (fun os started H enc _ => lifted os started H enc)
theorem proved : Rows.PartsUpdatesSaid := over
end Go.Proofs.Ytepecbjlfekkaaa.partsUpdates
namespace Go.Proofs.Ytepecbjlfekkaaa
/-- The row, under a short name, for the claim. -/
theorem partsUpdates_holds : Rows.PartsUpdatesSaid := partsUpdates.proved
end Go.Proofs.Ytepecbjlfekkaaa
