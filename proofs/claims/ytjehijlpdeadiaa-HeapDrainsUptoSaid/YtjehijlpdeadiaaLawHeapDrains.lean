/- phalanxlaw09.HeapDrains, shown whatever comes in: the law's function comes back true, and what came in reads as it did. No conditions. -/
import Derived.Test.YtjehijlpdeadiaaShWHeapDrainsa
import Derived.Test.YtjehijlpdeadiaaShArg
import Derived.Test.YtjehijlpdeadiaaRows
import Derived.ShutString
import Derived.ChangeOld
import Derived.JoinedCond
import Derived.Deep.CondSized
import Derived.Deep.Slices
set_option linter.all false
set_option linter.unusedVariables false
set_option linter.unusedSimpArgs false
set_option autoImplicit false
set_option linter.all false
namespace Go.Proofs.Ytjehijlpdeadiaa.heapDrains
open Go.Sh Go.Sh.T
open Go.ChangeShapes Go.WideShapes Go.ChangeAt Go.RowKit
open Go.ChangeMaps (open_string shut_string)
set_option maxRecDepth 100000
theorem own : ownKnob Try.prog.godebug = none := by kernel_rfl
theorem laidOut : laidOutB Try.prog = true := by kernel_rfl
theorem mixed : Try.prog.follows .mixedOrders = true := by kernel_rfl
theorem tblOk : TblOk Try.prog tb := by
  intro f sf h
  unfold tb at h
  split at h
  case _ => cases h; exact ⟨_, false, Try.func10, by kernel_rfl⟩
  case _ => cases h; exact ⟨_, false, Try.func24, by kernel_rfl⟩
  case _ => cases h; exact ⟨_, false, Try.func25, by kernel_rfl⟩
  case _ => cases h; exact ⟨_, false, Try.func26, by kernel_rfl⟩
  case _ => cases h; exact ⟨_, false, Try.func28, by kernel_rfl⟩
  case _ => cases h; exact ⟨_, false, Try.func29, by kernel_rfl⟩
  case _ => cases h; exact ⟨_, false, Try.func30, by kernel_rfl⟩
  case _ => cases h; exact ⟨_, false, Try.func31, by kernel_rfl⟩
  case _ => cases h; exact ⟨_, false, Try.func38, by kernel_rfl⟩
  case _ => cases h; exact ⟨_, false, Try.func49, by kernel_rfl⟩
  case _ => cases h; exact ⟨_, false, Try.func52, by kernel_rfl⟩
  case _ => cases h
theorem short {H : Type} {enc : TypeId × Value → H} {W : World} {spare : Nat → Bool} {held : Bool} {α : Type} {dd : Fl α} {t e : TypeId} {cs : List Value} {d : DataW H} {p : List MemPlace} {a : Sl α} {n : Nat} {μ : Mu} {ds : List (DataW H)} (ht : Try.prog.underlying t = some (.slice e)) (h : ∃ fuel, DataW.trod enc Try.prog W 0 spare held fuel t cs = some (d, p)) (hv : VRs μ [slV dd a n] cs) (h0 : ∀ c, a.cap = some c → a.l.length ≤ c) (h1 : a.cap = none → a.l = []) (hd : d ∈ ds) (hk : Rows.uptoSmall H ds = true) : a.l.length ≤ 1048576 := by
  have hb : Rows.uptoBulkAll ds ≤ 1048576 := of_decide_eq_true hk
  have part : ∀ {l : List (DataW H)}, d ∈ l → Rows.uptoBulk d ≤ Rows.uptoBulkAll l := by
    intro l hl
    induction l with
    | nil => cases hl
    | cons x r ih =>
      simp only [Rows.uptoBulkAll]
      rcases List.mem_cons.1 hl with rfl | hl
      · omega
      · have := ih hl; omega
  have one : ∀ q : DataW H, 1 ≤ Rows.uptoBulk q := by
    intro q
    cases q with
    | lit l => cases l <;> simp [Rows.uptoBulk]
    | _ => simp [Rows.uptoBulk]
  have len : ∀ l : List (DataW H), l.length ≤ Rows.uptoBulkAll l := by
    intro l
    induction l with
    | nil => simp [Rows.uptoBulkAll]
    | cons x r ih => have := one x; simp only [Rows.uptoBulkAll, List.length_cons]; omega
  have hp := part hd
  obtain ⟨fuel, hf⟩ := h
  obtain ⟨l, cap⟩ := a
  dsimp only at h0 h1 ⊢
  have vrsl : ∀ {b : Bk} {off n z : Nat} {cap : Option Nat} {a : Option Addr} {m k : Nat}, VR μ (.sl b off n cap z) (.slice a m k) → m = n ∧ a ≠ none := by intro _ _ _ _ _ _ _ _ h; cases h <;> simp
  cases cap with
  | none => rw [h1 rfl]; simp
  | some c =>
    cases c with
    | zero => have := h0 0 rfl; omega
    | succ c =>
      rcases Deep.open_slice ht hf with ⟨he, _⟩ | ⟨a, len', cap, m, n', D, Pl, he, hb1, hl, hm, hmm, hx, hel⟩
      · subst he
        cases hv with
        | cons hv _ => simp only [slV] at hv; exact absurd rfl (vrsl hv).2
      · subst he
        have e1 : len' = l.length := by
          cases hv with
          | cons hv _ => simp only [slV] at hv; exact (vrsl hv).1
        have e2 : d = .slice ((List.range len').map D) ((List.range (m - len')).map fun j => D (len' + j)) := congrArg Prod.fst hx
        rw [e2] at hp
        simp only [Rows.uptoBulk] at hp
        have := len ((List.range len').map D)
        simp only [List.length_map, List.length_range] at this
        omega
theorem contract (H : Type) (enc : TypeId × Value → H) (W : World) (base : Nat) (args : Array Value) (ds gs : List (DataW H)) (before : List MemPlace)
    (hval0 : ∀ (j : Nat) t v, Try.f10.params[j]? = some t → args[j]? = some v → Value.okWide Try.prog W .any base t v)
    (hW : DataW.Whole enc Try.prog Try.f10.params.toList Rows.heapDrainsSpec.vars false W args.toList ds gs before) (hk0 : Rows.uptoSmall H (ds ++ gs) = true)
    (hsz0 : (DataW.weightsEach Try.prog (Try.f10.params.toList ++ Rows.heapDrainsSpec.plain.varTypes Try.prog) (ds ++ gs)).all (· ≤ reachBytes) = true) :
    Calls Try.prog 10 args W fun e W' => ∃ v, e = .returned v ∧ Rows.heapDrainsSpec.post enc Try.prog Try.f10 false true false false W args v W' := by
  have hsz : (DataW.weightsEach Try.prog (Try.f10.params.toList ++ Rows.heapDrainsSpec.plain.varTypes Try.prog) (ds ++ gs)).all (· ≤ reachBytes) = true := hsz0
  have hval : ∀ (j : Nat) t v, Try.f10.params[j]? = some t → args[j]? = some v → Value.okWide Try.prog W .any base t v := hval0
  have hW' := hW
  obtain ⟨p, q, hA0, hV, rfl, hfz, hnd⟩ := hW
  have hA : DataW.TrodAll enc Try.prog W 0 (fun _ => true) true Try.f10.params.toList args.toList ds p := hA0
  rw [Try.params10] at hA hval hsz
  obtain ⟨v0, vs0, d0, ds0, p0, q0, hargs, rfl, rfl, h0, r0⟩ := trodAll_cons hA
  obtain ⟨v1, vs1, d1, ds1, p1, q1, rfl, rfl, rfl, h1, r1⟩ := trodAll_cons r0
  obtain ⟨rfl, rfl, rfl⟩ := trodAll_nil r1
  obtain rfl : args = #[v0, v1] := by cases args; simp_all
  obtain ⟨rfl, rfl⟩ := trodVars_none hV
  have lt : ∀ {t v d p}, (∃ fuel, DataW.trod enc Try.prog W 0 (fun _ => true) true fuel t v = some (d, p)) → ∀ x ∈ p, x.block < W.heap.size := fun ⟨m, hm⟩ => DataW.trod_lt m _ _ _ hm
  have wt0 : ∀ n ∈ d0.weights Try.prog 51, n ≤ reachBytes := fun n hn => by have z := List.all_eq_true.1 hsz n (DataW.weights_mem_each (j := 0) (t := 51) rfl rfl n hn); simpa using z
  have hh0 := h0
  obtain ⟨fuel0, hf0⟩ := hh0
  obtain ⟨a0, ok0, len0, k0⟩ := ((reads_slice Try.underlying51 (by kernel_rfl) (by decide) (reads_int Try.underlying3))).out enc W 0 _ true fuel0 _ _ (fun _ => rfl) hf0 wt0
  obtain ⟨n0, e0, u0, w0⟩ := k0 [] (In.Ok.nil _ _)
  have wt1 : ∀ n ∈ d1.weights Try.prog 3, n ≤ reachBytes := fun n hn => by have z := List.all_eq_true.1 hsz n (DataW.weights_mem_each (j := 1) (t := 3) rfl rfl n hn); simpa using z
  have hh1 := h1
  obtain ⟨fuel1, hf1⟩ := hh1
  obtain ⟨a1, ok1, len1, k1⟩ := ((Reads.flat (reads_int Try.underlying3))).out enc W 0 _ true fuel1 _ _ (fun _ => rfl) hf1 wt1
  obtain ⟨n1, e1, u1, w1⟩ := k1 ([] ++ n0) u0
  have q0 := (w0.sub fun _ _ h => In.mu_app (k := n1) h)
  have q1 := w1
  obtain ⟨mz, hlaw⟩ := law09_HeapDrains a0 ok0 (by kernel_rfl) e0 e1 (short Try.underlying51 h0 w0 ok0.2.2.2.1 ok0.2.2.2.2 (by simp) hk0) a1
  refine (call_lim mixed tblOk hlaw (In.sim u1) (VRs.cons (arg_slice Try.underlying51 (hval 0 51 v0 rfl rfl) q0) (VRs.cons (arg_int Try.underlying3 (hval 1 3 v1 rfl rfl) q1) .nil))).mono fun e W' ⟨u, μ', he, hu, hp⟩ => ?_
  have bel := In.below hp
  subst he
  cases hu
  exact ⟨_, rfl, _, _, _, [], _, [], hW', trodAll_mk1 (shut_bool Try.underlying4 _), (trodAll_cons_mk (Below.trod laidOut (by kernel_rfl) (of_decide_eq_true (by kernel_rfl)) h0 bel (lt h0)) (trodAll_cons_mk (Below.trod laidOut (by kernel_rfl) (of_decide_eq_true (by kernel_rfl)) h1 bel (lt h1)) trodAll_mk0)), rfl, bel.frame _, fun h => by cases h⟩
set_option maxRecDepth 100000 in
theorem lifted (os : Os) (started : os.Started) (H : Type) (enc : TypeId × Value → H) (F : Stop.Interp) :
    ReturnsInHanded {} Try.checked os 10 .any ((Rows.OpenSpec.upto Rows.heapDrainsSpec).pre6 enc Try.prog Try.f10 Rows.heapDrainsUptoRow.domain false) (((Rows.OpenSpec.upto Rows.heapDrainsSpec).at F).post enc Try.prog Try.f10 false true false false) := by
  refine returnsInHanded_of_cond_sized (C := Try.checked) (s := Rows.OpenSpec.upto Rows.heapDrainsSpec) (k := Rows.uptoSmall) rfl own started (by kernel_rfl) Try.func10
    (OpenSpec.witness (enc := enc) (C := Try.checked) (s := Rows.OpenSpec.upto Rows.heapDrainsSpec) (k := Rows.uptoSmall) rfl false ⟨#[], #[.slice none 0 0, .int .i64 0], []⟩ 8 (by kernel_rfl) (by kernel_rfl) (by kernel_rfl)
      (x := ([.nil, .lit (.int .i64 0)], [], [])) (by kernel_rfl) rfl (by kernel_rfl)) ?_
  intro W base args ds gs before hval hW _ hk hsz _
  exact contract H enc W base args ds gs before hval hW hk hsz
theorem proved : Rows.HeapDrainsUptoSaid :=
  OpenClaim.holds_of_cond 10 Try.f10 rfl rfl rfl rfl rfl rfl rfl ⟨rfl, rfl, rfl, rfl, rfl⟩ rfl rfl rfl rfl rfl (by kernel_rfl) Try.func10 (by kernel_rfl)
    (of_decide_eq_true (by kernel_rfl)) (by unfold Func.isWrapper; first | (rw [if_pos (by decide +kernel)]; kernel_rfl) | (rw [if_neg (by decide +kernel)]; exact ⟨rfl, rfl⟩))
    (fun os started H enc _ F => lifted os started H enc F)
end Go.Proofs.Ytjehijlpdeadiaa.heapDrains
namespace Go.Proofs.Ytjehijlpdeadiaa
/-- The row, under a short name, for the claim. -/
theorem heapDrains_holds : Rows.HeapDrainsUptoSaid := heapDrains.proved
end Go.Proofs.Ytjehijlpdeadiaa
