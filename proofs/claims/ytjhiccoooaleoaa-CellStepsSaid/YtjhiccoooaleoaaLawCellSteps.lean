import Derived.Test.YtjhiccoooaleoaaRows
import Derived.Test.YtjhiccoooaleoaaShW3s
import Derived.WalkKit
import Derived.ProofKit
import Derived.OpenShut
import Derived.ShutString
import Derived.ChangeOld
import Derived.Below
import Derived.SizedLaws
set_option linter.all false
set_option linter.unusedVariables false
set_option linter.unusedSimpArgs false
set_option autoImplicit false
namespace Go.Sh
open Go.RowKit Go.WideShapes
variable {P : Program}

/-- A struct that came in: its cells. -/
theorem okWide_cells {w : World} {r : Reach} {base : Nat} {t : TypeId} {v : Value} {fs : Array Field} {ts : List TypeId} (ht : P.underlying t = some (.struct fs)) (hc : P.cellTypes P.depth t = some ts) (hs : P.cellsOf t = ts.length) (h : Value.okWide P w r base t v) :
    ∃ l : List Value, v = .agg ⟨l⟩ ∧ l.length = ts.length ∧ ∀ (i : Nat) (c : Value), l[i]? = some c → ∃ u, ts[i]? = some u ∧ Cell.okWide P w r base u c := by
  simp only [Value.okWide, ht] at h
  obtain ⟨⟨l⟩, h1, h2, ts', h3, _, h4⟩ := h
  rw [hc] at h3
  cases h3
  refine ⟨l, h1, by rw [← hs, ← h2]; rfl, fun i c hi => ?_⟩
  have hlt : i < ts.length := by rw [← hs, ← h2]; exact (List.getElem?_eq_some_iff.1 hi).1
  obtain ⟨u, q1, q2⟩ := h4 i c (by simpa using hi)
  rw [Nat.mod_eq_of_lt hlt] at q1
  exact ⟨u, q1, q2⟩

theorem okInt {w : World} {r : Reach} {base : Nat} {t : TypeId} {v : Value} {k : IntKind} (ht : P.underlying t = some (.int k)) (h : Cell.okWide P w r base t v) : ∃ n, v = .int k n := by
  simp only [Cell.okWide, ht] at h
  cases v <;> simp_all [Cell.ok]

/-- The empty memory. -/
def mem0 : Mem := ⟨[], [], 0, 0, none⟩
theorem sim0 (w : World) : Sim P (fun _ => none) mem0 w := by
  refine ⟨?_, ?_, ?_, ?_⟩
  · intro b x h; cases h
  · intro b r base N x h; cases h
  · intro b c x z y u h; cases h
  · intro b y h; cases b <;> simp [mem0, Mem.get, stkGet] at h
theorem wf0 : mem0.Wf := Nat.le_refl _

theorem below_of_post {μ' : Mu} {m' : Mem} {w w' : World} (h : Post P (fun _ => none) mem0 w μ' m' w') : Below w.heap.size w w' :=
  ⟨h.os, h.tape, h.out, h.size, fun k hk => h.frm k hk fun _ _ hc => by cases hc⟩

end Go.Sh
namespace Go.Proofs.Ytjhiccoooaleoaa.cellSteps
open Go.Sh Go.Sh.T
open Go.ChangeShapes Go.WideShapes Go.ChangeAt Go.RowKit
open Go.ChangeMaps (open_string shut_string)
set_option linter.unusedVariables false
set_option linter.unusedSimpArgs false
set_option maxRecDepth 100000
theorem own : ownKnob Try.prog.godebug = none := by kernel_rfl
theorem laidOut : laidOutB Try.prog = true := by kernel_rfl
theorem mixed : Try.prog.follows .mixedOrders = true := by kernel_rfl
theorem tblOk : TblOk Try.prog tb := by
  intro f sf h
  unfold tb at h
  split at h
  case _ => cases h; exact ⟨_, Try.func6, by kernel_rfl⟩
  case _ => cases h; exact ⟨_, Try.func16, by kernel_rfl⟩
  case _ => cases h; exact ⟨_, Try.func18, by kernel_rfl⟩
  case _ => cases h; exact ⟨_, Try.func24, by kernel_rfl⟩
  case _ => cases h; exact ⟨_, Try.func25, by kernel_rfl⟩
  case _ => cases h; exact ⟨_, Try.func26, by kernel_rfl⟩
  case _ => cases h; exact ⟨_, Try.func27, by kernel_rfl⟩
  case _ => cases h; exact ⟨_, Try.func28, by kernel_rfl⟩
  case _ => cases h; exact ⟨_, Try.func29, by kernel_rfl⟩
  case _ => cases h; exact ⟨_, Try.func30, by kernel_rfl⟩
  case _ => cases h; exact ⟨_, Try.func31, by kernel_rfl⟩
  case _ => cases h; exact ⟨_, Try.func32, by kernel_rfl⟩
  case _ => cases h; exact ⟨_, Try.func33, by kernel_rfl⟩
  case _ => cases h; exact ⟨_, Try.func34, by kernel_rfl⟩
  case _ => cases h; exact ⟨_, Try.func76, by kernel_rfl⟩
  case _ => cases h; exact ⟨_, Try.func87, by kernel_rfl⟩
  case _ => cases h; exact ⟨_, Try.func88, by kernel_rfl⟩
  case _ => cases h; exact ⟨_, Try.func89, by kernel_rfl⟩
  case _ => cases h; exact ⟨_, Try.func90, by kernel_rfl⟩
  case _ => cases h
theorem cell_in {W : World} {base : Nat} {v : Value} (h : Value.okWide Try.prog W .any base 23 v) : ∃ x y, v = .agg #[.int .i64 x, .int .i64 y] := by
  obtain ⟨l, rfl, hl, hc⟩ := okWide_cells (ts := [3, 3]) Try.underlying23 (by kernel_rfl) (by kernel_rfl) h
  match l, hl, hc with
  | [a, b], _, hc =>
    obtain ⟨u, h1, h2⟩ := hc 0 a rfl
    obtain ⟨u', h3, h4⟩ := hc 1 b rfl
    cases h1; cases h3
    obtain ⟨x, rfl⟩ := okInt Try.underlying3 h2
    obtain ⟨y, rfl⟩ := okInt Try.underlying3 h4
    exact ⟨x, y, rfl⟩
theorem lifted (os : Os) (started : os.Started) (H : Type) (enc : TypeId × Value → H) :
    ReturnsInHanded {} Try.checked os 6 .any (Rows.cellStepsSpec.pre6 enc Try.prog Try.f6 Rows.cellStepsRow.domain false) (Rows.cellStepsSpec.post enc Try.prog Try.f6 false true false false) := by
  refine returnsInHanded_of_change_sized (C := Try.checked) own started (by kernel_rfl) Try.func6
    (ChangeSpec.witness6 (enc := enc) (C := Try.checked) false ⟨#[], #[.agg #[.int .i64 0, .int .i64 0], .agg #[.int .i64 0, .int .i64 0], .int .i64 0], []⟩ 8 (by kernel_rfl) (by kernel_rfl) (by kernel_rfl) (by kernel_rfl)) ?_
  intro W base args ds gs before hval0 hW hcnd hsz0 _
  have hval : ∀ (j : Nat) t v, Try.f6.params[j]? = some t → args[j]? = some v → Value.okWide Try.prog W .any base t v := hval0
  have hW' := hW
  obtain ⟨p, q, hA0, hV, rfl, hfz, hnd⟩ := hW
  have hA : DataW.TrodAll enc Try.prog W 0 (fun _ => true) true Try.f6.params.toList args.toList ds p := hA0
  rw [Try.params6] at hA hval
  obtain ⟨v0, vs0, d0, ds0, p0, q0, hargs, rfl, rfl, h0, r0⟩ := trodAll_cons hA
  obtain ⟨v1, vs1, d1, ds1, p1, q1, rfl, rfl, rfl, h1, r1⟩ := trodAll_cons r0
  obtain ⟨v2, vs2, d2, ds2, p2, q2, rfl, rfl, rfl, h2, r2⟩ := trodAll_cons r1
  obtain ⟨rfl, rfl, rfl⟩ := trodAll_nil r2
  obtain rfl : args = #[v0, v1, v2] := by cases args; simp_all
  obtain ⟨rfl, rfl⟩ := trodVars_none hV
  have lt : ∀ {t v d p}, (∃ fuel, DataW.trod enc Try.prog W 0 (fun _ => true) true fuel t v = some (d, p)) → ∀ x ∈ p, x.block < W.heap.size := fun ⟨m, hm⟩ => DataW.trod_lt m _ _ _ hm
  obtain ⟨x, y, e0⟩ := cell_in (hval 0 23 v0 rfl rfl)
  obtain ⟨a, b, e1⟩ := cell_in (hval 1 23 v1 rfl rfl)
  obtain ⟨d, e2⟩ := okWide_int Try.underlying3 (hval 2 3 v2 rfl rfl)
  have hargs : VRs (fun _ => none) [.agg [.int .i64 x, .int .i64 y], .agg [.int .i64 a, .int .i64 b], .int .i64 d] [v0, v1, v2] := by
    subst e0 e1 e2
    exact .cons (.agg (.cons (.int _ _) (.cons (.int _ _) .nil))) (.cons (.agg (.cons (.int _ _) (.cons (.int _ _) .nil))) (.cons (.int _ _) .nil))
  refine (call_lim mixed tblOk (r6 mem0 wf0 x y a b d) (sim0 W) hargs).mono fun e W' ⟨u, μ', he, hu, hp⟩ => ?_
  have bel := below_of_post hp
  subst he
  cases hu
  exact ⟨_, rfl, _, _, _, [], _, [], hW', trodAll_mk1 (shut_bool Try.underlying4 _), (trodAll_cons_mk (Below.trod laidOut (by kernel_rfl) (of_decide_eq_true (by kernel_rfl)) h0 bel (lt h0)) (trodAll_cons_mk (Below.trod laidOut (by kernel_rfl) (of_decide_eq_true (by kernel_rfl)) h1 bel (lt h1)) (trodAll_cons_mk (Below.trod laidOut (by kernel_rfl) (of_decide_eq_true (by kernel_rfl)) h2 bel (lt h2)) trodAll_mk0))), rfl, bel.frame _, fun h => by cases h⟩
theorem over : Rows.cellStepsRow.holds Try.pinned (OpenSpec.ofChange Rows.cellStepsSpec) :=
  OpenClaim.holds_of_wide 6 Try.f6 rfl rfl rfl rfl rfl rfl rfl ⟨rfl, rfl, rfl, rfl, rfl⟩ rfl rfl rfl rfl rfl (by kernel_rfl) Try.func6 (by kernel_rfl)
    (of_decide_eq_true (by kernel_rfl)) (by unfold Func.isWrapper; first | (rw [if_pos (by decide +kernel)]; kernel_rfl) | (rw [if_neg (by decide +kernel)]; exact ⟨rfl, rfl⟩))
    (fun os started H enc _ => lifted os started H enc)
theorem proved : Rows.CellStepsSaid := over
end Go.Proofs.Ytjhiccoooaleoaa.cellSteps
namespace Go.Proofs.Ytjhiccoooaleoaa
/-- The row, under a short name, for the claim. -/
theorem cellSteps_holds : Rows.CellStepsSaid := cellSteps.proved
end Go.Proofs.Ytjhiccoooaleoaa
