/- FixedOctiles: What a way costs is told by the package fixed as the reference tells it, and the same for both orders. Conditions: none (every two numbers of 64 bits). -/
import Derived.Test.YtjhiccoooaleoaaP01x11
import Derived.Test.YtjhiccoooaleoaaM01e
set_option linter.unusedVariables false
set_option linter.unusedSimpArgs false
namespace Go.Proofs.Ytjhiccoooaleoaa.M01
open Go.RowKit Go.Proofs.YtjhiccoooaleoaaW.PrintWords Go.Proofs.Ytjhiccoooaleoaa.P01
theorem octiles_pure : phalanxlaw01_FixedOctiles.Pure := by
  intro a b ha hb
  have A := wf_i64 ha
  have B := wf_i64 hb
  refine Ev.rounds (g := fun k => phalanxlaw01_FixedOctiles.f k a b) ?_
  unfold phalanxlaw01_FixedOctiles.f
  have h := fixOct B A
  rw [oct_comm] at h
  exact Ev.bind (fixOct A B) (Ev.bind (refOct A B) (Ev.bind h (then_ _ (then_ _ awake_))))
end Go.Proofs.Ytjhiccoooaleoaa.M01
namespace Go.Proofs.Ytjhiccoooaleoaa.Pure
open Go.Proofs.Ytjhiccoooaleoaa.P01
theorem FixedOctiles : phalanxlaw01_FixedOctiles.Pure := Go.Proofs.Ytjhiccoooaleoaa.M01.octiles_pure
end Go.Proofs.Ytjhiccoooaleoaa.Pure
