/- FixedSums: Any sum, difference, product, quotient and rest of two numbers of 64 bits is told by the package fixed as the reference tells it. Conditions: none (every two numbers of 64 bits). -/
import Derived.Test.YtjhiccoooaleoaaP01x15
import Derived.Test.YtjhiccoooaleoaaM01e
set_option linter.unusedVariables false
set_option linter.unusedSimpArgs false
namespace Go.Proofs.Ytjhiccoooaleoaa.M01
open Go.RowKit Go.Proofs.YtjhiccoooaleoaaW.PrintWords Go.Proofs.Ytjhiccoooaleoaa.P01
theorem sums_pure : phalanxlaw01_FixedSums.Pure := by
  intro a b ha hb
  have A := wf_i64 ha
  have B := wf_i64 hb
  refine Ev.rounds (g := fun k => phalanxlaw01_FixedSums.f k a b) ?_
  unfold phalanxlaw01_FixedSums.f
  refine Ev.bind (at_ (fixAdd A B)) (Ev.bind (refAdd A B) (then_ _ ?_))
  refine Ev.bind (at_ (fixSub A B)) (Ev.bind (refSub A B) (then_ _ ?_))
  refine Ev.bind (fixMul A B) (Ev.bind (refMul A B) (then_ _ ?_))
  refine Ev.bind (fixDiv A B) (Ev.bind (refDiv A B) (then_ _ ?_))
  exact Ev.bind (fixMod A B) (Ev.bind (refMod A B) (then_ _ awake_))
end Go.Proofs.Ytjhiccoooaleoaa.M01
namespace Go.Proofs.Ytjhiccoooaleoaa.Pure
open Go.Proofs.Ytjhiccoooaleoaa.P01
theorem FixedSums : phalanxlaw01_FixedSums.Pure := Go.Proofs.Ytjhiccoooaleoaa.M01.sums_pure
end Go.Proofs.Ytjhiccoooaleoaa.Pure
