/- FixedBits: Any shift, root and narrowing of a number of 64 bits is told by the package fixed as the reference tells it. Conditions: none (every two numbers of 64 bits). -/
import Derived.Test.YtjhiccoooaleoaaP01x21
import Derived.Test.YtjhiccoooaleoaaM01h
set_option linter.unusedVariables false
set_option linter.unusedSimpArgs false
namespace Go.Proofs.Ytjhiccoooaleoaa.M01
open Go.RowKit Go.Proofs.YtjhiccoooaleoaaW.PrintWords Go.Proofs.Ytjhiccoooaleoaa.P01
theorem bits_pure : phalanxlaw01_FixedBits.Pure := by
  intro a b ha hb
  have A := wf_i64 ha
  have B := wf_i64 hb
  refine Ev.rounds (g := fun k => phalanxlaw01_FixedBits.f k a b) ?_
  unfold phalanxlaw01_FixedBits.f
  refine Ev.bind (at_ (fixShl A)) (Ev.bind (refShl A) (then_ _ ?_))
  refine Ev.bind (fixSqrt A) (Ev.bind (refSqrt A) (then_ _ ?_))
  exact Ev.bind (at_ fixNarrow) (Ev.bind (refNarrow A) (then_ _ awake_))
end Go.Proofs.Ytjhiccoooaleoaa.M01
namespace Go.Proofs.Ytjhiccoooaleoaa.Pure
open Go.Proofs.Ytjhiccoooaleoaa.P01
theorem FixedBits : phalanxlaw01_FixedBits.Pure := Go.Proofs.Ytjhiccoooaleoaa.M01.bits_pure
end Go.Proofs.Ytjhiccoooaleoaa.Pure
