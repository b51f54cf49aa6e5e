/- FixedUndoes: What the package fixed adds and multiplies is undone by its difference and quotient, a quotient and its rest make the number, and a root lies between squares. Conditions: none (every two numbers of 64 bits). -/
import Derived.Test.YtjhiccoooaleoaaP01x22
import Derived.Test.YtjhiccoooaleoaaM01f
namespace Go.Proofs.Ytjhiccoooaleoaa.Pure
open Go.Proofs.Ytjhiccoooaleoaa.P01
theorem FixedUndoes : phalanxlaw01_FixedUndoes.Pure := Go.Proofs.Ytjhiccoooaleoaa.M01.undoes_pure
end Go.Proofs.Ytjhiccoooaleoaa.Pure
