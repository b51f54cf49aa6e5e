/- FixedParts: Any product and quotient of two numbers of 32 and 32 bits, and whole numbers as such and back, are told by the package fixed as the reference tells them. Conditions: none (every two numbers of 64 bits). -/
import Derived.Test.YtjhiccoooaleoaaP01x27
import Derived.Test.YtjhiccoooaleoaaM01g
namespace Go.Proofs.Ytjhiccoooaleoaa.Pure
open Go.Proofs.Ytjhiccoooaleoaa.P01
theorem FixedParts : phalanxlaw01_FixedParts.Pure := Go.Proofs.Ytjhiccoooaleoaa.M01.parts_pure
end Go.Proofs.Ytjhiccoooaleoaa.Pure
