/- The variables of packages whose data are known: none. -/
import Derived.Test.YtomkodhihiloiaaEng0
set_option linter.unusedSimpArgs false
set_option linter.unusedVariables false
namespace Go.Proofs.Ytomkodhihiloiaa
def globs : List (Nat × ((t : Ty) × t.den)) := []
end Go.Proofs.Ytomkodhihiloiaa
