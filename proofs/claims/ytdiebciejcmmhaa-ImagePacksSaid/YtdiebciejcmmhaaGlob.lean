/- The variables of packages whose data are known: none. -/
import Derived.Test.YtdiebciejcmmhaaEng0
set_option linter.unusedSimpArgs false
set_option linter.unusedVariables false
namespace Go.Proofs.Ytdiebciejcmmhaa
def globs : List (Nat × ((t : Ty) × t.den)) := []
end Go.Proofs.Ytdiebciejcmmhaa
