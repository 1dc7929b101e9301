/- The variables of packages whose data are known: none. -/
import Derived.Test.YtfhjpgkngklhlaaEng0
set_option linter.unusedSimpArgs false
set_option linter.unusedVariables false
namespace Go.Proofs.Ytfhjpgkngklhlaa
def globs : List (Nat × ((t : Ty) × t.den)) := []
end Go.Proofs.Ytfhjpgkngklhlaa
