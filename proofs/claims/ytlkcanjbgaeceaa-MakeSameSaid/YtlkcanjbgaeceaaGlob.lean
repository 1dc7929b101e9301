/- The variables of packages whose data are known: none. -/
import Derived.Test.YtlkcanjbgaeceaaEng0
set_option linter.unusedSimpArgs false
set_option linter.unusedVariables false
namespace Go.Proofs.Ytlkcanjbgaeceaa
def globs : List (Nat × ((t : Ty) × t.den)) := []
end Go.Proofs.Ytlkcanjbgaeceaa
