/- The variables of packages whose data are known: none. -/
import Derived.Test.YtlkcanjbgaeceaaGreatEng0
set_option linter.unusedSimpArgs false
set_option linter.unusedVariables false
namespace Go.Proofs.YtlkcanjbgaeceaaGreat
def globs : List (Nat × ((t : Ty) × t.den)) := []
end Go.Proofs.YtlkcanjbgaeceaaGreat
