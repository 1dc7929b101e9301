/- What the readings of a law's tracks say (great: more than 2000 rows, or 20000 entries). -/
import Derived.Test.YtlkcanjbgaeceaaGreatRefTrackF
set_option linter.unusedSimpArgs false
set_option linter.unusedVariables false
namespace Go.Proofs.YtlkcanjbgaeceaaGreat
open Go.RowKit
end Go.Proofs.YtlkcanjbgaeceaaGreat
