/- AdmitCut, AdmitFaultless: the laws. -/
import Derived.Test.YtlkcanjbgaeceaaGreatLaw28F
set_option linter.unusedSimpArgs false
set_option linter.unusedVariables false
namespace Go.Proofs.YtlkcanjbgaeceaaGreat
open Go.RowKit
end Go.Proofs.YtlkcanjbgaeceaaGreat
