/- The functional reading of the code (printed). -/
import Derived.Test.YtbpadfmdjgjjlaaEngTy
import Derived.Test.YtbpadfmdjgjjlaaProg
set_option linter.unusedSimpArgs false
set_option linter.unusedVariables false
namespace Go.Proofs.Ytbpadfmdjgjjlaa
open Go
def H0 : Hint := .mk .plain []
def tys : List (Nat × TD) := [
  (2, ⟨some (.int .i64), [.dat (.int .i64) (0 : Int)], .scalar⟩),
  (3, ⟨some (.int .i64), [.dat (.int .i64) (0 : Int)], .scalar⟩),
  (4, ⟨some .bool, [.dat .bool false], .scalar⟩),
  (22, ⟨some (.int .u64), [.dat (.int .u64) (0 : Int)], .scalar⟩),
  (28, ⟨some (.agg (.pair (.int .u64) (.int .u64))), [.dat (.int .u64) (0 : Int), .dat (.int .u64) (0 : Int)], .struct [(22, 0, 1), (22, 1, 1)]⟩),
  (54, ⟨some (.agg (.pair (.int .u64) (.pair (.int .u64) (.pair (.int .u64) (.int .u64))))), [.dat (.int .u64) (0 : Int), .dat (.int .u64) (0 : Int), .dat (.int .u64) (0 : Int), .dat (.int .u64) (0 : Int)], .array 4 22 1⟩),
  (56, ⟨some (.agg (.pair (.int .i64) (.agg (.pair (.int .u64) (.pair (.int .u64) (.pair (.int .u64) (.int .u64))))))), [.dat (.int .i64) (0 : Int), .dat (.int .u64) (0 : Int), .dat (.int .u64) (0 : Int), .dat (.int .u64) (0 : Int), .dat (.int .u64) (0 : Int)], .struct [(3, 0, 1), (54, 1, 4)]⟩),
  (66, ⟨some (.agg (.pair (.int .i64) (.int .i64))), [.dat (.int .i64) (0 : Int), .dat (.int .i64) (0 : Int)], .struct [(2, 0, 1), (2, 1, 1)]⟩),
  (87, ⟨some (.int .u64), [.dat (.int .u64) (0 : Int)], .scalar⟩)]
theorem tys_ok : tysB Try.prog tys = true := by kernel_rfl
end Go.Proofs.Ytbpadfmdjgjjlaa
