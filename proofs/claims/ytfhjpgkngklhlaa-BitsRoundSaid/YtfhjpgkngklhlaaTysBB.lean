/- The functional reading of the code (printed). -/
import Derived.Test.YtfhjpgkngklhlaaM4
import Derived.Test.YtfhjpgkngklhlaaProg
set_option linter.unusedSimpArgs false
set_option linter.unusedVariables false
namespace Go.Proofs.Ytfhjpgkngklhlaa
open Go
def H0 : Hint := .mk .plain []
def tys : List (Nat × TD) := [
  (2, ⟨some (.int .i64), [.dat (.int .i64) (0 : Int)], .scalar⟩),
  (3, ⟨some (.int .i64), [.dat (.int .i64) (0 : Int)], .scalar⟩),
  (4, ⟨some .bool, [.dat .bool false], .scalar⟩),
  (5, ⟨some (.int .u8), [.dat (.int .u8) (0 : Int)], .scalar⟩),
  (9, ⟨some .str, [.dat .str ByteArray.empty], .scalar⟩),
  (22, ⟨some (.slice (.agg (.pair (.int .i64) (.int .i64)))), [.nil], .slice 28 2 16⟩),
  (24, ⟨some (.slice (.int .u8)), [.nil], .slice 5 1 1⟩),
  (26, ⟨some (.agg (.pair (.slice (.int .u8)) (.int .i64))), [.nil, .dat (.int .i64) (0 : Int)], .struct [(24, 0, 1), (3, 1, 1)]⟩),
  (28, ⟨some (.agg (.pair (.int .i64) (.int .i64))), [.dat (.int .i64) (0 : Int), .dat (.int .i64) (0 : Int)], .struct [(2, 0, 1), (3, 1, 1)]⟩),
  (29, ⟨some (.int .u64), [.dat (.int .u64) (0 : Int)], .scalar⟩),
  (38, ⟨some (.int .u64), [.dat (.int .u64) (0 : Int)], .scalar⟩),
  (41, ⟨some (.agg (.pair (.slice (.int .u8)) (.pair (.int .i64) .bool))), [.nil, .dat (.int .i64) (0 : Int), .dat .bool false], .struct [(24, 0, 1), (3, 1, 1), (4, 2, 1)]⟩)]
theorem tys_ok : tysB Try.prog tys = true := by kernel_rfl
end Go.Proofs.Ytfhjpgkngklhlaa
