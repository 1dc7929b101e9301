/- The functional reading of the code (printed). -/
import Derived.Test.YtdiebciejcmmhaaM3
import Derived.Test.YtdiebciejcmmhaaProg
set_option linter.unusedSimpArgs false
set_option linter.unusedVariables false
namespace Go.Proofs.Ytdiebciejcmmhaa
open Go
def H0 : Hint := .mk .plain []
def tys : List (Nat × TD) := [
  (2, ⟨some (.int .i64), [.dat (.int .i64) (0 : Int)], .scalar⟩),
  (3, ⟨some (.int .i64), [.dat (.int .i64) (0 : Int)], .scalar⟩),
  (4, ⟨some .bool, [.dat .bool false], .scalar⟩),
  (5, ⟨some (.int .u8), [.dat (.int .u8) (0 : Int)], .scalar⟩),
  (9, ⟨some .str, [.dat .str ByteArray.empty], .scalar⟩),
  (21, ⟨some (.int .i32), [.dat (.int .i32) (0 : Int)], .scalar⟩),
  (22, ⟨some (.slice (.agg (.pair (.int .i64) (.pair (.slice (.agg (.pair (.int .i64) (.int .i64)))) (.slice (.int .i64)))))), [.nil], .slice 54 3 56⟩),
  (23, ⟨some (.slice (.agg (.pair (.int .i64) (.pair (.int .i64) (.pair (.int .i64) (.pair (.int .i64) (.int .i64))))))), [.nil], .slice 59 5 40⟩),
  (25, ⟨some (.agg (.pair (.slice (.agg (.pair (.int .i64) (.pair (.slice (.agg (.pair (.int .i64) (.int .i64)))) (.slice (.int .i64)))))) (.slice (.agg (.pair (.int .i64) (.pair (.int .i64) (.pair (.int .i64) (.pair (.int .i64) (.int .i64))))))))), [.nil, .nil], .struct [(22, 0, 1), (23, 1, 1)]⟩),
  (28, ⟨some (.slice (.int .u8)), [.nil], .slice 5 1 1⟩),
  (34, ⟨some (.slice (.agg (.pair (.int .i64) (.pair (.slice (.agg (.pair (.int .i64) (.int .i64)))) (.slice (.int .i64)))))), [.nil], .slice 64 3 56⟩),
  (35, ⟨some (.slice (.agg (.pair (.int .i64) (.pair (.int .i64) (.pair (.int .i64) (.pair (.int .i64) (.int .i64))))))), [.nil], .slice 65 5 40⟩),
  (37, ⟨some (.agg (.pair (.slice (.agg (.pair (.int .i64) (.pair (.slice (.agg (.pair (.int .i64) (.int .i64)))) (.slice (.int .i64)))))) (.slice (.agg (.pair (.int .i64) (.pair (.int .i64) (.pair (.int .i64) (.pair (.int .i64) (.int .i64))))))))), [.nil, .nil], .struct [(34, 0, 1), (35, 1, 1)]⟩),
  (46, ⟨some (.int .u16), [.dat (.int .u16) (0 : Int)], .scalar⟩),
  (47, ⟨some (.int .u64), [.dat (.int .u64) (0 : Int)], .scalar⟩),
  (50, ⟨some (.agg (.pair (.int .i64) (.int .i64))), [.dat (.int .i64) (0 : Int), .dat (.int .i64) (0 : Int)], .struct [(2, 0, 1), (2, 1, 1)]⟩),
  (51, ⟨some (.slice (.agg (.pair (.int .i64) (.int .i64)))), [.nil], .slice 50 2 16⟩),
  (52, ⟨some (.slice (.int .i64)), [.nil], .slice 3 1 8⟩),
  (54, ⟨some (.agg (.pair (.int .i64) (.pair (.slice (.agg (.pair (.int .i64) (.int .i64)))) (.slice (.int .i64))))), [.dat (.int .i64) (0 : Int), .nil, .nil], .struct [(2, 0, 1), (51, 1, 1), (52, 2, 1)]⟩),
  (59, ⟨some (.agg (.pair (.int .i64) (.pair (.int .i64) (.pair (.int .i64) (.pair (.int .i64) (.int .i64)))))), [.dat (.int .i64) (0 : Int), .dat (.int .i64) (0 : Int), .dat (.int .i64) (0 : Int), .dat (.int .i64) (0 : Int), .dat (.int .i64) (0 : Int)], .struct [(3, 0, 1), (3, 1, 1), (2, 2, 1), (2, 3, 1), (2, 4, 1)]⟩),
  (62, ⟨some (.slice (.agg (.pair (.int .i64) (.int .i64)))), [.nil], .slice 66 2 16⟩),
  (64, ⟨some (.agg (.pair (.int .i64) (.pair (.slice (.agg (.pair (.int .i64) (.int .i64)))) (.slice (.int .i64))))), [.dat (.int .i64) (0 : Int), .nil, .nil], .struct [(2, 0, 1), (62, 1, 1), (52, 2, 1)]⟩),
  (65, ⟨some (.agg (.pair (.int .i64) (.pair (.int .i64) (.pair (.int .i64) (.pair (.int .i64) (.int .i64)))))), [.dat (.int .i64) (0 : Int), .dat (.int .i64) (0 : Int), .dat (.int .i64) (0 : Int), .dat (.int .i64) (0 : Int), .dat (.int .i64) (0 : Int)], .struct [(3, 0, 1), (3, 1, 1), (2, 2, 1), (2, 3, 1), (2, 4, 1)]⟩),
  (66, ⟨some (.agg (.pair (.int .i64) (.int .i64))), [.dat (.int .i64) (0 : Int), .dat (.int .i64) (0 : Int)], .struct [(2, 0, 1), (2, 1, 1)]⟩),
  (70, ⟨some (.agg (.pair (.slice (.int .u8)) .bool)), [.nil, .dat .bool false], .struct [(28, 0, 1), (4, 1, 1)]⟩),
  (79, ⟨some (.agg (.pair (.slice (.int .u8)) (.pair (.int .i64) .bool))), [.nil, .dat (.int .i64) (0 : Int), .dat .bool false], .struct [(28, 0, 1), (3, 1, 1), (4, 2, 1)]⟩),
  (99, ⟨some (.int .u64), [.dat (.int .u64) (0 : Int)], .scalar⟩)]
theorem tys_ok : tysB Try.prog tys = true := by kernel_rfl
end Go.Proofs.Ytdiebciejcmmhaa
