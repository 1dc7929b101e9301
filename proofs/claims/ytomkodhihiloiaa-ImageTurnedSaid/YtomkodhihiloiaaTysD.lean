/- The functional reading of the code (printed). -/
import Derived.Test.YtomkodhihiloiaaM4
import Derived.Test.YtomkodhihiloiaaProg
set_option linter.unusedSimpArgs false
set_option linter.unusedVariables false
namespace Go.Proofs.Ytomkodhihiloiaa
open Go
def H0 : Hint := .mk .plain []
def tys : List (Nat × TD) := [
  (2, ⟨some (.int .i64), [.dat (.int .i64) (0 : Int)], .scalar⟩),
  (3, ⟨some (.int .i64), [.dat (.int .i64) (0 : Int)], .scalar⟩),
  (4, ⟨some .bool, [.dat .bool false], .scalar⟩),
  (5, ⟨some (.int .u8), [.dat (.int .u8) (0 : Int)], .scalar⟩),
  (9, ⟨some .str, [.dat .str ByteArray.empty], .scalar⟩),
  (21, ⟨some (.int .i32), [.dat (.int .i32) (0 : Int)], .scalar⟩),
  (22, ⟨some (.slice (.agg (.pair (.int .i64) (.pair (.slice (.agg (.pair (.int .i64) (.int .i64)))) (.slice (.int .i64)))))), [.nil], .slice 42 3 56⟩),
  (23, ⟨some (.slice (.agg (.pair (.int .i64) (.pair (.int .i64) (.pair (.int .i64) (.pair (.int .i64) (.int .i64))))))), [.nil], .slice 48 5 40⟩),
  (25, ⟨some (.agg (.pair (.slice (.agg (.pair (.int .i64) (.pair (.slice (.agg (.pair (.int .i64) (.int .i64)))) (.slice (.int .i64)))))) (.slice (.agg (.pair (.int .i64) (.pair (.int .i64) (.pair (.int .i64) (.pair (.int .i64) (.int .i64))))))))), [.nil, .nil], .struct [(22, 0, 1), (23, 1, 1)]⟩),
  (26, ⟨some (.int .u16), [.dat (.int .u16) (0 : Int)], .scalar⟩),
  (29, ⟨some (.slice (.int .u8)), [.nil], .slice 5 1 1⟩),
  (33, ⟨some (.int .u64), [.dat (.int .u64) (0 : Int)], .scalar⟩),
  (38, ⟨some (.agg (.pair (.int .i64) (.int .i64))), [.dat (.int .i64) (0 : Int), .dat (.int .i64) (0 : Int)], .struct [(2, 0, 1), (2, 1, 1)]⟩),
  (39, ⟨some (.slice (.agg (.pair (.int .i64) (.int .i64)))), [.nil], .slice 38 2 16⟩),
  (40, ⟨some (.slice (.int .i64)), [.nil], .slice 3 1 8⟩),
  (42, ⟨some (.agg (.pair (.int .i64) (.pair (.slice (.agg (.pair (.int .i64) (.int .i64)))) (.slice (.int .i64))))), [.dat (.int .i64) (0 : Int), .nil, .nil], .struct [(2, 0, 1), (39, 1, 1), (40, 2, 1)]⟩),
  (48, ⟨some (.agg (.pair (.int .i64) (.pair (.int .i64) (.pair (.int .i64) (.pair (.int .i64) (.int .i64)))))), [.dat (.int .i64) (0 : Int), .dat (.int .i64) (0 : Int), .dat (.int .i64) (0 : Int), .dat (.int .i64) (0 : Int), .dat (.int .i64) (0 : Int)], .struct [(3, 0, 1), (3, 1, 1), (2, 2, 1), (2, 3, 1), (2, 4, 1)]⟩),
  (53, ⟨some (.agg (.pair (.slice (.int .u8)) .bool)), [.nil, .dat .bool false], .struct [(29, 0, 1), (4, 1, 1)]⟩),
  (69, ⟨some (.int .u64), [.dat (.int .u64) (0 : Int)], .scalar⟩)]
theorem tys_ok : tysB Try.prog tys = true := by kernel_rfl
end Go.Proofs.Ytomkodhihiloiaa
