/- The functional reading of the code (printed). -/
import Derived.Test.YtomkodhihiloiaaDoorM4
import Derived.Test.YtomkodhihiloiaaDoorProg
set_option linter.unusedSimpArgs false
set_option linter.unusedVariables false
namespace Go.Proofs.YtomkodhihiloiaaDoor
open Go
def H0 : Hint := .mk .plain []
def tys : List (Nat × TD) := [
  (2, ⟨some (.int .i64), [.dat (.int .i64) (0 : Int)], .scalar⟩),
  (3, ⟨some (.int .i64), [.dat (.int .i64) (0 : Int)], .scalar⟩),
  (4, ⟨some .bool, [.dat .bool false], .scalar⟩),
  (5, ⟨some (.int .u8), [.dat (.int .u8) (0 : Int)], .scalar⟩),
  (9, ⟨some .str, [.dat .str ByteArray.empty], .scalar⟩),
  (22, ⟨some (.agg (.pair .bool (.pair .bool (.pair .bool (.pair .bool (.pair .bool (.pair .bool .bool))))))), [.dat .bool false, .dat .bool false, .dat .bool false, .dat .bool false, .dat .bool false, .dat .bool false, .dat .bool false], .array 7 4 1⟩),
  (24, ⟨some (.agg (.pair (.int .i64) (.pair (.int .i64) (.pair (.int .i64) (.pair (.int .i64) (.pair (.int .i64) (.pair (.int .i64) (.pair (.int .i64) (.pair (.int .i64) (.agg (.pair .bool (.pair .bool (.pair .bool (.pair .bool (.pair .bool (.pair .bool .bool)))))))))))))))), [.dat (.int .i64) (0 : Int), .dat (.int .i64) (0 : Int), .dat (.int .i64) (0 : Int), .dat (.int .i64) (0 : Int), .dat (.int .i64) (0 : Int), .dat (.int .i64) (0 : Int), .dat (.int .i64) (0 : Int), .dat (.int .i64) (0 : Int), .dat .bool false, .dat .bool false, .dat .bool false, .dat .bool false, .dat .bool false, .dat .bool false, .dat .bool false], .struct [(3, 0, 1), (3, 1, 1), (3, 2, 1), (2, 3, 1), (2, 4, 1), (2, 5, 1), (2, 6, 1), (2, 7, 1), (22, 8, 7)]⟩),
  (26, ⟨some (.slice (.int .u8)), [.nil], .slice 5 1 1⟩),
  (31, ⟨some (.agg (.pair (.int .i64) (.pair (.int .i64) (.pair (.int .i64) (.pair (.int .i64) (.pair (.int .i64) (.pair (.int .i64) (.pair (.int .i64) (.int .i64))))))))), [.dat (.int .i64) (0 : Int), .dat (.int .i64) (0 : Int), .dat (.int .i64) (0 : Int), .dat (.int .i64) (0 : Int), .dat (.int .i64) (0 : Int), .dat (.int .i64) (0 : Int), .dat (.int .i64) (0 : Int), .dat (.int .i64) (0 : Int)], .array 8 2 1⟩),
  (32, ⟨some (.agg (.pair (.int .i64) (.pair (.int .i64) (.pair (.int .i64) (.pair (.int .i64) (.pair (.int .i64) (.pair (.int .i64) (.int .i64)))))))), [.dat (.int .i64) (0 : Int), .dat (.int .i64) (0 : Int), .dat (.int .i64) (0 : Int), .dat (.int .i64) (0 : Int), .dat (.int .i64) (0 : Int), .dat (.int .i64) (0 : Int), .dat (.int .i64) (0 : Int)], .array 7 3 1⟩),
  (34, ⟨some (.agg (.pair (.agg (.pair (.int .i64) (.pair (.int .i64) (.pair (.int .i64) (.pair (.int .i64) (.pair (.int .i64) (.pair (.int .i64) (.pair (.int .i64) (.int .i64))))))))) (.agg (.pair (.int .i64) (.pair (.int .i64) (.pair (.int .i64) (.pair (.int .i64) (.pair (.int .i64) (.pair (.int .i64) (.int .i64)))))))))), List.replicate 15 (.dat (.int .i64) (0 : Int)), .struct [(31, 0, 8), (32, 8, 7)]⟩),
  (46, ⟨some (.agg (.pair (.int .i64) (.int .i64))), [.dat (.int .i64) (0 : Int), .dat (.int .i64) (0 : Int)], .struct [(2, 0, 1), (2, 1, 1)]⟩),
  (51, ⟨some (.agg (.pair (.int .i64) (.pair (.int .i64) (.pair (.int .i64) (.pair (.agg (.pair (.int .i64) (.int .i64))) (.pair (.int .i64) (.pair (.agg (.pair (.int .i64) (.int .i64))) (.pair (.int .i64) (.pair (.int .i64) (.pair (.slice (.slice (.int .i64))) (.pair (.int .i64) (.pair .bool (.pair .bool (.pair (.agg (.pair (.int .i64) (.int .i64))) (.pair .bool (.pair .bool (.pair .bool (.pair .bool (.pair .bool (.pair (.agg (.pair (.int .i64) (.int .i64))) (.pair (.int .i64) (.pair (.agg (.pair (.agg (.pair (.int .i64) (.int .i64))) (.agg (.pair (.int .i64) (.int .i64))))) (.pair (.int .i64) (.pair (.int .i64) (.pair (.int .i64) (.int .i64)))))))))))))))))))))))))), [.dat (.int .i64) (0 : Int), .dat (.int .i64) (0 : Int), .dat (.int .i64) (0 : Int), .dat (.int .i64) (0 : Int), .dat (.int .i64) (0 : Int), .dat (.int .i64) (0 : Int), .dat (.int .i64) (0 : Int), .dat (.int .i64) (0 : Int), .dat (.int .i64) (0 : Int), .dat (.int .i64) (0 : Int), .nil, .dat (.int .i64) (0 : Int), .dat .bool false, .dat .bool false, .dat (.int .i64) (0 : Int), .dat (.int .i64) (0 : Int), .dat .bool false, .dat .bool false, .dat .bool false, .dat .bool false, .dat .bool false, .dat (.int .i64) (0 : Int), .dat (.int .i64) (0 : Int), .dat (.int .i64) (0 : Int), .dat (.int .i64) (0 : Int), .dat (.int .i64) (0 : Int), .dat (.int .i64) (0 : Int), .dat (.int .i64) (0 : Int), .dat (.int .i64) (0 : Int), .dat (.int .i64) (0 : Int), .dat (.int .i64) (0 : Int), .dat (.int .i64) (0 : Int)], .struct [(3, 0, 1), (3, 1, 1), (3, 2, 1), (46, 3, 2), (2, 5, 1), (46, 6, 2), (2, 8, 1), (2, 9, 1), (47, 10, 1), (3, 11, 1), (4, 12, 1), (4, 13, 1), (48, 14, 2), (4, 16, 1), (4, 17, 1), (4, 18, 1), (4, 19, 1), (4, 20, 1), (46, 21, 2), (2, 23, 1), (49, 24, 4), (3, 28, 1), (3, 29, 1), (3, 30, 1), (3, 31, 1)]⟩),
  (54, ⟨some (.agg (.pair (.slice (.int .u8)) (.int .i64))), [.nil, .dat (.int .i64) (0 : Int)], .struct [(26, 0, 1), (3, 1, 1)]⟩),
  (57, ⟨some (.agg (.pair (.int .i64) (.pair (.int .i64) (.pair (.int .i64) (.pair (.int .i64) (.pair (.int .i64) (.pair (.int .i64) (.pair (.int .i64) (.int .i64))))))))), [.dat (.int .i64) (0 : Int), .dat (.int .i64) (0 : Int), .dat (.int .i64) (0 : Int), .dat (.int .i64) (0 : Int), .dat (.int .i64) (0 : Int), .dat (.int .i64) (0 : Int), .dat (.int .i64) (0 : Int), .dat (.int .i64) (0 : Int)], .array 8 3 1⟩),
  (58, ⟨some (.int .u64), [.dat (.int .u64) (0 : Int)], .scalar⟩),
  (64, ⟨some (.int .u16), [.dat (.int .u16) (0 : Int)], .scalar⟩),
  (80, ⟨some (.int .u64), [.dat (.int .u64) (0 : Int)], .scalar⟩),
  (83, ⟨some (.agg (.pair (.slice (.int .u8)) (.pair (.int .i64) .bool))), [.nil, .dat (.int .i64) (0 : Int), .dat .bool false], .struct [(26, 0, 1), (3, 1, 1), (4, 2, 1)]⟩),
  (90, ⟨some (.agg (.pair (.int .u64) (.int .u64))), [.dat (.int .u64) (0 : Int), .dat (.int .u64) (0 : Int)], .struct [(58, 0, 1), (58, 1, 1)]⟩)]
theorem tys_ok : tysB Tryd.prog tys = true := by kernel_rfl
end Go.Proofs.YtomkodhihiloiaaDoor
