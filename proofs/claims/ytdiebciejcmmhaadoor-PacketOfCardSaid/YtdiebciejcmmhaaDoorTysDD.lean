/- The functional reading of the code (printed). -/
import Derived.Test.YtdiebciejcmmhaaDoorM3
import Derived.Test.YtdiebciejcmmhaaDoorProg
set_option linter.unusedSimpArgs false
set_option linter.unusedVariables false
namespace Go.Proofs.YtdiebciejcmmhaaDoor
open Go
def H0 : Hint := .mk .plain []
def tys : List (Nat × TD) := [
  (2, ⟨some (.int .i64), [.dat (.int .i64) (0 : Int)], .scalar⟩),
  (3, ⟨some (.int .i64), [.dat (.int .i64) (0 : Int)], .scalar⟩),
  (4, ⟨some .bool, [.dat .bool false], .scalar⟩),
  (5, ⟨some (.int .u8), [.dat (.int .u8) (0 : Int)], .scalar⟩),
  (23, ⟨some (.agg (.pair (.int .i64) (.int .i64))), [.dat (.int .i64) (0 : Int), .dat (.int .i64) (0 : Int)], .struct [(2, 0, 1), (2, 1, 1)]⟩),
  (28, ⟨some (.agg (.pair (.int .i64) (.pair (.int .i64) (.pair (.int .i64) (.pair (.agg (.pair (.int .i64) (.int .i64))) (.pair (.int .i64) (.pair (.agg (.pair (.int .i64) (.int .i64))) (.pair (.int .i64) (.pair (.int .i64) (.pair (.slice (.slice (.int .i64))) (.pair (.int .i64) (.pair .bool (.pair .bool (.pair (.agg (.pair (.int .i64) (.int .i64))) (.pair .bool (.pair .bool (.pair .bool (.pair .bool (.pair .bool (.pair (.agg (.pair (.int .i64) (.int .i64))) (.pair (.int .i64) (.pair (.agg (.pair (.agg (.pair (.int .i64) (.int .i64))) (.agg (.pair (.int .i64) (.int .i64))))) (.pair (.int .i64) (.pair (.int .i64) (.pair (.int .i64) (.int .i64)))))))))))))))))))))))))), [.dat (.int .i64) (0 : Int), .dat (.int .i64) (0 : Int), .dat (.int .i64) (0 : Int), .dat (.int .i64) (0 : Int), .dat (.int .i64) (0 : Int), .dat (.int .i64) (0 : Int), .dat (.int .i64) (0 : Int), .dat (.int .i64) (0 : Int), .dat (.int .i64) (0 : Int), .dat (.int .i64) (0 : Int), .nil, .dat (.int .i64) (0 : Int), .dat .bool false, .dat .bool false, .dat (.int .i64) (0 : Int), .dat (.int .i64) (0 : Int), .dat .bool false, .dat .bool false, .dat .bool false, .dat .bool false, .dat .bool false, .dat (.int .i64) (0 : Int), .dat (.int .i64) (0 : Int), .dat (.int .i64) (0 : Int), .dat (.int .i64) (0 : Int), .dat (.int .i64) (0 : Int), .dat (.int .i64) (0 : Int), .dat (.int .i64) (0 : Int), .dat (.int .i64) (0 : Int), .dat (.int .i64) (0 : Int), .dat (.int .i64) (0 : Int), .dat (.int .i64) (0 : Int)], .struct [(3, 0, 1), (3, 1, 1), (3, 2, 1), (23, 3, 2), (2, 5, 1), (23, 6, 2), (2, 8, 1), (2, 9, 1), (24, 10, 1), (3, 11, 1), (4, 12, 1), (4, 13, 1), (25, 14, 2), (4, 16, 1), (4, 17, 1), (4, 18, 1), (4, 19, 1), (4, 20, 1), (23, 21, 2), (2, 23, 1), (26, 24, 4), (3, 28, 1), (3, 29, 1), (3, 30, 1), (3, 31, 1)]⟩),
  (30, ⟨some (.agg (.pair .bool (.pair .bool (.pair .bool (.pair .bool (.pair .bool (.pair .bool .bool))))))), [.dat .bool false, .dat .bool false, .dat .bool false, .dat .bool false, .dat .bool false, .dat .bool false, .dat .bool false], .array 7 4 1⟩),
  (32, ⟨some (.agg (.pair (.int .i64) (.pair (.int .i64) (.pair (.int .i64) (.pair (.int .i64) (.pair (.int .i64) (.pair (.int .i64) (.pair (.int .i64) (.pair (.int .i64) (.agg (.pair .bool (.pair .bool (.pair .bool (.pair .bool (.pair .bool (.pair .bool .bool)))))))))))))))), [.dat (.int .i64) (0 : Int), .dat (.int .i64) (0 : Int), .dat (.int .i64) (0 : Int), .dat (.int .i64) (0 : Int), .dat (.int .i64) (0 : Int), .dat (.int .i64) (0 : Int), .dat (.int .i64) (0 : Int), .dat (.int .i64) (0 : Int), .dat .bool false, .dat .bool false, .dat .bool false, .dat .bool false, .dat .bool false, .dat .bool false, .dat .bool false], .struct [(3, 0, 1), (3, 1, 1), (3, 2, 1), (2, 3, 1), (2, 4, 1), (2, 5, 1), (2, 6, 1), (2, 7, 1), (30, 8, 7)]⟩),
  (35, ⟨some (.agg (.pair (.int .i64) (.pair (.int .i64) (.pair (.int .i64) (.pair (.int .i64) (.pair (.int .i64) (.pair (.int .i64) (.int .i64)))))))), [.dat (.int .i64) (0 : Int), .dat (.int .i64) (0 : Int), .dat (.int .i64) (0 : Int), .dat (.int .i64) (0 : Int), .dat (.int .i64) (0 : Int), .dat (.int .i64) (0 : Int), .dat (.int .i64) (0 : Int)], .array 7 3 1⟩),
  (36, ⟨some (.agg (.pair (.int .i64) (.pair (.int .i64) (.pair (.int .i64) (.pair (.int .i64) (.pair (.int .i64) (.pair (.int .i64) (.pair (.int .i64) (.int .i64))))))))), [.dat (.int .i64) (0 : Int), .dat (.int .i64) (0 : Int), .dat (.int .i64) (0 : Int), .dat (.int .i64) (0 : Int), .dat (.int .i64) (0 : Int), .dat (.int .i64) (0 : Int), .dat (.int .i64) (0 : Int), .dat (.int .i64) (0 : Int)], .array 8 2 1⟩),
  (38, ⟨some (.agg (.pair (.agg (.pair (.int .i64) (.pair (.int .i64) (.pair (.int .i64) (.pair (.int .i64) (.pair (.int .i64) (.pair (.int .i64) (.pair (.int .i64) (.int .i64))))))))) (.agg (.pair (.int .i64) (.pair (.int .i64) (.pair (.int .i64) (.pair (.int .i64) (.pair (.int .i64) (.pair (.int .i64) (.int .i64)))))))))), List.replicate 15 (.dat (.int .i64) (0 : Int)), .struct [(36, 0, 8), (35, 8, 7)]⟩),
  (45, ⟨some (.slice (.int .u8)), [.nil], .slice 5 1 1⟩),
  (58, ⟨some (.agg (.pair (.int .i64) (.pair (.int .i64) (.pair (.int .i64) (.pair (.int .i64) (.pair (.int .i64) (.pair (.int .i64) (.pair (.int .i64) (.int .i64))))))))), [.dat (.int .i64) (0 : Int), .dat (.int .i64) (0 : Int), .dat (.int .i64) (0 : Int), .dat (.int .i64) (0 : Int), .dat (.int .i64) (0 : Int), .dat (.int .i64) (0 : Int), .dat (.int .i64) (0 : Int), .dat (.int .i64) (0 : Int)], .array 8 3 1⟩),
  (63, ⟨some (.agg (.pair (.slice (.int .u8)) (.int .i64))), [.nil, .dat (.int .i64) (0 : Int)], .struct [(45, 0, 1), (3, 1, 1)]⟩),
  (65, ⟨some (.int .u64), [.dat (.int .u64) (0 : Int)], .scalar⟩),
  (69, ⟨some (.int .u16), [.dat (.int .u16) (0 : Int)], .scalar⟩),
  (85, ⟨some (.int .u64), [.dat (.int .u64) (0 : Int)], .scalar⟩),
  (89, ⟨some (.agg (.pair (.slice (.int .u8)) (.pair (.int .i64) .bool))), [.nil, .dat (.int .i64) (0 : Int), .dat .bool false], .struct [(45, 0, 1), (3, 1, 1), (4, 2, 1)]⟩),
  (94, ⟨some (.agg (.pair (.int .u64) (.int .u64))), [.dat (.int .u64) (0 : Int), .dat (.int .u64) (0 : Int)], .struct [(65, 0, 1), (65, 1, 1)]⟩)]
theorem tys_ok : tysB Tryd.prog tys = true := by kernel_rfl
end Go.Proofs.YtdiebciejcmmhaaDoor
