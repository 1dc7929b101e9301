/- The functional reading of the code (printed). -/
import Derived.Test.YtckghclpdfbigaaEngTy
import Derived.Test.YtckghclpdfbigaaProg
set_option linter.unusedSimpArgs false
set_option linter.unusedVariables false
namespace Go.Proofs.Ytckghclpdfbigaa
open Go
def H0 : Hint := .mk .plain []
def tys : List (Nat × TD) := [
  (2, ⟨some (.int .i64), [.dat (.int .i64) (0 : Int)], .scalar⟩),
  (3, ⟨some (.int .i64), [.dat (.int .i64) (0 : Int)], .scalar⟩),
  (4, ⟨some .bool, [.dat .bool false], .scalar⟩),
  (23, ⟨some (.agg (.pair (.int .i64) (.pair (.int .i64) (.pair (.int .i64) (.pair (.int .i64) (.pair (.int .i64) (.pair (.int .i64) (.pair (.int .i64) (.pair (.int .i64) (.pair (.int .i64) (.pair (.int .i64) (.pair (.int .i64) (.pair (.int .i64) (.pair (.int .i64) (.int .i64))))))))))))))), List.replicate 14 (.dat (.int .i64) (0 : Int)), .struct [(2, 0, 1), (2, 1, 1), (2, 2, 1), (2, 3, 1), (2, 4, 1), (2, 5, 1), (2, 6, 1), (2, 7, 1), (2, 8, 1), (3, 9, 1), (2, 10, 1), (2, 11, 1), (3, 12, 1), (2, 13, 1)]⟩),
  (24, ⟨some (.slice (.agg (.pair (.agg (.pair (.int .i64) (.int .i64))) (.int .i64)))), [.nil], .slice 33 3 24⟩),
  (27, ⟨some (.agg (.pair (.int .i64) (.pair (.int .i64) (.pair (.int .i64) (.pair (.int .i64) (.pair (.int .i64) (.pair (.int .i64) (.pair (.int .i64) (.pair (.int .i64) (.pair (.int .i64) (.pair (.int .i64) (.pair (.int .i64) (.pair (.int .i64) (.pair (.int .i64) (.int .i64))))))))))))))), List.replicate 14 (.dat (.int .i64) (0 : Int)), .struct [(2, 0, 1), (2, 1, 1), (2, 2, 1), (2, 3, 1), (2, 4, 1), (2, 5, 1), (2, 6, 1), (2, 7, 1), (2, 8, 1), (3, 9, 1), (2, 10, 1), (2, 11, 1), (3, 12, 1), (2, 13, 1)]⟩),
  (29, ⟨some (.agg (.pair (.int .i64) .bool)), [.dat (.int .i64) (0 : Int), .dat .bool false], .struct [(3, 0, 1), (4, 1, 1)]⟩),
  (31, ⟨some (.agg (.pair (.int .i64) (.int .i64))), [.dat (.int .i64) (0 : Int), .dat (.int .i64) (0 : Int)], .struct [(2, 0, 1), (2, 1, 1)]⟩),
  (33, ⟨some (.agg (.pair (.agg (.pair (.int .i64) (.int .i64))) (.int .i64))), [.dat (.int .i64) (0 : Int), .dat (.int .i64) (0 : Int), .dat (.int .i64) (0 : Int)], .struct [(31, 0, 2), (3, 2, 1)]⟩),
  (40, ⟨some (.slice (.agg (.pair (.int .i64) (.int .i64)))), [.nil], .slice 115 2 16⟩),
  (44, ⟨some (.slice (.agg (.pair (.int .i64) (.int .i64)))), [.nil], .slice 116 2 16⟩),
  (57, ⟨some (.slice (.agg (.pair (.int .i64) (.pair (.slice (.agg (.pair (.int .i64) (.int .i64)))) (.slice (.int .i64)))))), [.nil], .slice 123 3 56⟩),
  (58, ⟨some (.slice (.agg (.pair (.int .i64) (.pair (.int .i64) (.pair (.int .i64) (.pair (.int .i64) (.int .i64))))))), [.nil], .slice 74 5 40⟩),
  (60, ⟨some (.agg (.pair (.slice (.agg (.pair (.int .i64) (.pair (.slice (.agg (.pair (.int .i64) (.int .i64)))) (.slice (.int .i64)))))) (.slice (.agg (.pair (.int .i64) (.pair (.int .i64) (.pair (.int .i64) (.pair (.int .i64) (.int .i64))))))))), [.nil, .nil], .struct [(57, 0, 1), (58, 1, 1)]⟩),
  (66, ⟨some (.slice (.agg (.pair (.int .i64) (.pair (.slice (.agg (.pair (.int .i64) (.int .i64)))) (.slice (.int .i64)))))), [.nil], .slice 128 3 56⟩),
  (67, ⟨some (.slice (.agg (.pair (.int .i64) (.pair (.int .i64) (.pair (.int .i64) (.pair (.int .i64) (.int .i64))))))), [.nil], .slice 129 5 40⟩),
  (69, ⟨some (.agg (.pair (.slice (.agg (.pair (.int .i64) (.pair (.slice (.agg (.pair (.int .i64) (.int .i64)))) (.slice (.int .i64)))))) (.slice (.agg (.pair (.int .i64) (.pair (.int .i64) (.pair (.int .i64) (.pair (.int .i64) (.int .i64))))))))), [.nil, .nil], .struct [(66, 0, 1), (67, 1, 1)]⟩),
  (74, ⟨some (.agg (.pair (.int .i64) (.pair (.int .i64) (.pair (.int .i64) (.pair (.int .i64) (.int .i64)))))), [.dat (.int .i64) (0 : Int), .dat (.int .i64) (0 : Int), .dat (.int .i64) (0 : Int), .dat (.int .i64) (0 : Int), .dat (.int .i64) (0 : Int)], .struct [(3, 0, 1), (3, 1, 1), (2, 2, 1), (2, 3, 1), (2, 4, 1)]⟩),
  (76, ⟨some (.slice (.agg (.pair (.int .i64) (.pair (.int .i64) (.int .i64))))), [.nil], .slice 84 3 24⟩),
  (79, ⟨some (.slice (.agg (.pair (.int .i64) (.pair (.int .i64) (.int .i64))))), [.nil], .slice 83 3 24⟩),
  (83, ⟨some (.agg (.pair (.int .i64) (.pair (.int .i64) (.int .i64)))), [.dat (.int .i64) (0 : Int), .dat (.int .i64) (0 : Int), .dat (.int .i64) (0 : Int)], .struct [(3, 0, 1), (2, 1, 1), (2, 2, 1)]⟩),
  (84, ⟨some (.agg (.pair (.int .i64) (.pair (.int .i64) (.int .i64)))), [.dat (.int .i64) (0 : Int), .dat (.int .i64) (0 : Int), .dat (.int .i64) (0 : Int)], .struct [(3, 0, 1), (2, 1, 1), (2, 2, 1)]⟩),
  (103, ⟨some (.int .u64), [.dat (.int .u64) (0 : Int)], .scalar⟩),
  (115, ⟨some (.agg (.pair (.int .i64) (.int .i64))), [.dat (.int .i64) (0 : Int), .dat (.int .i64) (0 : Int)], .struct [(2, 0, 1), (2, 1, 1)]⟩),
  (116, ⟨some (.agg (.pair (.int .i64) (.int .i64))), [.dat (.int .i64) (0 : Int), .dat (.int .i64) (0 : Int)], .struct [(2, 0, 1), (2, 1, 1)]⟩),
  (121, ⟨some (.slice (.int .i64)), [.nil], .slice 3 1 8⟩),
  (123, ⟨some (.agg (.pair (.int .i64) (.pair (.slice (.agg (.pair (.int .i64) (.int .i64)))) (.slice (.int .i64))))), [.dat (.int .i64) (0 : Int), .nil, .nil], .struct [(2, 0, 1), (40, 1, 1), (121, 2, 1)]⟩),
  (128, ⟨some (.agg (.pair (.int .i64) (.pair (.slice (.agg (.pair (.int .i64) (.int .i64)))) (.slice (.int .i64))))), [.dat (.int .i64) (0 : Int), .nil, .nil], .struct [(2, 0, 1), (44, 1, 1), (121, 2, 1)]⟩),
  (129, ⟨some (.agg (.pair (.int .i64) (.pair (.int .i64) (.pair (.int .i64) (.pair (.int .i64) (.int .i64)))))), [.dat (.int .i64) (0 : Int), .dat (.int .i64) (0 : Int), .dat (.int .i64) (0 : Int), .dat (.int .i64) (0 : Int), .dat (.int .i64) (0 : Int)], .struct [(3, 0, 1), (3, 1, 1), (2, 2, 1), (2, 3, 1), (2, 4, 1)]⟩)]
theorem tys_ok : tysB Try.prog tys = true := by kernel_rfl
end Go.Proofs.Ytckghclpdfbigaa
