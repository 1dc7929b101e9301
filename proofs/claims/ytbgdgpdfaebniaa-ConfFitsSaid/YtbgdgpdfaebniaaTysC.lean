/- The functional reading of the code (printed). -/
import Derived.Test.YtbgdgpdfaebniaaEngTy
import Derived.Test.YtbgdgpdfaebniaaProg
set_option linter.unusedSimpArgs false
set_option linter.unusedVariables false
namespace Go.Proofs.Ytbgdgpdfaebniaa
open Go
def H0 : Hint := .mk .plain []
def tys : List (Nat × TD) := [
  (2, ⟨some (.int .i64), [.dat (.int .i64) (0 : Int)], .scalar⟩),
  (3, ⟨some (.int .i64), [.dat (.int .i64) (0 : Int)], .scalar⟩),
  (4, ⟨some .bool, [.dat .bool false], .scalar⟩),
  (21, ⟨some (.int .i32), [.dat (.int .i32) (0 : Int)], .scalar⟩),
  (23, ⟨some (.agg (.pair (.int .i64) (.pair (.int .i64) (.pair (.int .i64) (.pair (.int .i64) (.pair (.int .i64) (.pair (.int .i64) (.pair (.int .i64) (.pair (.int .i64) (.pair (.int .i64) (.pair (.int .i64) (.pair (.int .i64) (.pair (.int .i64) (.pair (.int .i64) (.int .i64))))))))))))))), List.replicate 14 (.dat (.int .i64) (0 : Int)), .struct [(2, 0, 1), (2, 1, 1), (2, 2, 1), (2, 3, 1), (2, 4, 1), (2, 5, 1), (2, 6, 1), (2, 7, 1), (2, 8, 1), (3, 9, 1), (2, 10, 1), (2, 11, 1), (3, 12, 1), (2, 13, 1)]⟩),
  (24, ⟨none, [.undef], .scalar⟩),
  (29, ⟨some (.agg (.pair (.int .i64) (.pair (.int .i64) (.pair (.int .i64) (.pair (.int .i64) (.pair (.int .i64) (.pair (.int .i64) (.pair (.int .i64) (.pair (.int .i64) (.pair (.int .i64) (.pair (.int .i64) (.pair (.int .i64) (.pair (.int .i64) (.pair (.int .i64) (.int .i64))))))))))))))), List.replicate 14 (.dat (.int .i64) (0 : Int)), .struct [(2, 0, 1), (2, 1, 1), (2, 2, 1), (2, 3, 1), (2, 4, 1), (2, 5, 1), (2, 6, 1), (2, 7, 1), (2, 8, 1), (3, 9, 1), (2, 10, 1), (2, 11, 1), (3, 12, 1), (2, 13, 1)]⟩),
  (37, ⟨some (.agg (.pair (.int .i64) (.int .i64))), [.dat (.int .i64) (0 : Int), .dat (.int .i64) (0 : Int)], .struct [(2, 0, 1), (2, 1, 1)]⟩),
  (43, ⟨some (.int .i16), [.dat (.int .i16) (0 : Int)], .scalar⟩),
  (61, ⟨some (.slice (.agg (.pair (.int .i64) (.pair (.slice (.agg (.pair (.int .i64) (.int .i64)))) (.slice (.int .i64)))))), [.nil], .slice 96 3 56⟩),
  (62, ⟨some (.slice (.agg (.pair (.int .i64) (.pair (.int .i64) (.pair (.int .i64) (.pair (.int .i64) (.int .i64))))))), [.nil], .slice 98 5 40⟩),
  (64, ⟨some (.agg (.pair (.slice (.agg (.pair (.int .i64) (.pair (.slice (.agg (.pair (.int .i64) (.int .i64)))) (.slice (.int .i64)))))) (.slice (.agg (.pair (.int .i64) (.pair (.int .i64) (.pair (.int .i64) (.pair (.int .i64) (.int .i64))))))))), [.nil, .nil], .struct [(61, 0, 1), (62, 1, 1)]⟩),
  (69, ⟨some (.slice (.agg (.pair (.int .i64) (.pair (.slice (.agg (.pair (.int .i64) (.int .i64)))) (.slice (.int .i64)))))), [.nil], .slice 104 3 56⟩),
  (70, ⟨some (.slice (.agg (.pair (.int .i64) (.pair (.int .i64) (.pair (.int .i64) (.pair (.int .i64) (.int .i64))))))), [.nil], .slice 101 5 40⟩),
  (72, ⟨some (.agg (.pair (.slice (.agg (.pair (.int .i64) (.pair (.slice (.agg (.pair (.int .i64) (.int .i64)))) (.slice (.int .i64)))))) (.slice (.agg (.pair (.int .i64) (.pair (.int .i64) (.pair (.int .i64) (.pair (.int .i64) (.int .i64))))))))), [.nil, .nil], .struct [(69, 0, 1), (70, 1, 1)]⟩),
  (80, ⟨none, [.nil], .slice 24 1 8⟩),
  (93, ⟨some (.slice (.agg (.pair (.int .i64) (.int .i64)))), [.nil], .slice 106 2 16⟩),
  (94, ⟨some (.slice (.int .i64)), [.nil], .slice 3 1 8⟩),
  (96, ⟨some (.agg (.pair (.int .i64) (.pair (.slice (.agg (.pair (.int .i64) (.int .i64)))) (.slice (.int .i64))))), [.dat (.int .i64) (0 : Int), .nil, .nil], .struct [(2, 0, 1), (93, 1, 1), (94, 2, 1)]⟩),
  (98, ⟨some (.agg (.pair (.int .i64) (.pair (.int .i64) (.pair (.int .i64) (.pair (.int .i64) (.int .i64)))))), [.dat (.int .i64) (0 : Int), .dat (.int .i64) (0 : Int), .dat (.int .i64) (0 : Int), .dat (.int .i64) (0 : Int), .dat (.int .i64) (0 : Int)], .struct [(3, 0, 1), (3, 1, 1), (2, 2, 1), (2, 3, 1), (2, 4, 1)]⟩),
  (101, ⟨some (.agg (.pair (.int .i64) (.pair (.int .i64) (.pair (.int .i64) (.pair (.int .i64) (.int .i64)))))), [.dat (.int .i64) (0 : Int), .dat (.int .i64) (0 : Int), .dat (.int .i64) (0 : Int), .dat (.int .i64) (0 : Int), .dat (.int .i64) (0 : Int)], .struct [(3, 0, 1), (3, 1, 1), (2, 2, 1), (2, 3, 1), (2, 4, 1)]⟩),
  (102, ⟨some (.slice (.agg (.pair (.int .i64) (.int .i64)))), [.nil], .slice 107 2 16⟩),
  (104, ⟨some (.agg (.pair (.int .i64) (.pair (.slice (.agg (.pair (.int .i64) (.int .i64)))) (.slice (.int .i64))))), [.dat (.int .i64) (0 : Int), .nil, .nil], .struct [(2, 0, 1), (102, 1, 1), (94, 2, 1)]⟩),
  (106, ⟨some (.agg (.pair (.int .i64) (.int .i64))), [.dat (.int .i64) (0 : Int), .dat (.int .i64) (0 : Int)], .struct [(2, 0, 1), (2, 1, 1)]⟩),
  (107, ⟨some (.agg (.pair (.int .i64) (.int .i64))), [.dat (.int .i64) (0 : Int), .dat (.int .i64) (0 : Int)], .struct [(2, 0, 1), (2, 1, 1)]⟩),
  (117, ⟨some (.int .u64), [.dat (.int .u64) (0 : Int)], .scalar⟩),
  (119, ⟨some (.agg (.pair (.int .u64) (.int .u64))), [.dat (.int .u64) (0 : Int), .dat (.int .u64) (0 : Int)], .struct [(117, 0, 1), (117, 1, 1)]⟩),
  (129, ⟨some (.int .u64), [.dat (.int .u64) (0 : Int)], .scalar⟩)]
theorem tys_ok : tysB Try.prog tys = true := by kernel_rfl
end Go.Proofs.Ytbgdgpdfaebniaa
