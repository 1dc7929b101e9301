/- The functional reading of the code (printed). -/
import Derived.Test.YtbgdgpdfaebniaaEngTy
import Derived.Test.YtbgdgpdfaebniaaProg
set_option linter.unusedSimpArgs false
set_option linter.unusedVariables false
namespace Go.Proofs.Ytbgdgpdfaebniaa
open Go
def H0 : Hint := .mk .plain []
def tys : List (Nat × TD) := [
  (2, ⟨some (.int .i64), [.dat (.int .i64) (0 : Int)], .scalar⟩),
  (3, ⟨some (.int .i64), [.dat (.int .i64) (0 : Int)], .scalar⟩),
  (4, ⟨some .bool, [.dat .bool false], .scalar⟩),
  (21, ⟨some (.int .i32), [.dat (.int .i32) (0 : Int)], .scalar⟩),
  (23, ⟨some (.agg (.pair (.int .i64) (.pair (.int .i64) (.pair (.int .i64) (.pair (.int .i64) (.pair (.int .i64) (.pair (.int .i64) (.pair (.int .i64) (.pair (.int .i64) (.pair (.int .i64) (.pair (.int .i64) (.pair (.int .i64) (.pair (.int .i64) (.pair (.int .i64) (.int .i64))))))))))))))), List.replicate 14 (.dat (.int .i64) (0 : Int)), .struct [(2, 0, 1), (2, 1, 1), (2, 2, 1), (2, 3, 1), (2, 4, 1), (2, 5, 1), (2, 6, 1), (2, 7, 1), (2, 8, 1), (3, 9, 1), (2, 10, 1), (2, 11, 1), (3, 12, 1), (2, 13, 1)]⟩),
  (29, ⟨some (.agg (.pair (.int .i64) (.pair (.int .i64) (.pair (.int .i64) (.pair (.int .i64) (.pair (.int .i64) (.pair (.int .i64) (.pair (.int .i64) (.pair (.int .i64) (.pair (.int .i64) (.pair (.int .i64) (.pair (.int .i64) (.pair (.int .i64) (.pair (.int .i64) (.int .i64))))))))))))))), List.replicate 14 (.dat (.int .i64) (0 : Int)), .struct [(2, 0, 1), (2, 1, 1), (2, 2, 1), (2, 3, 1), (2, 4, 1), (2, 5, 1), (2, 6, 1), (2, 7, 1), (2, 8, 1), (3, 9, 1), (2, 10, 1), (2, 11, 1), (3, 12, 1), (2, 13, 1)]⟩),
  (37, ⟨some (.agg (.pair (.int .i64) (.int .i64))), [.dat (.int .i64) (0 : Int), .dat (.int .i64) (0 : Int)], .struct [(2, 0, 1), (2, 1, 1)]⟩),
  (43, ⟨some (.int .i16), [.dat (.int .i16) (0 : Int)], .scalar⟩),
  (117, ⟨some (.int .u64), [.dat (.int .u64) (0 : Int)], .scalar⟩),
  (119, ⟨some (.agg (.pair (.int .u64) (.int .u64))), [.dat (.int .u64) (0 : Int), .dat (.int .u64) (0 : Int)], .struct [(117, 0, 1), (117, 1, 1)]⟩),
  (129, ⟨some (.int .u64), [.dat (.int .u64) (0 : Int)], .scalar⟩)]
theorem tys_ok : tysB Try.prog tys = true := by kernel_rfl
end Go.Proofs.Ytbgdgpdfaebniaa
