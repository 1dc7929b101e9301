/- Images: what the document opens. -/
import Derived.Test.YtomkodhihiloiaaImgJ
set_option linter.unusedSimpArgs false
set_option linter.unusedVariables false
namespace Go.Proofs.Ytomkodhihiloiaa
open Go.RowKit
theorem take4 {b : List Int} (h : 4 ≤ b.length) : b.take 4 = [b.getD 0 0, b.getD 1 0, b.getD 2 0, b.getD 3 0] := by
  match b, h with
  | a :: b :: c :: d :: l, _ => rfl
theorem ne_bif (a b : Int) : (a != b) = !decide (a = b) := by
  by_cases h : a = b
  · subst h; simp
  · simp [h]
end Go.Proofs.Ytomkodhihiloiaa
