/- Images: the bytes of numbers. -/
import Derived.Test.YtomkodhihiloiaaDoorPlain
import Derived.Test.YtomkodhihiloiaaDoorFnsDD
import Derived.Test.YtomkodhihiloiaaDoorLoopF
import Derived.Test.YtomkodhihiloiaaDoorRefTrackF
import Derived.Test.YtomkodhihiloiaaDoorConfF
set_option linter.unusedSimpArgs false
set_option linter.unusedVariables false
namespace Go.Proofs.YtomkodhihiloiaaDoor
/-- A number's bytes: its lowest ones, the highest of them first. -/
def putL (v : Int) (n : Nat) : List Int := (List.range n).map fun j => v / 256 ^ (n - 1 - j) % 256
theorem putL_length (v : Int) (n : Nat) : (putL v n).length = n := by simp [putL]
theorem putL_take (v : Int) (n k : Nat) (hk : k < n) : (putL v n).take (k + 1) = (putL v n).take k ++ [v / 256 ^ (n - 1 - k) % 256] := by
  have hl : k < (putL v n).length := by rw [putL_length]; exact hk
  rw [List.take_add_one, List.getElem?_eq_getElem hl]
  simp [putL]
theorem pow_256 (i : Nat) : (2 : Int) ^ (8 * i) = 256 ^ i := by rw [Int.pow_mul]; rfl
end Go.Proofs.YtomkodhihiloiaaDoor
