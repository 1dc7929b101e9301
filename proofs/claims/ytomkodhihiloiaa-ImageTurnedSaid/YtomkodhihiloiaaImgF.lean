/- Images: the bytes of numbers. -/
import Derived.Test.YtomkodhihiloiaaPlain
import Derived.Test.YtomkodhihiloiaaFnsD
import Derived.Test.YtomkodhihiloiaaLoopF
import Derived.Test.YtomkodhihiloiaaRefTrackF
import Derived.Test.YtomkodhihiloiaaConfF
set_option linter.unusedSimpArgs false
set_option linter.unusedVariables false
namespace Go.Proofs.Ytomkodhihiloiaa
/-- A number's bytes: its lowest ones, the highest of them first. -/
def putL (v : Int) (n : Nat) : List Int := (List.range n).map fun j => v / 256 ^ (n - 1 - j) % 256
theorem putL_length (v : Int) (n : Nat) : (putL v n).length = n := by simp [putL]
theorem putL_take (v : Int) (n k : Nat) (hk : k < n) : (putL v n).take (k + 1) = (putL v n).take k ++ [v / 256 ^ (n - 1 - k) % 256] := by
  have hl : k < (putL v n).length := by rw [putL_length]; exact hk
  rw [List.take_add_one, List.getElem?_eq_getElem hl]
  simp [putL]
theorem pow_256 (i : Nat) : (2 : Int) ^ (8 * i) = 256 ^ i := by rw [Int.pow_mul]; rfl
theorem f_put (out : List Int) (v : Int) (n : Nat) (hn : n ≤ 8) (hl : out.length + n ≤ 140737488355328) : F_image_put out v (n : Int) = some (out ++ putL v n) := by
  unfold F_image_put
  simp only []
  rw [wrap_ok (n := (n : Int) - 1) (by omega)]
  rw [show (((n : Int) - 1, out) : Int × List Int) = ((n : Int) - 1 - ((0 : Nat) : Int), out ++ (putL v n).take 0) by simp]
  rw [loop_run (n := n) (st := fun k => ((n : Int) - 1 - (k : Int), out ++ (putL v n).take k)) (x := out ++ putL v n)]
  · rfl
  · intro k hk
    simp only []
    have e1 : (n : Int) - 1 - (k : Int) = ((n - 1 - k : Nat) : Int) := by omega
    rw [e1]
    have hi : n - 1 - k ≤ 7 := by omega
    generalize hg : n - 1 - k = i at *
    rw [decide_eq_true (show (0 : Int) ≤ (i : Int) by omega), wrap_ok (n := 8 * (i : Int)) (by omega)]
    have e2 : IntKind.u64.wrap (8 * (i : Int)) = 8 * (i : Int) := by rw [IntKind.wrap_u64]; omega
    rw [e2, decide_eq_true (show (0 : Int) ≤ 8 * (i : Int) by omega)]
    have e3 : min (8 * (i : Int)).toNat 64 = 8 * i := by omega
    rw [e3, pow_256]
    have e4 : IntKind.u8.wrap (v.fdiv (256 ^ i)) = v / 256 ^ i % 256 := by
      rw [Int.fdiv_eq_ediv_of_nonneg v (Int.le_of_lt (Int.pow_pos (by decide)))]
      show IntKind.u8.wrap _ = _
      simp [IntKind.wrap, IntKind.signed, IntKind.bits]
    rw [e4]
    have e5 : ((out ++ (putL v n).take k).length + ([v / 256 ^ i % 256] : List Int).length) * 1 ≤ 140737488355328 := by
      simp [putL_length]
      omega
    rw [decide_eq_true e5, wrap_ok (n := (i : Int) - 1) (by omega)]
    simp only [cond_true, chk_yes]
    have e6 := putL_take v n k hk
    rw [hg] at e6
    rw [e6, List.append_assoc]
    refine congrArg some (congrArg Sum.inl ?_)
    simp only [Prod.mk.injEq, and_true]
    omega
  · simp only []
    rw [decide_eq_false (by omega)]
    rw [List.take_of_length_le (by rw [putL_length]; exact Nat.le_refl _)]
    rfl
end Go.Proofs.Ytomkodhihiloiaa
