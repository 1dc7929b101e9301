/- The walks of package num. -/
import Derived.Test.YtbpadfmdjgjjlaaRows
import Derived.Test.YtbpadfmdjgjjlaaFields
import Derived.Test.YtbpadfmdjgjjlaaPlain
import Derived.Test.YtbpadfmdjgjjlaaLate
import Derived.Outline
set_option linter.unusedSimpArgs false
set_option linter.unusedVariables false
namespace Go.Proofs.Ytbpadfmdjgjjlaa
open Go.RowKit
theorem ret_fit {n s : Int} (h : -9223372036854775808 ≤ n ∧ n ≤ 9223372036854775807) (e : s = n) :
    Ending.returned (.tuple #[.int .i64 s, .bool true]) = .returned (.tuple #[.int .i64 (or0 n), .bool (in64 n)]) := by
  rw [or0_yes h, in64_yes h, e]
theorem ret_over {n : Int} (h : ¬ (-9223372036854775808 ≤ n ∧ n ≤ 9223372036854775807)) :
    Ending.returned (.tuple #[.int .i64 0, .bool false]) = .returned (.tuple #[.int .i64 (or0 n), .bool (in64 n)]) := by
  rw [or0_no h, in64_no h]
theorem num_Add (a b : Int) (ha : I64 a) (hb : I64 b) (w : World) :
    Calls Try.prog 75 #[.int .i64 a, .int .i64 b] w fun e w' => e = .returned (.tuple #[.int .i64 (or0 (a + b)), .bool (in64 (a + b))]) ∧ w = w' := by
  obtain ⟨h1, h2⟩ := ha
  obtain ⟨h3, h4⟩ := hb
  by_cases h : -9223372036854775808 ≤ a + b ∧ a + b ≤ 9223372036854775807
  · obtain ⟨h5, h6⟩ := h
    go_enter Try.func75, Try.ntmps75
    go_wp2
    all_goals go_ret2
    all_goals first | exact ⟨ret_fit ⟨h5, h6⟩ rfl, rfl⟩ | (exfalso; simp at *; omega)
  · have hw : wrap64 (a + b) = (a + b + 9223372036854775808) % 18446744073709551616 - 9223372036854775808 := wrap_of _
    have hs : (0 ≤ a ∧ 0 ≤ b ∧ wrap64 (a + b) < 0) ∨ (a < 0 ∧ b < 0 ∧ 0 ≤ wrap64 (a + b)) := by omega
    clear hw
    rcases hs with ⟨h5, h6, h7⟩ | ⟨h5, h6, h7⟩
    all_goals
      go_enter Try.func75, Try.ntmps75
      go_wp2
      all_goals go_ret2
      all_goals first | exact ⟨ret_over h, rfl⟩ | (exfalso; simp at *; omega)
theorem num_Sub (a b : Int) (ha : I64 a) (hb : I64 b) (w : World) :
    Calls Try.prog 76 #[.int .i64 a, .int .i64 b] w fun e w' => e = .returned (.tuple #[.int .i64 (or0 (a - b)), .bool (in64 (a - b))]) ∧ w = w' := by
  obtain ⟨h1, h2⟩ := ha
  obtain ⟨h3, h4⟩ := hb
  by_cases h : -9223372036854775808 ≤ a - b ∧ a - b ≤ 9223372036854775807
  · obtain ⟨h5, h6⟩ := h
    go_enter Try.func76, Try.ntmps76
    go_wp2
    all_goals go_ret2
    all_goals first | exact ⟨ret_fit ⟨h5, h6⟩ rfl, rfl⟩ | (exfalso; simp at *; omega)
  · have hw : wrap64 (a - b) = (a - b + 9223372036854775808) % 18446744073709551616 - 9223372036854775808 := wrap_of _
    have hs : (0 ≤ a ∧ b < 0 ∧ wrap64 (a - b) < 0) ∨ (a < 0 ∧ 0 ≤ b ∧ 0 ≤ wrap64 (a - b)) := by omega
    clear hw
    rcases hs with ⟨h5, h6, h7⟩ | ⟨h5, h6, h7⟩
    all_goals
      go_enter Try.func76, Try.ntmps76
      go_wp2
      all_goals go_ret2
      all_goals first | exact ⟨ret_over h, rfl⟩ | (exfalso; simp at *; omega)
/-- A number without its sign. -/
def szi (a : Int) : Int := if a < 0 then -a else a
theorem num_Size (a : Int) (ha : I64 a) (w : World) :
    Calls Try.prog 78 #[.int .i64 a] w fun e w' => e = .returned (.int .u64 (szi a)) ∧ w = w' := by
  obtain ⟨h1, h2⟩ := ha
  by_cases h : a < 0
  · go_enter Try.func78, Try.ntmps78
    go_wp2
    go_ret
    exact ⟨ret_int (by rw [uwrap_of, uwrap_of, szi, if_pos h]; omega), rfl⟩
  · go_enter Try.func78, Try.ntmps78
    go_wp2
    go_ret
    exact ⟨ret_int (by rw [szi, if_neg (by omega)]), rfl⟩
theorem num_Mid (a b : Int) (ha : I64 a) (hb : I64 b) (w : World) :
    Calls Try.prog 74 #[.int .i64 a, .int .i64 b] w fun e w' => e = .returned (.int .i64 ((a + b) / 2)) ∧ w = w' := by
  have ha' := ha
  have hb' := hb
  obtain ⟨h1, h2⟩ := ha
  obtain ⟨h3, h4⟩ := hb
  go_enter Try.func74, Try.ntmps74
  go_wp2
  go_ret
  exact ⟨ret_int (by rw [mid_plain a b ha' hb']; exact IntWalk.wrap64_in _ ⟨by omega, by omega⟩), rfl⟩
end Go.Proofs.Ytbpadfmdjgjjlaa
