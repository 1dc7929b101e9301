/- Laws of chapter 03: what their readings say is true. -/
import Derived.Test.YtbpadfmdjgjjlaaRefF
import Derived.Test.YtbpadfmdjgjjlaaEngRow
set_option linter.unusedSimpArgs false
set_option linter.unusedVariables false
namespace Go.Proofs.Ytbpadfmdjgjjlaa
open Go.RowKit
theorem f_anchor03 : F_law03_anchor () = some true := by
  unfold F_law03_anchor
  rw [f_Floor (-7) 1 2 ⟨by omega, by omega⟩ ⟨by omega, by omega⟩ ⟨by omega, by omega⟩, f_Ceil (-7) 1 2 ⟨by omega, by omega⟩ ⟨by omega, by omega⟩ ⟨by omega, by omega⟩]
  decide +kernel
theorem quoI_mono {n m c : Int} (h : n ≤ m) (hc : 0 < c) (up : Bool) : quoI n c up ≤ quoI m c up := by
  have e : szI c = c := by unfold szI; rw [if_neg (by omega)]
  unfold quoI
  simp only [if_neg (show ¬ c < 0 by omega), e]
  cases up with
  | false => exact Int.ediv_le_ediv hc h
  | true =>
    have := Int.ediv_le_ediv hc (show -m ≤ -n by omega)
    simp only [if_true]
    omega
theorem say_le {p q : Int} (h : p ≤ q) : (bif (bif (sayI p).2 != 0 then true else (sayI q).2 != 0) then true else decide ((sayI p).1 ≤ (sayI q).1)) = true := by
  unfold sayI
  by_cases h1 : in64 p = true <;> by_cases h2 : in64 q = true <;> simp [h1, h2, h]
theorem f_RatioOrder (a m b c : Int) (ha : I64 a) (hm : I64 m) (hb : I64 b) (hc : I64 c) : F_law03_RatioOrder a m b c = some true := by
  unfold F_law03_RatioOrder
  rw [f_anchor03]
  simp only [Option.bind_some, Bool.not_true, cond_false]
  by_cases h : m < a ∨ b < 0 ∨ c ≤ 0
  · have : (bif bif bif decide (m < a) then true else decide (b < 0) then true else decide (c ≤ 0) then true else false) = true := by
      by_cases h1 : m < a <;> by_cases h2 : b < 0 <;> by_cases h3 : c ≤ 0 <;> simp [h1, h2, h3]; omega
    by_cases h1 : m < a <;> by_cases h2 : b < 0 <;> by_cases h3 : c ≤ 0 <;> first | (exfalso; omega) | simp [h1, h2, h3]
  · have e1 : decide (m < a) = false := by simp; omega
    have e2 : decide (b < 0) = false := by simp; omega
    have e3 : decide (c ≤ 0) = false := by simp; omega
    simp only [e1, e2, e3, cond_false]
    rw [f_Floor a b c ha hb hc, f_Floor m b c hm hb hc, f_Ceil a b c ha hb hc, f_Ceil m b c hm hb hc]
    simp only [Option.bind_some, if_neg (show ¬ c = 0 by omega)]
    have hmul : a * b ≤ m * b := Int.mul_le_mul_of_nonneg_right (by omega) (by omega)
    have k1 := say_le (quoI_mono hmul (show 0 < c by omega) false)
    have k2 := say_le (quoI_mono hmul (show 0 < c by omega) true)
    rw [k1, k2]
    rfl
theorem law03_RatioOrder (a m b c : Int) (ha : I64 a) (hm : I64 m) (hb : I64 b) (hc : I64 c) (w : World) :
    Calls Try.prog 12 #[.int .i64 a, .int .i64 m, .int .i64 b, .int .i64 c] w fun e w' => e = .returned (.bool true) ∧ Below w.heap.size w w' :=
  call_true ok_F_law03_RatioOrder rfl (x := (a, m, b, c)) (f_RatioOrder _ _ _ _ ha hm hb hc) rfl w _ ⟨rl_i64 ha, rl_i64 hm, rl_i64 hb, rl_i64 hc, trivial⟩
end Go.Proofs.Ytbpadfmdjgjjlaa
