/- The laws of chapter 16: what their readings say is true. -/
import Derived.Test.YtlkcanjbgaeceaaGreatSpanF
set_option linter.unusedSimpArgs false
set_option linter.unusedVariables false
namespace Go.Proofs.YtlkcanjbgaeceaaGreat
open Go.RowKit
theorem mul_in {x y X Y : Int} (h1 : -X ≤ x) (h2 : x ≤ X) (h3 : 0 ≤ y) (h4 : y ≤ Y) (hX : 0 ≤ X) : -(X * Y) ≤ x * y ∧ x * y ≤ X * Y := by
  have a1 : x * y ≤ X * y := Int.mul_le_mul_of_nonneg_right h2 h3
  have a2 : X * y ≤ X * Y := Int.mul_le_mul_of_nonneg_left h4 hX
  have a3 : -X * y ≤ x * y := Int.mul_le_mul_of_nonneg_right h1 h3
  rw [Int.neg_mul] at a3
  omega
theorem wrap_id {n : Int} (h : -9223372036854775808 ≤ n ∧ n ≤ 9223372036854775807) : IntKind.i64.wrap n = n := by rw [IntKind.wrap_i64]; omega
theorem f_Down (a b : Int) (ha : I64 a) (hb : 0 < b) : F_ref15_Down a b = some (a / b) := by
  obtain ⟨h1, h2⟩ := ha
  have hne : (!(b == (0 : Int))) = true := by simp; omega
  have hdiv : I64 (a.tdiv b) ∧ I64 (a / b) := by
    have k1 : a / b * b ≤ a := Int.ediv_mul_le a (by omega)
    have k2 := Int.lt_ediv_add_one_mul_self a hb
    have k3 : (a / b) ≤ 9223372036854775807 := by
      apply Classical.byContradiction
      intro hn
      have : 9223372036854775808 * b ≤ a / b * b := Int.mul_le_mul_of_nonneg_right (by omega) (by omega)
      have : 9223372036854775808 * 1 ≤ 9223372036854775808 * b := Int.mul_le_mul_of_nonneg_left (by omega) (by omega)
      omega
    have k4 : -9223372036854775808 ≤ a / b := by
      apply Classical.byContradiction
      intro hn
      have h4 : (a / b + 1) * b ≤ -9223372036854775808 * b := Int.mul_le_mul_of_nonneg_right (by omega) (by omega)
      have : -9223372036854775808 * b ≤ -9223372036854775808 := by omega
      omega
    refine ⟨?_, k4, k3⟩
    rw [Int.tdiv_eq_ediv]
    unfold I64
    split
    · omega
    · rename_i hc
      simp only [not_or] at hc
      have hs : b.sign = 1 := Int.sign_eq_one_of_pos hb
      have : a / b < 0 := Int.ediv_neg_of_neg_of_pos (by omega) hb
      rw [hs]
      omega
  unfold F_ref15_Down
  simp only [chk_none hne]
  have ht : a.tmod b = if 0 ≤ a ∨ b ∣ a then a % b else a % b - b := by
    rw [Int.tmod_eq_emod]
    have : (b.natAbs : Int) = b := by omega
    split <;> simp [this]
  have hs : b.sign = 1 := Int.sign_eq_one_of_pos hb
  have hm1 := Int.emod_nonneg a (show b ≠ 0 by omega)
  have hm2 := Int.emod_lt_of_pos a hb
  rw [ht, Int.tdiv_eq_ediv, hs]
  obtain ⟨⟨_, _⟩, h5, h6⟩ := hdiv
  by_cases hc : 0 ≤ a ∨ b ∣ a
  · simp only [if_pos hc, decide_eq_false (show ¬ a % b < 0 by omega), cond_false, Option.bind_some, Int.add_zero]
    rw [wrap_id ⟨h5, h6⟩]
  · simp only [if_neg hc, decide_eq_true (show a % b - b < 0 by omega), cond_true, Option.bind_some]
    have hneg : a / b < 0 := Int.ediv_neg_of_neg_of_pos (by omega) hb
    rw [wrap_id (n := a / b + 1) (by omega), Int.add_sub_cancel, wrap_id ⟨h5, h6⟩]
theorem div_in {a b : Int} (ha : I64 a) (hb : 0 < b) : I64 (a / b) := by
  obtain ⟨h1, h2⟩ := ha
  have k1 : a / b * b ≤ a := Int.ediv_mul_le a (by omega)
  have k2 := Int.lt_ediv_add_one_mul_self a hb
  constructor
  · apply Classical.byContradiction
    intro hn
    have h4 : (a / b + 1) * b ≤ -9223372036854775808 * b := Int.mul_le_mul_of_nonneg_right (by omega) (by omega)
    omega
  · apply Classical.byContradiction
    intro hn
    have : 9223372036854775808 * b ≤ a / b * b := Int.mul_le_mul_of_nonneg_right (by omega) (by omega)
    omega
def upI (a b : Int) : Int := -((-a) / b)
theorem f_Up (a b : Int) (ha : -9223372036854775807 ≤ a ∧ a ≤ 9223372036854775807) (hb : 0 < b) : F_ref15_Up a b = some (upI a b) := by
  unfold F_ref15_Up upI
  have e : IntKind.i64.wrap (0 - a) = -a := by rw [wrap_id (by omega)]; omega
  have hi : I64 (-a) := ⟨by omega, by omega⟩
  have hd := div_in hi hb
  have hb2 : -9223372036854775807 ≤ -a / b := by
    have k2 := Int.lt_ediv_add_one_mul_self (-a) hb
    apply Classical.byContradiction
    intro hn
    have h4 : (-a / b + 1) * b ≤ -9223372036854775807 * b := Int.mul_le_mul_of_nonneg_right (by omega) (by omega)
    omega
  obtain ⟨_, h2⟩ := hd
  simp only [e, f_Down _ _ hi hb, Option.bind_some]
  refine congrArg some ?_
  rw [wrap_id (by omega)]
  omega
def May (circ way : Int × Int) (p n : Int) : Prop :=
  1 ≤ circ.1 ∧ circ.1 ≤ circ.2 ∧ circ.2 ≤ 8388608 ∧ -17592186044416 ≤ way.1 ∧ way.1 ≤ way.2 ∧ way.2 ≤ 17592186044416 ∧ 1 ≤ p ∧ p ≤ 1024 ∧ -1099511627776 ≤ n ∧ n ≤ 1099511627776
instance (circ way : Int × Int) (p n : Int) : Decidable (May circ way p n) := by unfold May; infer_instance
section
variable (w : World)
end
end Go.Proofs.YtlkcanjbgaeceaaGreat
