/- Images: what the document's readers say. -/
import Derived.Test.YtomkodhihiloiaaImgI
set_option linter.unusedSimpArgs false
set_option linter.unusedVariables false
namespace Go.Proofs.Ytomkodhihiloiaa
open Go.RowKit
/-- The document's place in bytes. -/
def refS (B : List Int) (x : Rs) : List Int × (Int × Bool) := (B, ((B.length : Int) - (x.1.length : Int), x.2))
theorem sgn_succ (i : Nat) (hi : 0 < i) (u c : Int) (hc : 0 ≤ c ∧ c ≤ 255) : sgn (i + 1) (256 * u + c) = 256 * sgn i u + c := by
  obtain ⟨k, rfl⟩ : ∃ k, i = k + 1 := ⟨i - 1, by omega⟩
  unfold sgn
  simp only [Nat.add_sub_cancel, Int.pow_succ]
  generalize (256 : Int) ^ k = p
  by_cases h : 128 * p ≤ u
  · rw [if_pos h, if_pos (by omega)]; omega
  · rw [if_neg h, if_neg (by omega)]
theorem sgn_one (c : Int) : sgn 1 c = if 128 ≤ c then c - 256 else c := rfl
/-- The number up to its first i bytes. -/
def valI (s : Bool) (l : List Int) (i : Nat) : Int := bif s then sgn i (numU (l.take i)) else numU (l.take i)
theorem valI_zero (s : Bool) (l : List Int) : valI s l 0 = 0 := by cases s <;> rfl
theorem valI_step (s : Bool) (l : List Int) (i : Nat) (hi : i < l.length) (hb : ByL l) :
    valI s l (i + 1) = 256 * valI s l i + (bif ((i : Int) == 0) && s && decide (128 ≤ l.getD i 0) then l.getD i 0 - 256 else l.getD i 0) := by
  have hc := byL_bytes hb i
  unfold valI
  rw [numU_take hi]
  cases s with
  | false => simp only [cond_false, Bool.and_false, Bool.false_and]
  | true =>
    simp only [cond_true, Bool.and_true]
    by_cases h0 : i = 0
    · subst h0
      rw [show numU (l.take 0) = 0 from rfl, show sgn 0 0 = 0 from rfl, Int.mul_zero, Int.zero_add, Int.zero_add, Nat.zero_add, sgn_one]
      by_cases h : 128 ≤ l.getD 0 0
      · rw [if_pos h, decide_eq_true h]; rfl
      · rw [if_neg h, decide_eq_false h]; rfl
    · have e : ((i : Int) == 0) = false := beq_false_of_ne (by omega)
      rw [sgn_succ i (by omega) _ _ hc, e]
      rfl
theorem valI_range (s : Bool) (l : List Int) (hb : ByL l) (i : Nat) (hi : i ≤ l.length) (h : i ≤ 6 ∨ (s = true ∧ i ≤ 7)) : -36028797018963968 ≤ valI s l i ∧ valI s l i ≤ 36028797018963967 := by
  have hr := numU_range (byL_take hb i)
  rw [List.length_take, Nat.min_eq_left hi] at hr
  unfold valI
  have p6 : (256 : Int) ^ 6 = 281474976710656 := by decide
  have p7 : (256 : Int) ^ 7 = 72057594037927936 := by decide
  rcases h with h | ⟨h, h7⟩
  · have hp := pow_le_256 h
    rw [p6] at hp
    cases s with
    | false => simp only [cond_false]; omega
    | true =>
      simp only [cond_true]
      unfold sgn
      split <;> omega
  · subst h
    simp only [cond_true]
    unfold sgn
    cases i with
    | zero => simp at hr ⊢; split <;> omega
    | succ i =>
      have hp := pow_le_256 (show i ≤ 6 by omega)
      rw [p6] at hp
      rw [Int.pow_succ] at hr ⊢
      rw [Nat.add_sub_cancel]
      have hp0 : (0 : Int) < 256 ^ i := Int.pow_pos (by decide)
      generalize (256 : Int) ^ i = p at *
      split <;> omega
theorem suf_getD {l B : List Int} (h : l <:+ B) (i : Nat) (hi : i < l.length) : B.getD (B.length - l.length + i) 0 = l.getD i 0 := by
  obtain ⟨p, rfl⟩ := h
  rw [List.length_append, Nat.add_sub_cancel, List.getD_eq_getElem?_getD, List.getElem?_append_right (by omega), Nat.add_sub_cancel_left, ← List.getD_eq_getElem?_getD]
theorem refS_back (B : List Int) (x : Rs) : (B, ((B.length : Int) - (x.1.length : Int), x.2)) = refS B x := rfl
end Go.Proofs.Ytomkodhihiloiaa
