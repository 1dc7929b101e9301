/- Images: what the document puts together. -/
import Derived.Test.YtomkodhihiloiaaImgL
set_option linter.unusedSimpArgs false
set_option linter.unusedVariables false
namespace Go.Proofs.Ytomkodhihiloiaa
open Go.RowKit
theorem rep_set : ∀ (k : Nat) (X : List Int) (a : Int), (List.replicate (k + 1) (0 : Int) ++ X).set k a = List.replicate k 0 ++ a :: X
  | 0, X, a => rfl
  | k + 1, X, a => by
    rw [List.replicate_succ, List.cons_append, List.set_cons_succ, rep_set k X a]
    rfl
theorem putL_drop (v : Int) (n j : Nat) (h : j < n) : (putL v n).drop j = v / 256 ^ (n - 1 - j) % 256 :: (putL v n).drop (j + 1) := by
  have hl : j < (putL v n).length := by rw [putL_length]; exact h
  rw [List.drop_eq_getElem_cons hl]
  simp [putL]
theorem neg_div (v m : Int) (hm : 0 < m) : (-1 - v) / m = -1 - v / m := by
  have h1 := Int.emod_nonneg v (Int.ne_of_gt hm)
  have h2 := Int.emod_lt_of_pos v hm
  have h3 := Int.mul_ediv_add_emod v m
  have e : -1 - v = m * (-1 - v / m) + (m - 1 - v % m) := by rw [Int.mul_sub]; omega
  rw [e, Int.add_comm, Int.add_mul_ediv_left _ _ (Int.ne_of_gt hm), Int.ediv_eq_zero_of_lt (by omega) (by omega), Int.zero_add]
theorem div_step (v : Int) (k : Nat) : v / 256 ^ k / 256 = v / 256 ^ (k + 1) := by
  rw [Int.pow_succ, Int.ediv_ediv_of_nonneg (Int.le_of_lt (Int.pow_pos (by decide)))]
theorem div_le_self {w m : Int} (hw : 0 ≤ w) (hm : 0 < m) : 0 ≤ w / m ∧ w / m ≤ w :=
  ⟨Int.ediv_nonneg hw (by omega), Int.ediv_le_self m hw⟩
theorem putL_one (v : Int) : putL v 1 = [v % 256] := by simp [putL]
theorem wrap_u8 (v : Int) : [IntKind.u8.wrap v] = putL v 1 := by
  rw [putL_one]
  simp [IntKind.wrap, IntKind.signed, IntKind.bits]
/-- All numbers of a track. -/
def Nums (t : Tk) : Prop := (∀ s ∈ t.1, I64 s.1 ∧ ∀ p ∈ s.2.1, I64 p.1 ∧ I64 p.2) ∧ ∀ g ∈ t.2, I64 g.1 ∧ I64 g.2.2.1 ∧ I64 g.2.2.2.1 ∧ I64 g.2.2.2.2
end Go.Proofs.Ytomkodhihiloiaa
