/- Bits that are put are taken again: the law's reading says that it is true. -/
import Derived.Test.YtomkodhihiloiaaDoorBitF
set_option linter.unusedSimpArgs false
set_option linter.unusedVariables false
namespace Go.Proofs.YtomkodhihiloiaaDoor
open Go.RowKit
/-- A number as one without a sign. -/
def uOf (V : Int) : Nat := (V % 18446744073709551616).toNat
theorem uOf_wrap (V : Int) : IntKind.u64.wrap V = ((uOf V : Nat) : Int) ∧ uOf V < 18446744073709551616 := by
  unfold uOf
  rw [IntKind.wrap_u64]
  omega
theorem uOf_mod (V : Int) (m : Nat) (hm : m ≤ 64) : ((uOf V % 2 ^ m : Nat) : Int) = V % 2 ^ m := by
  have e : ((uOf V : Nat) : Int) = V % 18446744073709551616 := by unfold uOf; omega
  rw [Int.natCast_emod, e, Int.natCast_pow]
  show V % 18446744073709551616 % (2 : Int) ^ m = V % 2 ^ m
  apply Int.emod_emod_of_dvd
  refine ⟨2 ^ (64 - m), ?_⟩
  rw [← Int.pow_add, show m + (64 - m) = 64 by omega]
  decide
theorem row_start : RowZ [] 0 := ⟨fun i => by simp, rfl, fun p _ h => absurd h (by simp)⟩
theorem f_bitPutS (V : Int) (m : Nat) (hm : m ≤ 64) (l : List Int) (n : Nat) (h : RowZ l n) (hn : n ≤ 1000000) : F_bits_Row_PutSigned V (m : Int) l (n : Int) = some (putK l n (uOf V) m m, ((n + m : Nat) : Int)) := by
  unfold F_bits_Row_PutSigned
  obtain ⟨h1, h2⟩ := uOf_wrap V
  rw [h1, f_bitPut _ h2 m hm l n h hn]
  rfl
/-- Does a number fit in its bits? -/
def okF (f : Int × Int) : Bool := decide (1 ≤ f.2) && decide (f.2 ≤ 64) && (decide (f.2 = 64) || (decide (-(2 ^ (f.2.toNat - 1)) ≤ f.1) && decide (f.1 < 2 ^ (f.2.toNat - 1))))
/-- The rows of bits, number by number. -/
def rowS (l : List (Int × Int)) : Nat → List Int × Nat
  | 0 => ([], 0)
  | i + 1 => (putK (rowS l i).1 (rowS l i).2 (uOf (l.getD i (0, 0)).1) (l.getD i (0, 0)).2.toNat (l.getD i (0, 0)).2.toNat, (rowS l i).2 + (l.getD i (0, 0)).2.toNat)
theorem ok_many {f : Int × Int} (h : okF f = true) : 1 ≤ f.2.toNat ∧ f.2.toNat ≤ 64 ∧ f.2 = ((f.2.toNat : Nat) : Int) := by
  unfold okF at h
  simp only [Bool.and_eq_true, decide_eq_true_eq] at h
  omega
theorem row_ok {l : List (Int × Int)} : ∀ i, (∀ j, j < i → okF (l.getD j (0, 0)) = true) → RowZ (rowS l i).1 (rowS l i).2 ∧ (rowS l i).2 ≤ 64 * i
  | 0, _ => ⟨row_start, Nat.le_refl _⟩
  | i + 1, h => by
    obtain ⟨h1, h2⟩ := row_ok i fun j hj => h j (by omega)
    obtain ⟨k1, k2, _⟩ := ok_many (h i (by omega))
    refine ⟨(putK_row h1 _ _ _).1, ?_⟩
    rw [rowS]
    simp only []
    omega
theorem row_mono {l : List (Int × Int)} : ∀ i j, i ≤ j → (rowS l i).2 ≤ (rowS l j).2
  | i, 0, h => by rw [Nat.le_zero.1 h]; exact Nat.le_refl _
  | i, j + 1, h => by
    by_cases e : i = j + 1
    · rw [e]; exact Nat.le_refl _
    · have := row_mono (l := l) i j (by omega)
      rw [rowS]
      simp only []
      omega
theorem row_bits {l : List (Int × Int)} : ∀ i, (∀ j, j < i → okF (l.getD j (0, 0)) = true) → ∀ q, q < i → ∀ j, j < (l.getD q (0, 0)).2.toNat →
    bitL (rowS l i).1 ((rowS l q).2 + j) = (uOf (l.getD q (0, 0)).1).testBit ((l.getD q (0, 0)).2.toNat - 1 - j)
  | 0, _, q, hq, _, _ => by omega
  | i + 1, h, q, hq, j, hj => by
    obtain ⟨h1, _⟩ := row_ok (l := l) i fun j hj => h j (by omega)
    obtain ⟨_, p2, p3⟩ := putK_row h1 (uOf (l.getD i (0, 0)).1) (l.getD i (0, 0)).2.toNat (l.getD i (0, 0)).2.toNat
    by_cases e : q = i
    · subst e
      exact p2 j hj
    · have hm := row_mono (l := l) (q + 1) i (by omega)
      rw [rowS] at hm
      simp only [] at hm
      rw [rowS]
      simp only []
      rw [p3 _ (by omega)]
      exact row_bits i (fun j hj => h j (by omega)) q (by omega) j hj
theorem fit_bounds {V : Int} {m : Nat} (h1 : 1 ≤ m) (hm : m ≤ 64) (ha : -(2 ^ (m - 1)) ≤ V) (hb : V < 2 ^ (m - 1)) : -(2 ^ 63) ≤ V * 2 ^ (64 - m) ∧ V * 2 ^ (64 - m) < 2 ^ 63 := by
  have hp : (0 : Int) < 2 ^ (64 - m) := Int.pow_pos (by decide)
  have e : (2 : Int) ^ (m - 1) * 2 ^ (64 - m) = 2 ^ 63 := by rw [← Int.pow_add, show m - 1 + (64 - m) = 63 by omega]
  constructor
  · have := Int.mul_le_mul_of_nonneg_right ha (Int.le_of_lt hp)
    rw [Int.neg_mul, e] at this
    exact this
  · have := Int.mul_lt_mul_of_pos_right hb hp
    rw [e] at this
    exact this
theorem ok_fit {f : Int × Int} (h : okF f = true) (hV : I64 f.1) : -(2 ^ (f.2.toNat - 1)) ≤ f.1 ∧ f.1 < 2 ^ (f.2.toNat - 1) := by
  unfold okF at h
  simp only [Bool.and_eq_true, Bool.or_eq_true, decide_eq_true_eq] at h
  obtain ⟨_, h | h⟩ := h
  · rw [h]
    obtain ⟨v1, v2⟩ := hV
    have e : (2 : Int) ^ (((64 : Int).toNat) - 1) = 9223372036854775808 := by decide
    rw [e]
    omega
  · exact h
/-- What is put is taken. -/
theorem take_back {l : List (Int × Int)} {n i : Nat} (hn : ∀ j, j < n → okF (l.getD j (0, 0)) = true) (hi : i < n) (hV : I64 (l.getD i (0, 0)).1) (hn60 : n ≤ 60) :
    F_bits_Reader_GetSigned (l.getD i (0, 0)).2 (rowS l n).1 ((rowS l i).2 : Int) false = some ((l.getD i (0, 0)).1, (rowS l n).1, ((rowS l (i + 1)).2 : Int), false) := by
  obtain ⟨k1, k2, k3⟩ := ok_many (hn i hi)
  obtain ⟨⟨r1, r2, r3⟩, r4⟩ := row_ok (l := l) n hn
  have hm := row_mono (l := l) (i + 1) n hi
  have hfit := ok_fit (hn i hi) hV
  have hbits := row_bits (l := l) n hn i hi
  have hnext : (rowS l (i + 1)).2 = (rowS l i).2 + (l.getD i (0, 0)).2.toNat := rfl
  rw [hnext] at hm ⊢
  generalize hf : l.getD i (0, 0) = f at *
  obtain ⟨V, M⟩ := f
  simp only [] at k1 k2 k3 hfit hV hbits hm ⊢
  generalize M.toNat = m at *
  subst k3
  rw [f_bitSigned m k1 k2 _ r1 (by rw [r2]; omega) _ (by rw [r2]; omega)]
  have hg := getV_bits hbits m (Nat.le_refl m)
  rw [Nat.sub_self, Nat.pow_zero, Nat.div_one] at hg
  obtain ⟨b1, b2⟩ := fit_bounds k1 k2 hfit.1 hfit.2
  rw [hg, uOf_mod V m k2, sign_back V m (64 - m) (by omega) b1 b2]
theorem pow_small {m : Nat} (hm : m ≤ 63) : (0 : Int) < 2 ^ m ∧ (2 : Int) ^ m ≤ 9223372036854775808 := by
  refine ⟨Int.pow_pos (by decide), ?_⟩
  have h2 := Nat.pow_le_pow_right (n := 2) (by decide) hm
  have h3 : ((2 ^ m : Nat) : Int) ≤ ((2 ^ 63 : Nat) : Int) := Int.ofNat_le.2 h2
  rw [Int.natCast_pow] at h3
  exact h3
theorem fields_fits {l : List (Int × Int)} (h : Fits (.slice (.agg (.pair (.int .i64) (.int .i64)))) l) : ∀ f ∈ l, I64 f.1 ∧ I64 f.2 :=
  fun f hf => ⟨i64_fits (h.2 f hf).1, i64_fits (h.2 f hf).2⟩
end Go.Proofs.YtomkodhihiloiaaDoor
