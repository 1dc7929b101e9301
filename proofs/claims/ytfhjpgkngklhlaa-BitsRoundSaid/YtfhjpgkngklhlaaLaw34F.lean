/- Bits that are put are taken again: the law's reading says that it is true. -/
import Derived.Test.YtfhjpgkngklhlaaBitF
set_option linter.unusedSimpArgs false
set_option linter.unusedVariables false
namespace Go.Proofs.Ytfhjpgkngklhlaa
open Go.RowKit
/-- A number as one without a sign. -/
def uOf (V : Int) : Nat := (V % 18446744073709551616).toNat
theorem uOf_wrap (V : Int) : IntKind.u64.wrap V = ((uOf V : Nat) : Int) ∧ uOf V < 18446744073709551616 := by
  unfold uOf
  rw [IntKind.wrap_u64]
  omega
theorem uOf_mod (V : Int) (m : Nat) (hm : m ≤ 64) : ((uOf V % 2 ^ m : Nat) : Int) = V % 2 ^ m := by
  have e : ((uOf V : Nat) : Int) = V % 18446744073709551616 := by unfold uOf; omega
  rw [Int.natCast_emod, e, Int.natCast_pow]
  show V % 18446744073709551616 % (2 : Int) ^ m = V % 2 ^ m
  apply Int.emod_emod_of_dvd
  refine ⟨2 ^ (64 - m), ?_⟩
  rw [← Int.pow_add, show m + (64 - m) = 64 by omega]
  decide
theorem row_start : RowZ [] 0 := ⟨fun i => by simp, rfl, fun p _ h => absurd h (by simp)⟩
theorem f_bitPutS (V : Int) (m : Nat) (hm : m ≤ 64) (l : List Int) (n : Nat) (h : RowZ l n) (hn : n ≤ 1000000) : F_bits_Row_PutSigned V (m : Int) l (n : Int) = some (putK l n (uOf V) m m, ((n + m : Nat) : Int)) := by
  unfold F_bits_Row_PutSigned
  obtain ⟨h1, h2⟩ := uOf_wrap V
  rw [h1, f_bitPut _ h2 m hm l n h hn]
  rfl
theorem f_anchor34 : F_law34_anchor () = some true := by
  unfold F_law34_anchor
  have e1 := f_bitPut 5 (by decide) 3 (by decide) [] 0 row_start (by decide)
  have r1 := (putK_row row_start 5 3 3).1
  have q1 : putK [] 0 5 3 3 = [160] := by decide
  rw [q1] at e1 r1
  have e2 := f_bitPutS (-1) 2 (by decide) [160] 3 r1 (by decide)
  have q2 : putK [160] 3 (uOf (-1)) 2 2 = [184] := by decide +kernel
  rw [q2] at e2
  have e1' : F_bits_Row_Put 5 3 [] 0 = some ([160], 3) := e1
  have e2' : F_bits_Row_PutSigned (-1) 2 [160] 3 = some ([184], 5) := e2
  rw [e1', Option.bind_some]
  simp only []
  rw [e2', Option.bind_some]
  simp only [F_bits_Row_Bytes, F_bits_Row_Len]
  have hs : ((bytesOf [184]).toList == (⟨#[184]⟩ : ByteArray).toList) = true := by
    rw [show (⟨#[184]⟩ : ByteArray) = bytesOf [184] from rfl]
    exact beq_self_eq_true _
  rw [decide_eq_true (by decide)]
  simp only [chk_yes, Option.bind_some, List.nil_append]
  rw [hs]
  rfl
/-- Does a number fit in its bits? -/
def okF (f : Int × Int) : Bool := decide (1 ≤ f.2) && decide (f.2 ≤ 64) && (decide (f.2 = 64) || (decide (-(2 ^ (f.2.toNat - 1)) ≤ f.1) && decide (f.1 < 2 ^ (f.2.toNat - 1))))
/-- The rows of bits, number by number. -/
def rowS (l : List (Int × Int)) : Nat → List Int × Nat
  | 0 => ([], 0)
  | i + 1 => (putK (rowS l i).1 (rowS l i).2 (uOf (l.getD i (0, 0)).1) (l.getD i (0, 0)).2.toNat (l.getD i (0, 0)).2.toNat, (rowS l i).2 + (l.getD i (0, 0)).2.toNat)
theorem ok_many {f : Int × Int} (h : okF f = true) : 1 ≤ f.2.toNat ∧ f.2.toNat ≤ 64 ∧ f.2 = ((f.2.toNat : Nat) : Int) := by
  unfold okF at h
  simp only [Bool.and_eq_true, decide_eq_true_eq] at h
  omega
theorem row_ok {l : List (Int × Int)} : ∀ i, (∀ j, j < i → okF (l.getD j (0, 0)) = true) → RowZ (rowS l i).1 (rowS l i).2 ∧ (rowS l i).2 ≤ 64 * i
  | 0, _ => ⟨row_start, Nat.le_refl _⟩
  | i + 1, h => by
    obtain ⟨h1, h2⟩ := row_ok i fun j hj => h j (by omega)
    obtain ⟨k1, k2, _⟩ := ok_many (h i (by omega))
    refine ⟨(putK_row h1 _ _ _).1, ?_⟩
    rw [rowS]
    simp only []
    omega
theorem row_mono {l : List (Int × Int)} : ∀ i j, i ≤ j → (rowS l i).2 ≤ (rowS l j).2
  | i, 0, h => by rw [Nat.le_zero.1 h]; exact Nat.le_refl _
  | i, j + 1, h => by
    by_cases e : i = j + 1
    · rw [e]; exact Nat.le_refl _
    · have := row_mono (l := l) i j (by omega)
      rw [rowS]
      simp only []
      omega
theorem row_bits {l : List (Int × Int)} : ∀ i, (∀ j, j < i → okF (l.getD j (0, 0)) = true) → ∀ q, q < i → ∀ j, j < (l.getD q (0, 0)).2.toNat →
    bitL (rowS l i).1 ((rowS l q).2 + j) = (uOf (l.getD q (0, 0)).1).testBit ((l.getD q (0, 0)).2.toNat - 1 - j)
  | 0, _, q, hq, _, _ => by omega
  | i + 1, h, q, hq, j, hj => by
    obtain ⟨h1, _⟩ := row_ok (l := l) i fun j hj => h j (by omega)
    obtain ⟨_, p2, p3⟩ := putK_row h1 (uOf (l.getD i (0, 0)).1) (l.getD i (0, 0)).2.toNat (l.getD i (0, 0)).2.toNat
    by_cases e : q = i
    · subst e
      exact p2 j hj
    · have hm := row_mono (l := l) (q + 1) i (by omega)
      rw [rowS] at hm
      simp only [] at hm
      rw [rowS]
      simp only []
      rw [p3 _ (by omega)]
      exact row_bits i (fun j hj => h j (by omega)) q (by omega) j hj
theorem fit_bounds {V : Int} {m : Nat} (h1 : 1 ≤ m) (hm : m ≤ 64) (ha : -(2 ^ (m - 1)) ≤ V) (hb : V < 2 ^ (m - 1)) : -(2 ^ 63) ≤ V * 2 ^ (64 - m) ∧ V * 2 ^ (64 - m) < 2 ^ 63 := by
  have hp : (0 : Int) < 2 ^ (64 - m) := Int.pow_pos (by decide)
  have e : (2 : Int) ^ (m - 1) * 2 ^ (64 - m) = 2 ^ 63 := by rw [← Int.pow_add, show m - 1 + (64 - m) = 63 by omega]
  constructor
  · have := Int.mul_le_mul_of_nonneg_right ha (Int.le_of_lt hp)
    rw [Int.neg_mul, e] at this
    exact this
  · have := Int.mul_lt_mul_of_pos_right hb hp
    rw [e] at this
    exact this
theorem ok_fit {f : Int × Int} (h : okF f = true) (hV : I64 f.1) : -(2 ^ (f.2.toNat - 1)) ≤ f.1 ∧ f.1 < 2 ^ (f.2.toNat - 1) := by
  unfold okF at h
  simp only [Bool.and_eq_true, Bool.or_eq_true, decide_eq_true_eq] at h
  obtain ⟨_, h | h⟩ := h
  · rw [h]
    obtain ⟨v1, v2⟩ := hV
    have e : (2 : Int) ^ (((64 : Int).toNat) - 1) = 9223372036854775808 := by decide
    rw [e]
    omega
  · exact h
/-- What is put is taken. -/
theorem take_back {l : List (Int × Int)} {n i : Nat} (hn : ∀ j, j < n → okF (l.getD j (0, 0)) = true) (hi : i < n) (hV : I64 (l.getD i (0, 0)).1) (hn60 : n ≤ 60) :
    F_bits_Reader_GetSigned (l.getD i (0, 0)).2 (rowS l n).1 ((rowS l i).2 : Int) false = some ((l.getD i (0, 0)).1, (rowS l n).1, ((rowS l (i + 1)).2 : Int), false) := by
  obtain ⟨k1, k2, k3⟩ := ok_many (hn i hi)
  obtain ⟨⟨r1, r2, r3⟩, r4⟩ := row_ok (l := l) n hn
  have hm := row_mono (l := l) (i + 1) n hi
  have hfit := ok_fit (hn i hi) hV
  have hbits := row_bits (l := l) n hn i hi
  have hnext : (rowS l (i + 1)).2 = (rowS l i).2 + (l.getD i (0, 0)).2.toNat := rfl
  rw [hnext] at hm ⊢
  generalize hf : l.getD i (0, 0) = f at *
  obtain ⟨V, M⟩ := f
  simp only [] at k1 k2 k3 hfit hV hbits hm ⊢
  generalize M.toNat = m at *
  subst k3
  rw [f_bitSigned m k1 k2 _ r1 (by rw [r2]; omega) _ (by rw [r2]; omega)]
  have hg := getV_bits hbits m (Nat.le_refl m)
  rw [Nat.sub_self, Nat.pow_zero, Nat.div_one] at hg
  obtain ⟨b1, b2⟩ := fit_bounds k1 k2 hfit.1 hfit.2
  rw [hg, uOf_mod V m k2, sign_back V m (64 - m) (by omega) b1 b2]
theorem pow_small {m : Nat} (hm : m ≤ 63) : (0 : Int) < 2 ^ m ∧ (2 : Int) ^ m ≤ 9223372036854775808 := by
  refine ⟨Int.pow_pos (by decide), ?_⟩
  have h2 := Nat.pow_le_pow_right (n := 2) (by decide) hm
  have h3 : ((2 ^ m : Nat) : Int) ≤ ((2 ^ 63 : Nat) : Int) := Int.ofNat_le.2 h2
  rw [Int.natCast_pow] at h3
  exact h3
theorem f_BitsRound (l : List (Int × Int)) (hl : ∀ f ∈ l, I64 f.1 ∧ I64 f.2) : F_law34_BitsRound l = some true := by
  unfold F_law34_BitsRound
  rw [f_anchor34, Option.bind_some]
  simp only [Bool.not_true, cond_false]
  by_cases h60 : 60 < (l.length : Int)
  · rw [decide_eq_true h60]
    rfl
  rw [decide_eq_false h60]
  simp only [cond_false]
  rw [loop_find_st (X := Bool ⊕ (List Int × Int)) l.length (fun i => ((rowS l i).1, (i : Int), ((rowS l i).2 : Int))) (fun i => bif okF (l.getD i (0, 0)) then none else some (Sum.inl true)) (Sum.inr ((rowS l l.length).1, ((rowS l l.length).2 : Int))) (show ((rowS l 0).1, ((0 : Nat) : Int), ((rowS l 0).2 : Int)) = (([] : List Int), (0 : Int), (0 : Int)) from rfl)]
  · cases hf : (List.range l.length).findSome? fun i => bif okF (l.getD i (0, 0)) then (none : Option (Bool ⊕ (List Int × Int))) else some (Sum.inl true) with
    | some z =>
      obtain ⟨i, _, hz⟩ := List.exists_of_findSome?_eq_some hf
      cases hb : okF (l.getD i (0, 0)) with
      | true => rw [hb] at hz; cases hz
      | false =>
        rw [hb] at hz
        cases hz
        rfl
    | none =>
      have hn : ∀ j, j < l.length → okF (l.getD j (0, 0)) = true := by
        intro j hj
        have := (find_none.1 hf) j hj
        cases hb : okF (l.getD j (0, 0)) with
        | true => rfl
        | false => rw [hb] at this; cases this
      obtain ⟨⟨r1, r2, r3⟩, r4⟩ := row_ok (l := l) l.length hn
      simp only [Option.getD_none, Option.bind_some, F_bits_Row_Bytes, F_bits_Over, F_bits_Reader_Short, F_bits_Reader_Left, List.nil_append, List.length_nil, Nat.zero_add]
      rw [decide_eq_true (show (rowS l l.length).1.length * 1 ≤ 140737488355328 by rw [r2]; omega)]
      simp only [chk_yes, Option.bind_some]
      rw [decide_eq_true (show (rowS l l.length).1.length * 1 ≤ 140737488355328 by rw [r2]; omega)]
      simp only [chk_yes, Option.bind_some]
      rw [show (((0 : Int), false, (rowS l l.length).1, (0 : Int)) : Int × Bool × List Int × Int) = (((rowS l 0).2 : Int), false, (rowS l l.length).1, ((0 : Nat) : Int)) from rfl]
      rw [loop_run (n := l.length) (st := fun i => (((rowS l i).2 : Int), false, (rowS l l.length).1, (i : Int))) (x := Sum.inr (((rowS l l.length).2 : Int), false, (rowS l l.length).1))]
      · simp only [Option.bind_some, Bool.not_false, chk_yes, cond_true]
        have hlen : 8 * ((rowS l l.length).1.length : Int) - ((rowS l l.length).2 : Int) < 8 := by rw [r2]; omega
        rw [wrap_ok (n := 8 * ((rowS l l.length).1.length : Int)) (by rw [r2]; omega), wrap_ok (by rw [r2]; omega), decide_eq_true hlen]
      · intro i hi
        simp only []
        have hV := (hl (l.getD i (0, 0)) (by rw [getD_lt hi]; exact List.getElem_mem hi)).1
        rw [decide_eq_true (show (i : Int) < (l.length : Int) by omega), decide_eq_true (show (0 : Int) ≤ (i : Int) by omega), Int.toNat_natCast]
        simp only [cond_true, Bool.and_self, chk_yes]
        rw [take_back hn hi hV (by omega), Option.bind_some]
        rw [show ((l.getD i (0, 0)).1 != (l.getD i (0, 0)).1) = false by simp]
        simp only [cond_false]
        rw [wrap_ok (n := (i : Int) + 1) (by omega)]
        rfl
      · simp only []
        rw [decide_eq_false (by omega)]
        rfl
  · intro i hi hprev
    have hok : ∀ j, j < i → okF (l.getD j (0, 0)) = true := by
      intro j hj
      have := hprev j hj
      cases hb : okF (l.getD j (0, 0)) with
      | true => rfl
      | false => rw [hb] at this; cases this
    obtain ⟨hrow, hle⟩ := row_ok (l := l) i hok
    obtain ⟨hV, hM⟩ := hl (l.getD i (0, 0)) (by rw [getD_lt hi]; exact List.getElem_mem hi)
    simp only []
    rw [decide_eq_true (show (i : Int) < (l.length : Int) by omega), decide_eq_true (show (0 : Int) ≤ (i : Int) by omega), Int.toNat_natCast]
    simp only [cond_true, Bool.and_self, chk_yes]
    have hnx : rowS l (i + 1) = (putK (rowS l i).1 (rowS l i).2 (uOf (l.getD i (0, 0)).1) (l.getD i (0, 0)).2.toNat (l.getD i (0, 0)).2.toNat, (rowS l i).2 + (l.getD i (0, 0)).2.toNat) := rfl
    rw [hnx]
    generalize l.getD i (0, 0) = f at *
    obtain ⟨V, M⟩ := f
    simp only [] at hV hM ⊢
    have hu : ∀ x : Int, decide (0 ≤ IntKind.u64.wrap x) = true := fun x => decide_eq_true (by rw [IntKind.wrap_u64]; omega)
    rw [hu]
    simp only [Bool.true_or, chk_yes]
    by_cases h1 : M < 1
    · rw [decide_eq_true h1]
      have : okF (V, M) = false := by
        unfold okF
        simp only []
        rw [decide_eq_false (show ¬ 1 ≤ M by omega)]
        rfl
      rw [this]
      rfl
    rw [decide_eq_false h1]
    by_cases h2 : 64 < M
    · rw [decide_eq_true h2]
      have : okF (V, M) = false := by
        unfold okF
        simp only []
        rw [decide_eq_false (show ¬ M ≤ 64 by omega)]
        simp
      rw [this]
      rfl
    rw [decide_eq_false h2]
    simp only [cond_false]
    obtain ⟨m, rfl⟩ := Int.eq_ofNat_of_zero_le (show 0 ≤ M by omega)
    rw [Int.toNat_natCast]
    have hm1 : 1 ≤ m := by omega
    have hm2 : m ≤ 64 := by omega
    have hgo : F_bits_Row_PutSigned V (m : Int) (rowS l i).1 ((rowS l i).2 : Int) = some (putK (rowS l i).1 (rowS l i).2 (uOf V) m m, (((rowS l i).2 + m : Nat) : Int)) := f_bitPutS V m hm2 _ _ hrow (by omega)
    rw [hgo, Option.bind_some]
    by_cases h3 : m = 64
    · have hk : okF (V, (m : Int)) = true := by
        unfold okF
        simp only []
        rw [decide_eq_true (show 1 ≤ (m : Int) by omega), decide_eq_true (show (m : Int) ≤ 64 by omega), decide_eq_true (show (m : Int) = 64 by omega)]
        rfl
      rw [hk, decide_eq_false (show ¬ (m : Int) < 64 by omega)]
      simp only [cond_false, cond_true]
      rw [wrap_ok (n := (i : Int) + 1) (by omega)]
      rfl
    · rw [decide_eq_true (show (m : Int) < 64 by omega), show (m : Int) - 1 = ((m - 1 : Nat) : Int) by omega, i64n (m - 1) (by omega), u64n (m - 1) (by omega), Int.toNat_natCast, Nat.min_eq_left (by omega)]
      obtain ⟨p1, p2⟩ := pow_small (show m - 1 ≤ 63 by omega)
      have p3 : (2 : Int) ^ (m - 1) ≤ 4611686018427387904 := by
        have h2 := Nat.pow_le_pow_right (n := 2) (by decide) (show m - 1 ≤ 62 by omega)
        have h3 : ((2 ^ (m - 1) : Nat) : Int) ≤ ((2 ^ 62 : Nat) : Int) := Int.ofNat_le.2 h2
        rw [Int.natCast_pow] at h3
        exact h3
      rw [wrap_ok (n := -1 * 2 ^ (m - 1)) (by omega), wrap_ok (n := 1 * 2 ^ (m - 1)) (by omega), Int.one_mul, Int.neg_mul, Int.one_mul]
      simp only [cond_true]
      have hk : okF (V, (m : Int)) = (!(bif decide (V < -2 ^ (m - 1)) then true else decide (2 ^ (m - 1) ≤ V))) := by
        unfold okF
        simp only []
        rw [decide_eq_true (show 1 ≤ (m : Int) by omega), decide_eq_true (show (m : Int) ≤ 64 by omega), decide_eq_false (show ¬ (m : Int) = 64 by omega), Int.toNat_natCast]
        rw [Bool.eq_iff_iff]
        by_cases a : V < -2 ^ (m - 1)
        · simp [a]
          omega
        · simp [a]
          omega
      rw [hk]
      generalize (bif decide (V < -2 ^ (m - 1)) then true else decide (2 ^ (m - 1) ≤ V)) = c
      rw [wrap_ok (n := (i : Int) + 1) (by omega)]
      cases c <;> rfl
  · simp only []
    rw [decide_eq_false (by omega)]
    rfl
theorem fields_fits {l : List (Int × Int)} (h : Fits (.slice (.agg (.pair (.int .i64) (.int .i64)))) l) : ∀ f ∈ l, I64 f.1 ∧ I64 f.2 :=
  fun f hf => ⟨i64_fits (h.2 f hf).1, i64_fits (h.2 f hf).2⟩
end Go.Proofs.Ytfhjpgkngklhlaa
