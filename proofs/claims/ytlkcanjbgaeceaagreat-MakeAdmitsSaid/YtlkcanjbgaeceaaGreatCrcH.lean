/- The readings of frames: the program's 'Get' is the document's. -/
import Derived.Test.YtlkcanjbgaeceaaGreatCrcG
set_option linter.unusedSimpArgs false
set_option linter.unusedVariables false
namespace Go.Proofs.YtlkcanjbgaeceaaGreat
open Go.RowKit
def sizeI (k : Int) : Int := if k = 1 ∨ k = 2 ∨ k = 5 then 2 else if k = 3 ∨ k = 4 then 4 else 0
theorem f_size (k : Int) : F_frame_size k = some (sizeI k) := by
  unfold F_frame_size sizeI
  by_cases h1 : k = 1
  · subst h1; rfl
  by_cases h2 : k = 2
  · subst h2; rfl
  by_cases h5 : k = 5
  · subst h5; rfl
  by_cases h3 : k = 3
  · subst h3; rfl
  by_cases h4 : k = 4
  · subst h4; rfl
  rw [beq_false_of_ne h1, beq_false_of_ne h2, beq_false_of_ne h3, beq_false_of_ne h4, beq_false_of_ne h5, if_neg (by omega), if_neg (by omega)]
  rfl
theorem f_Size07 (k : Int) : F_ref07_Size k = some (sizeI k) := by
  unfold F_ref07_Size sizeI
  simp only []
  by_cases h0 : k < 1
  · rw [decide_eq_true h0, if_neg (by omega), if_neg (by omega)]; rfl
  by_cases h6 : 5 < k
  · rw [decide_eq_false h0, decide_eq_true h6, if_neg (by omega), if_neg (by omega)]; rfl
  have : k = 1 ∨ k = 2 ∨ k = 3 ∨ k = 4 ∨ k = 5 := by omega
  rcases this with rfl | rfl | rfl | rfl | rfl <;> rfl
theorem size_cases (k : Int) : sizeI k = 0 ∨ (sizeI k = 2 ∧ (k = 1 ∨ k = 2 ∨ k = 5)) ∨ (sizeI k = 4 ∧ (k = 3 ∨ k = 4)) := by
  unfold sizeI
  by_cases h : k = 1 ∨ k = 2 ∨ k = 5
  · rw [if_pos h]; exact .inr (.inl ⟨rfl, h⟩)
  · rw [if_neg h]
    by_cases h2 : k = 3 ∨ k = 4
    · rw [if_pos h2]; exact .inr (.inr ⟨rfl, h2⟩)
    · rw [if_neg h2]; exact .inl rfl
def valI (b : List Int) (o : Nat) : Nat → Int
  | 0 => 0
  | i + 1 => 256 * valI b o i + b.getD (o + i) 0
theorem val_bound {b : List Int} (hb : Bytes b) (o : Nat) : ∀ i, 0 ≤ valI b o i ∧ valI b o i < 256 ^ i
  | 0 => by simp [valI]
  | i + 1 => by
    have h1 := val_bound hb o i
    have h2 := hb (o + i)
    rw [valI, Int.pow_succ]
    omega
theorem or_byte (v c : Int) (hv : 0 ≤ v ∧ v < 16777216) (hc : 0 ≤ c ∧ c ≤ 255) : bits .u32 .or (IntKind.u32.wrap (v * 2 ^ 8)) (IntKind.u32.wrap c) = 256 * v + c := by
  rw [wrapU32, wrapU32]
  obtain ⟨n, rfl⟩ : ∃ n : Nat, v = (n : Int) := ⟨v.toNat, by omega⟩
  obtain ⟨m, rfl⟩ : ∃ m : Nat, c = (m : Int) := ⟨c.toNat, by omega⟩
  show IntKind.u32.wrap (((BitVec.ofInt 32 (((n : Int) * 2 ^ 8) % 4294967296)) ||| (BitVec.ofInt 32 ((m : Int) % 4294967296))).toNat : Int) = _
  have e1 : BitVec.ofInt 32 (((n : Int) * 2 ^ 8) % 4294967296) = BitVec.ofNat 32 (n <<< 8) := by
    apply BitVec.eq_of_toNat_eq
    rw [BitVec.toNat_ofInt, BitVec.toNat_ofNat, Nat.shiftLeft_eq]
    omega
  have e2 : BitVec.ofInt 32 ((m : Int) % 4294967296) = BitVec.ofNat 32 m := by
    apply BitVec.eq_of_toNat_eq
    rw [BitVec.toNat_ofInt, BitVec.toNat_ofNat]
    omega
  have hs : n <<< 8 = n * 256 := by rw [Nat.shiftLeft_eq]
  rw [e1, e2, BitVec.toNat_or, BitVec.toNat_ofNat, BitVec.toNat_ofNat, Nat.mod_eq_of_lt (by omega), Nat.mod_eq_of_lt (by omega), ← Nat.shiftLeft_add_eq_or_of_lt (show m < 2 ^ 8 by omega), wrapU32, hs]
  omega
theorem wrapI32 (n : Int) : IntKind.i32.wrap n = (n + 2147483648) % 4294967296 - 2147483648 := by
  simp only [IntKind.wrap, IntKind.bits, IntKind.signed, Bool.true_and, decide_eq_true_eq, show (2 : Int) ^ 32 = 4294967296 from rfl, show (2 : Int) ^ (32 - 1) = 2147483648 from rfl]
  split <;> omega
theorem wrapI16 (n : Int) : IntKind.i16.wrap n = (n + 32768) % 65536 - 32768 := by
  simp only [IntKind.wrap, IntKind.bits, IntKind.signed, Bool.true_and, decide_eq_true_eq, show (2 : Int) ^ 16 = 65536 from rfl, show (2 : Int) ^ (16 - 1) = 32768 from rfl]
  split <;> omega
theorem byte_of {b : List Int} (hb : Bytes b) (i : Nat) : IntKind.i64.wrap (b.getD i 0) = b.getD i 0 := by
  have := hb i
  exact wrap_ok (by omega)
theorem get_tail {b : List Int} {o n i : Nat} (hi : i < n) (hl : o + n ≤ b.length) : ((b.take (o + n)).drop o).getD i 0 = b.getD (o + i) 0 := by
  simp only [List.getD, List.getElem?_drop, List.getElem?_take, show o + i < o + n by omega, if_true]
def signI (k v : Int) : Int := if sizeI k = 4 ∧ 2147483648 ≤ v then v - 4294967296 else v
def frameI (b : List Int) : (Int × (Int × Int)) × Int :=
  if b.length < 5 then ((0, 0, 0), 14) else if sizeI (b.getD 0 0) = 0 then ((0, 0, 0), 30) else if b.getD 2 0 ≠ sizeI (b.getD 0 0) ∨ (b.length : Int) ≠ 5 + sizeI (b.getD 0 0) then ((0, 0, 0), 11)
  else if crcI b ≠ 0 then ((0, 0, 0), 31) else ((b.getD 0 0, b.getD 1 0, signI (b.getD 0 0) (valI b 3 (sizeI (b.getD 0 0)).toNat)), 0)
theorem f_frameGet (b : List Int) (hb : Bytes b) (hl : b.length ≤ 140737488355328) : F_frame_Get b = some (frameI b) := by
  unfold F_frame_Get frameI
  simp only []
  by_cases h5 : b.length < 5
  · rw [decide_eq_true (show (b.length : Int) < 5 by omega), if_pos h5]
    rfl
  rw [decide_eq_false (show ¬ (b.length : Int) < 5 by omega), if_neg h5, decide_eq_true (show (0 : Int) < b.length by omega), decide_eq_true (show (1 : Int) < b.length by omega), decide_eq_true (show (2 : Int) < b.length by omega)]
  have n0 : (0 : Int).toNat = 0 := rfl
  have n1 : (1 : Int).toNat = 1 := rfl
  have n2 : (2 : Int).toNat = 2 := rfl
  simp only [cond_false, Bool.and_self, chk_yes, n0, n1, n2]
  rw [byte_of hb 0, byte_of hb 1, byte_of hb 2, f_size, Option.bind_some]
  have hsc := size_cases (b.getD 0 0)
  generalize hs : sizeI (b.getD 0 0) = n at *
  have hn : n = 0 ∨ n = 2 ∨ n = 4 := by omega
  by_cases hn0 : n = 0
  · subst hn0; rfl
  rw [beq_false_of_ne hn0, if_neg hn0, wrap_ok (n := 3 + n) (by omega), wrap_ok (n := 3 + n + 2) (by omega)]
  simp only [cond_false]
  by_cases hf : b.getD 2 0 ≠ n ∨ (b.length : Int) ≠ 5 + n
  · rw [if_pos hf]
    have e : (bif b.getD 2 0 != n then true else (b.length : Int) != 3 + n + 2) = true := by
      rcases hf with h | h
      · rw [bne_iff_ne.2 h]; rfl
      · have : ((b.length : Int) != 3 + n + 2) = true := bne_iff_ne.2 (by omega)
        rw [this]
        cases (b.getD 2 0 != n) <;> rfl
    rw [e]; rfl
  rw [if_neg hf]
  have hf1 : b.getD 2 0 = n := by
    apply Classical.byContradiction
    intro h
    exact hf (.inl h)
  have hf2 : (b.length : Int) = 5 + n := by
    apply Classical.byContradiction
    intro h
    exact hf (.inr h)
  have e1 : (b.getD 2 0 != n) = false := by rw [hf1]; simp
  have e2 : ((b.length : Int) != 3 + n + 2) = false := by simp; omega
  rw [e1, e2]
  simp only [cond_false]
  rw [f_Sum b hb (by omega), Option.bind_some]
  by_cases hc : crcI b ≠ 0
  · have : (crcI b != 0) = true := bne_iff_ne.2 hc
    rw [this, if_pos hc]
    rfl
  have ec : (crcI b != 0) = false := by
    have : crcI b = 0 := by
      apply Classical.byContradiction
      exact hc
    simp [this]
  rw [ec, if_neg hc, decide_eq_true (show (3 : Int) ≤ 3 + n by omega), decide_eq_true (show (3 : Int) + n ≤ b.length by omega)]
  simp only [cond_false, Bool.and_self, chk_yes]
  obtain ⟨m, rfl⟩ : ∃ m : Nat, n = (m : Int) := ⟨n.toNat, by omega⟩
  have en : ((3 : Int) + (m : Int)).toNat = 3 + m := by omega
  have e3 : (3 : Int).toNat = 3 := rfl
  have hlen : ((b.take (3 + m)).drop 3).length = m := by simp; omega
  rw [en, e3, hlen]
  have hm4 : m ≤ 4 := by omega
  rw [show ((0 : Int), (0 : Int)) = (valI b 3 0, ((0 : Nat) : Int)) from rfl]
  rw [loop_run (n := m) (st := fun i => (valI b 3 i, (i : Int))) (x := valI b 3 m)]
  · rw [Option.bind_some]
    unfold F_frame_signed
    have hv := val_bound hb 3 m
    have hv4 : valI b 3 m < 4294967296 := by
      have : m = 0 ∨ m = 2 ∨ m = 4 := by omega
      rcases this with rfl | rfl | rfl <;> (have := hv.2; omega)
    simp only [Option.bind_some]
    rw [wrap_ok (n := valI b 3 m) (by omega), Int.toNat_natCast]
    unfold signI
    rw [hs]
    by_cases hk : b.getD 0 0 = 3 ∨ b.getD 0 0 = 4
    · have hm : (m : Int) = 4 := by omega
      have : (bif b.getD 0 0 == 3 then true else b.getD 0 0 == 4) = true := by
        rcases hk with h | h <;> rw [h] <;> rfl
      rw [this]
      simp only [cond_true, Option.bind_some]
      rw [wrapI32, wrap_ok (by omega)]
      by_cases hb' : 2147483648 ≤ valI b 3 m
      · rw [if_pos ⟨hm, hb'⟩, show (valI b 3 m + 2147483648) % 4294967296 - 2147483648 = valI b 3 m - 4294967296 by omega]
      · rw [if_neg (by omega), show (valI b 3 m + 2147483648) % 4294967296 - 2147483648 = valI b 3 m by omega]
    · have : (bif b.getD 0 0 == 3 then true else b.getD 0 0 == 4) = false := by
        rw [beq_false_of_ne (show b.getD 0 0 ≠ 3 by omega), beq_false_of_ne (show b.getD 0 0 ≠ 4 by omega)]
        rfl
      rw [this, if_neg (by omega)]
      rfl
  · intro i hi
    simp only []
    have hv := val_bound hb 3 i
    have hv3 : valI b 3 i < 16777216 := by
      have : i = 0 ∨ i = 1 ∨ i = 2 ∨ i = 3 := by omega
      rcases this with rfl | rfl | rfl | rfl <;> (have := hv.2; omega)
    rw [decide_eq_true (show (i : Int) < m by omega), decide_eq_true (show (0 : Int) ≤ i by omega), Int.toNat_natCast, get_tail hi (by omega), wrap_ok (n := (i : Int) + 1) (by omega), or_byte _ _ ⟨hv.1, hv3⟩ (hb _)]
    rfl
  · simp
theorem f_frameGet07 (b : List Int) (hb : Bytes b) (hl : b.length ≤ 140737488355328) : F_ref07_Get b = some (frameI b) := by
  unfold F_ref07_Get frameI
  simp only []
  by_cases h5 : b.length < 5
  · rw [decide_eq_true (show (b.length : Int) < 5 by omega), if_pos h5]
    rfl
  rw [decide_eq_false (show ¬ (b.length : Int) < 5 by omega), if_neg h5, decide_eq_true (show (0 : Int) < b.length by omega), decide_eq_true (show (1 : Int) < b.length by omega), decide_eq_true (show (2 : Int) < b.length by omega)]
  have n0 : (0 : Int).toNat = 0 := rfl
  have n1 : (1 : Int).toNat = 1 := rfl
  have n2 : (2 : Int).toNat = 2 := rfl
  simp only [cond_false, Bool.and_self, chk_yes, n0, n1, n2]
  rw [byte_of hb 0, byte_of hb 1, byte_of hb 2, f_Size07, Option.bind_some]
  have hsc := size_cases (b.getD 0 0)
  generalize hs : sizeI (b.getD 0 0) = n at *
  have hn : n = 0 ∨ n = 2 ∨ n = 4 := by omega
  by_cases hn0 : n = 0
  · subst hn0; rfl
  rw [beq_false_of_ne hn0, if_neg hn0, wrap_ok (n := 3 + n) (by omega), wrap_ok (n := 5 + n) (by omega), wrap_ok (n := 4 + n) (by omega)]
  simp only [cond_false]
  by_cases hf : b.getD 2 0 ≠ n ∨ (b.length : Int) ≠ 5 + n
  · rw [if_pos hf]
    have e : (bif b.getD 2 0 != n then true else (b.length : Int) != 5 + n) = true := by
      rcases hf with h | h
      · rw [bne_iff_ne.2 h]; rfl
      · have : ((b.length : Int) != 5 + n) = true := bne_iff_ne.2 (by omega)
        rw [this]
        cases (b.getD 2 0 != n) <;> rfl
    rw [e]; rfl
  rw [if_neg hf]
  have hf1 : b.getD 2 0 = n := by
    apply Classical.byContradiction
    intro h
    exact hf (.inl h)
  have hf2 : (b.length : Int) = 5 + n := by
    apply Classical.byContradiction
    intro h
    exact hf (.inr h)
  have e1 : (b.getD 2 0 != n) = false := by rw [hf1]; simp
  have e2 : ((b.length : Int) != 5 + n) = false := by simp; omega
  rw [e1, e2]
  simp only [cond_false]
  obtain ⟨m, rfl⟩ : ∃ m : Nat, n = (m : Int) := ⟨n.toNat, by omega⟩
  have en : ((3 : Int) + (m : Int)).toNat = 3 + m := by omega
  have en4 : ((4 : Int) + (m : Int)).toNat = 3 + m + 1 := by omega
  have hbt : Bytes (b.take (3 + m)) := by
    intro i
    simp only [List.getD, List.getElem?_take]
    split
    · exact hb i
    · simp
  rw [decide_eq_true (show (0 : Int) ≤ 3 + (m : Int) by omega), decide_eq_true (show (3 : Int) + (m : Int) ≤ b.length by omega), decide_eq_true (show (3 : Int) + (m : Int) < b.length by omega), decide_eq_true (show (0 : Int) ≤ 4 + (m : Int) by omega), decide_eq_true (show (4 : Int) + (m : Int) < b.length by omega), en, en4]
  simp only [Bool.and_self, chk_yes, List.drop_zero]
  rw [f_refSum _ hbt (by rw [List.length_take]; omega), Option.bind_some, byte_of hb, byte_of hb]
  have g1 := hb (3 + m)
  have g2 := hb (3 + m + 1)
  rw [wrap_ok (n := b.getD (3 + m) 0 * 256) (by omega), wrap_ok (n := b.getD (3 + m) 0 * 256 + b.getD (3 + m + 1) 0) (by omega)]
  have hcc := crc_check hb (n := 3 + m) (by omega)
  by_cases hc : crcI b ≠ 0
  · have : (crcI (b.take (3 + m)) != b.getD (3 + m) 0 * 256 + b.getD (3 + m + 1) 0) = true := bne_iff_ne.2 (fun h => hc (hcc.2 h))
    rw [this, if_pos hc]
    rfl
  have ec : (crcI (b.take (3 + m)) != b.getD (3 + m) 0 * 256 + b.getD (3 + m + 1) 0) = false := by
    have : crcI b = 0 := by
      apply Classical.byContradiction
      exact hc
    simp [hcc.1 this]
  rw [ec, if_neg hc]
  simp only [cond_false]
  have hm4 : m ≤ 4 := by omega
  rw [show ((0 : Int), (3 : Int)) = (valI b 3 0, ((0 : Nat) : Int) + 3) from rfl]
  rw [loop_run (n := m) (st := fun i => (valI b 3 i, (i : Int) + 3)) (x := valI b 3 m)]
  · rw [Option.bind_some]
    have hv := val_bound hb 3 m
    have hv4 : valI b 3 m < 4294967296 := by
      have : m = 0 ∨ m = 2 ∨ m = 4 := by omega
      rcases this with rfl | rfl | rfl <;> (have := hv.2; omega)
    rw [Int.toNat_natCast]
    unfold signI
    rw [hs]
    by_cases hk : (m : Int) = 4 ∧ 2147483648 ≤ valI b 3 m
    · have : (bif (m : Int) == 4 then decide (2147483648 ≤ valI b 3 m) else false) = true := by
        rw [hk.1, decide_eq_true hk.2]; rfl
      rw [this, if_pos hk, wrap_ok (n := valI b 3 m - 4294967296) (by omega)]
      rfl
    · have : (bif (m : Int) == 4 then decide (2147483648 ≤ valI b 3 m) else false) = false := by
        by_cases h4 : (m : Int) = 4
        · rw [h4, decide_eq_false (fun h => hk ⟨h4, h⟩)]; rfl
        · rw [beq_false_of_ne h4]; rfl
      rw [this, if_neg hk]
      rfl
  · intro i hi
    simp only []
    have hv := val_bound hb 3 i
    have hv3 : valI b 3 i < 16777216 := by
      have : i = 0 ∨ i = 1 ∨ i = 2 ∨ i = 3 := by omega
      rcases this with rfl | rfl | rfl | rfl <;> (have := hv.2; omega)
    have hbi := hb (3 + i)
    have ei : ((i : Int) + 3).toNat = 3 + i := by omega
    rw [decide_eq_true (show (i : Int) + 3 < 3 + (m : Int) by omega), decide_eq_true (show (0 : Int) ≤ (i : Int) + 3 by omega), decide_eq_true (show (i : Int) + 3 < b.length by omega), ei, byte_of hb, wrap_ok (n := 256 * valI b 3 i) (by omega), wrap_ok (n := (i : Int) + 3 + 1) (by omega), wrap_ok (n := 256 * valI b 3 i + b.getD (3 + i) 0) (by omega)]
    simp only [cond_true, Bool.and_self, chk_yes]
    refine congrArg some (congrArg Sum.inl ?_)
    simp only [Prod.mk.injEq]
    exact ⟨rfl, by omega⟩
  · simp only []
    rw [decide_eq_false (by omega)]
    rfl
end Go.Proofs.YtlkcanjbgaeceaaGreat
