/- The readings of the sums of bytes, and of frames: the program's are the document's. -/
import Derived.Test.YtomkodhihiloiaaCrcF
set_option linter.unusedSimpArgs false
set_option linter.unusedVariables false
namespace Go.Proofs.Ytomkodhihiloiaa
open Go.RowKit
theorem wrapU16 (n : Int) : IntKind.u16.wrap n = n % 65536 := by simp [IntKind.wrap, IntKind.bits, IntKind.signed]
theorem wrapU32 (n : Int) : IntKind.u32.wrap n = n % 4294967296 := by simp [IntKind.wrap, IntKind.bits, IntKind.signed]
theorem ofIntV (x : B16) : BitVec.ofInt 16 (x.toNat : Int) = x := by
  apply BitVec.eq_of_toNat_eq
  have := x.isLt
  rw [BitVec.toNat_ofInt]
  omega
theorem lowV (x : B16) : IntKind.u16.wrap (x.toNat : Int) = (x.toNat : Int) := by
  have := x.isLt
  rw [wrapU16]
  omega
theorem xorV (x y : B16) : bits .u16 .xor (x.toNat : Int) (y.toNat : Int) = ((x ^^^ y).toNat : Int) := by
  show IntKind.u16.wrap (((BitVec.ofInt 16 (x.toNat : Int)) ^^^ (BitVec.ofInt 16 (y.toNat : Int))).toNat : Int) = _
  rw [ofIntV, ofIntV, lowV]
theorem andV (x y : B16) : bits .u16 .and (x.toNat : Int) (y.toNat : Int) = ((x &&& y).toNat : Int) := by
  show IntKind.u16.wrap (((BitVec.ofInt 16 (x.toNat : Int)) &&& (BitVec.ofInt 16 (y.toNat : Int))).toNat : Int) = _
  rw [ofIntV, ofIntV, lowV]
theorem shlV (x : B16) : IntKind.u16.wrap ((x.toNat : Int) * 2 ^ 1) = ((x <<< 1).toNat : Int) := by
  rw [wrapU16, BitVec.toNat_shiftLeft, Nat.shiftLeft_eq]
  omega
theorem topV (x : B16) : (bits .u16 .and (x.toNat : Int) 32768 != 0) = x.msb := by
  have e : x &&& 0x8000#16 = bif x.msb then 0x8000#16 else 0#16 := by
    apply BitVec.eq_of_getLsbD_eq
    intro i hi
    rw [BitVec.msb_eq_getLsbD_last, BitVec.getLsbD_and]
    have key : ∀ i : Fin 16, (0x8000#16).getLsbD i.val = decide (i.val = 15) := by decide
    rw [key ⟨i, hi⟩]
    by_cases h : i = 15
    · subst h
      cases hx : x.getLsbD 15 with
      | true => simp [hx]
      | false => simp [hx]
    · simp only [h, decide_false, Bool.and_false]
      cases x.getLsbD (16 - 1) with
      | true => simp only [cond_true]; rw [key ⟨i, hi⟩]; simp [h]
      | false => simp
  have e2 := andV x 0x8000#16
  rw [e] at e2
  have e3 : bits .u16 .and (x.toNat : Int) 32768 = _ := e2
  rw [e3]
  cases x.msb <;> rfl
theorem byteV {b : Int} (h : 0 ≤ b ∧ b ≤ 255) : IntKind.u16.wrap (IntKind.u16.wrap b * 2 ^ 8) = ((BitVec.ofNat 16 b.toNat <<< 8).toNat : Int) := by
  rw [wrapU16, wrapU16, BitVec.toNat_shiftLeft, Nat.shiftLeft_eq, BitVec.toNat_ofNat]
  omega
theorem f_more (s : B16) (b : Int) (h : 0 ≤ b ∧ b ≤ 255) : F_crc_more (s.toNat : Int) b = some ((crcB s b.toNat).toNat : Int) := by
  unfold F_crc_more
  simp only []
  rw [byteV h, xorV]
  unfold crcB
  generalize s ^^^ (BitVec.ofNat 16 b.toNat <<< 8) = x
  rw [show ((0 : Int), (x.toNat : Int)) = (((0 : Nat) : Int), ((crcN 0 x).toNat : Int)) from rfl]
  rw [loop_run (n := 8) (st := fun i => ((i : Int), ((crcN i x).toNat : Int))) (x := ((crcN 8 x).toNat : Int))]
  · rfl
  · intro i hi
    simp only []
    rw [decide_eq_true (show (i : Int) < 8 by omega), topV, shlV, show (4129 : Int) = ((0x1021#16).toNat : Int) from rfl, xorV, wrap_ok (n := (i : Int) + 1) (by omega), crcN_one]
    simp only [cond_true]
    unfold crcL
    cases (crcN i x).msb with
    | true => rfl
    | false => simp only [cond_false, Option.bind_some, BitVec.xor_zero]; rfl
  · rfl
theorem f_Go (b : List Int) (hb : Bytes b) (hl : b.length ≤ 4611686018427387903) : F_crc_Go 65535 b = some (crcI b) := by
  unfold F_crc_Go crcI
  rw [show ((65535 : Int), (0 : Int)) = (((crcS b 0).toNat : Int), ((0 : Nat) : Int)) from rfl]
  rw [loop_run (n := b.length) (st := fun i => (((crcS b i).toNat : Int), (i : Int))) (x := ((crcS b b.length).toNat : Int))]
  · rfl
  · intro i hi
    simp only []
    rw [decide_eq_true (show (i : Int) < b.length by omega), decide_eq_true (show (0 : Int) ≤ i by omega), Int.toNat_natCast, wrap_ok (n := (i : Int) + 1) (by omega)]
    simp only [cond_true, Bool.and_self, chk_yes]
    rw [f_more _ _ (hb i)]
    rfl
  · simp
theorem f_Sum (b : List Int) (hb : Bytes b) (hl : b.length ≤ 4611686018427387903) : F_crc_Sum b = some (crcI b) := by
  unfold F_crc_Sum
  rw [f_Go b hb hl]
  rfl
theorem tdivN (a : Nat) (n : Nat) : ((a : Int).tdiv (n : Int)) = ((a / n : Nat) : Int) := by
  rw [Int.tdiv_eq_ediv_of_nonneg (by omega)]
  rfl
theorem tmodN (a : Nat) (n : Nat) : ((a : Int).tmod (n : Int)) = ((a % n : Nat) : Int) := by
  rw [Int.tmod_eq_emod_of_nonneg (by omega)]
  rfl
theorem mod_next (x i : Nat) : x % 2 ^ (i + 1) = x % 2 ^ i + 2 ^ i * (x.testBit i).toNat := by
  rw [Nat.mod_pow_succ, Nat.testBit_eq_decide_div_mod_eq]
  have : x / 2 ^ i % 2 = 0 ∨ x / 2 ^ i % 2 = 1 := by omega
  rcases this with h | h <;> rw [h] <;> rfl
theorem wrapN (n : Nat) (h : n ≤ 9223372036854775807) : IntKind.i64.wrap (n : Int) = (n : Int) := wrap_ok (by omega)
/-- A row of rests, one further. -/
theorem crcL_toNat (x : B16) (c : Bool) : ((crcL x ^^^ bit16 c).toNat : Int) = if 65536 ≤ 2 * (x.toNat : Int) + (bif c then 1 else 0) then (((BitVec.ofNat 16 (2 * x.toNat + c.toNat - 65536)) ^^^ 0x1021#16).toNat : Int) else 2 * (x.toNat : Int) + (bif c then 1 else 0) := by
  have hx := x.isLt
  have hsh : (x <<< 1) ^^^ bit16 c = BitVec.ofNat 16 (2 * x.toNat + c.toNat) := by
    apply BitVec.eq_of_getLsbD_eq
    intro i hi
    cases i with
    | zero =>
      have : (2 * x.toNat + c.toNat).testBit 0 = c := by rw [Nat.testBit_zero]; cases c <;> simp <;> omega
      simp only [BitVec.getLsbD_xor, BitVec.getLsbD_shiftLeft, BitVec.getLsbD_ofNat, this]
      cases c <;> simp [bit16]
    | succ i =>
      have : (2 * x.toNat + c.toNat).testBit (i + 1) = x.toNat.testBit i := by
        rw [Nat.testBit_succ]
        congr 1
        cases c <;> simp <;> omega
      simp only [BitVec.getLsbD_xor, BitVec.getLsbD_shiftLeft, BitVec.getLsbD_ofNat, this]
      have hb : (bit16 c).getLsbD (i + 1) = false := by
        cases c with
        | false => simp [bit16]
        | true =>
          have key : ∀ i : Fin 16, (1#16).getLsbD i.val = decide (i.val = 0) := by decide
          show (1#16).getLsbD (i + 1) = false
          rw [key ⟨i + 1, hi⟩]
          simp
      rw [hb]
      have hi2 : i + 1 < 16 := hi
      simp [hi2, BitVec.getLsbD]
  have hmsb : x.msb = decide (32768 ≤ x.toNat) := by rw [BitVec.msb_eq_decide]
  have e : crcL x ^^^ bit16 c = (bif x.msb then BitVec.ofNat 16 (2 * x.toNat + c.toNat) ^^^ 0x1021#16 else BitVec.ofNat 16 (2 * x.toNat + c.toNat)) := by
    unfold crcL
    rw [← hsh]
    generalize x <<< 1 = a
    generalize bit16 c = d
    cases x.msb with
    | false => simp
    | true =>
      simp only [cond_true]
      rw [BitVec.xor_assoc, BitVec.xor_assoc, BitVec.xor_comm d]
  rw [e, hmsb]
  by_cases h : 32768 ≤ x.toNat
  · rw [decide_eq_true h, if_pos (by cases c <;> simp <;> omega)]
    simp only [cond_true]
    have : BitVec.ofNat 16 (2 * x.toNat + c.toNat) = BitVec.ofNat 16 (2 * x.toNat + c.toNat - 65536) := by
      apply BitVec.eq_of_toNat_eq
      rw [BitVec.toNat_ofNat, BitVec.toNat_ofNat]
      omega
    rw [this]
  · rw [decide_eq_false h, if_neg (by cases c <;> simp <;> omega)]
    simp only [cond_false, BitVec.toNat_ofNat]
    cases c <;> simp <;> omega
theorem bit_fdiv (a k : Nat) (hk : k ≤ 7) : ((a : Int).fdiv (2 ^ (min (k : Int).toNat 8))).tmod 2 = if a.testBit k then 1 else 0 := by
  rw [Int.toNat_natCast, Nat.min_eq_left (by omega), show ((2 : Int) ^ k) = ((2 ^ k : Nat) : Int) by simp, Int.fdiv_eq_ediv_of_nonneg _ (Int.natCast_nonneg _), ← Int.natCast_ediv, show (2 : Int) = ((2 : Nat) : Int) from rfl, tmodN, Nat.testBit_eq_decide_div_mod_eq]
  have : a / 2 ^ k % 2 = 0 ∨ a / 2 ^ k % 2 = 1 := by omega
  rcases this with h | h <;> rw [h] <;> rfl
theorem wrapU64 (n : Int) : IntKind.u64.wrap n = n % 18446744073709551616 := by simp [IntKind.wrap, IntKind.bits, IntKind.signed]
end Go.Proofs.Ytomkodhihiloiaa
