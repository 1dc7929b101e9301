/- The readings of the sums of bytes, and of frames: the program's are the document's. -/
import Derived.Test.YtlkcanjbgaeceaaGreatCrcF
set_option linter.unusedSimpArgs false
set_option linter.unusedVariables false
namespace Go.Proofs.YtlkcanjbgaeceaaGreat
open Go.RowKit
theorem wrapU16 (n : Int) : IntKind.u16.wrap n = n % 65536 := by simp [IntKind.wrap, IntKind.bits, IntKind.signed]
theorem wrapU32 (n : Int) : IntKind.u32.wrap n = n % 4294967296 := by simp [IntKind.wrap, IntKind.bits, IntKind.signed]
theorem ofIntV (x : B16) : BitVec.ofInt 16 (x.toNat : Int) = x := by
  apply BitVec.eq_of_toNat_eq
  have := x.isLt
  rw [BitVec.toNat_ofInt]
  omega
theorem lowV (x : B16) : IntKind.u16.wrap (x.toNat : Int) = (x.toNat : Int) := by
  have := x.isLt
  rw [wrapU16]
  omega
theorem xorV (x y : B16) : bits .u16 .xor (x.toNat : Int) (y.toNat : Int) = ((x ^^^ y).toNat : Int) := by
  show IntKind.u16.wrap (((BitVec.ofInt 16 (x.toNat : Int)) ^^^ (BitVec.ofInt 16 (y.toNat : Int))).toNat : Int) = _
  rw [ofIntV, ofIntV, lowV]
theorem andV (x y : B16) : bits .u16 .and (x.toNat : Int) (y.toNat : Int) = ((x &&& y).toNat : Int) := by
  show IntKind.u16.wrap (((BitVec.ofInt 16 (x.toNat : Int)) &&& (BitVec.ofInt 16 (y.toNat : Int))).toNat : Int) = _
  rw [ofIntV, ofIntV, lowV]
theorem shlV (x : B16) : IntKind.u16.wrap ((x.toNat : Int) * 2 ^ 1) = ((x <<< 1).toNat : Int) := by
  rw [wrapU16, BitVec.toNat_shiftLeft, Nat.shiftLeft_eq]
  omega
theorem topV (x : B16) : (bits .u16 .and (x.toNat : Int) 32768 != 0) = x.msb := by
  have e : x &&& 0x8000#16 = bif x.msb then 0x8000#16 else 0#16 := by
    apply BitVec.eq_of_getLsbD_eq
    intro i hi
    rw [BitVec.msb_eq_getLsbD_last, BitVec.getLsbD_and]
    have key : ∀ i : Fin 16, (0x8000#16).getLsbD i.val = decide (i.val = 15) := by decide
    rw [key ⟨i, hi⟩]
    by_cases h : i = 15
    · subst h
      cases hx : x.getLsbD 15 with
      | true => simp [hx]
      | false => simp [hx]
    · simp only [h, decide_false, Bool.and_false]
      cases x.getLsbD (16 - 1) with
      | true => simp only [cond_true]; rw [key ⟨i, hi⟩]; simp [h]
      | false => simp
  have e2 := andV x 0x8000#16
  rw [e] at e2
  have e3 : bits .u16 .and (x.toNat : Int) 32768 = _ := e2
  rw [e3]
  cases x.msb <;> rfl
theorem byteV {b : Int} (h : 0 ≤ b ∧ b ≤ 255) : IntKind.u16.wrap (IntKind.u16.wrap b * 2 ^ 8) = ((BitVec.ofNat 16 b.toNat <<< 8).toNat : Int) := by
  rw [wrapU16, wrapU16, BitVec.toNat_shiftLeft, Nat.shiftLeft_eq, BitVec.toNat_ofNat]
  omega
theorem f_more (s : B16) (b : Int) (h : 0 ≤ b ∧ b ≤ 255) : F_crc_more (s.toNat : Int) b = some ((crcB s b.toNat).toNat : Int) := by
  unfold F_crc_more
  simp only []
  rw [byteV h, xorV]
  unfold crcB
  generalize s ^^^ (BitVec.ofNat 16 b.toNat <<< 8) = x
  rw [show ((0 : Int), (x.toNat : Int)) = (((0 : Nat) : Int), ((crcN 0 x).toNat : Int)) from rfl]
  rw [loop_run (n := 8) (st := fun i => ((i : Int), ((crcN i x).toNat : Int))) (x := ((crcN 8 x).toNat : Int))]
  · rfl
  · intro i hi
    simp only []
    rw [decide_eq_true (show (i : Int) < 8 by omega), topV, shlV, show (4129 : Int) = ((0x1021#16).toNat : Int) from rfl, xorV, wrap_ok (n := (i : Int) + 1) (by omega), crcN_one]
    simp only [cond_true]
    unfold crcL
    cases (crcN i x).msb with
    | true => rfl
    | false => simp only [cond_false, Option.bind_some, BitVec.xor_zero]; rfl
  · rfl
theorem f_Go (b : List Int) (hb : Bytes b) (hl : b.length ≤ 4611686018427387903) : F_crc_Go 65535 b = some (crcI b) := by
  unfold F_crc_Go crcI
  rw [show ((65535 : Int), (0 : Int)) = (((crcS b 0).toNat : Int), ((0 : Nat) : Int)) from rfl]
  rw [loop_run (n := b.length) (st := fun i => (((crcS b i).toNat : Int), (i : Int))) (x := ((crcS b b.length).toNat : Int))]
  · rfl
  · intro i hi
    simp only []
    rw [decide_eq_true (show (i : Int) < b.length by omega), decide_eq_true (show (0 : Int) ≤ i by omega), Int.toNat_natCast, wrap_ok (n := (i : Int) + 1) (by omega)]
    simp only [cond_true, Bool.and_self, chk_yes]
    rw [f_more _ _ (hb i)]
    rfl
  · simp
theorem f_Sum (b : List Int) (hb : Bytes b) (hl : b.length ≤ 4611686018427387903) : F_crc_Sum b = some (crcI b) := by
  unfold F_crc_Sum
  rw [f_Go b hb hl]
  rfl
theorem tdivN (a : Nat) (n : Nat) : ((a : Int).tdiv (n : Int)) = ((a / n : Nat) : Int) := by
  rw [Int.tdiv_eq_ediv_of_nonneg (by omega)]
  rfl
theorem tmodN (a : Nat) (n : Nat) : ((a : Int).tmod (n : Int)) = ((a % n : Nat) : Int) := by
  rw [Int.tmod_eq_emod_of_nonneg (by omega)]
  rfl
theorem mod_next (x i : Nat) : x % 2 ^ (i + 1) = x % 2 ^ i + 2 ^ i * (x.testBit i).toNat := by
  rw [Nat.mod_pow_succ, Nat.testBit_eq_decide_div_mod_eq]
  have : x / 2 ^ i % 2 = 0 ∨ x / 2 ^ i % 2 = 1 := by omega
  rcases this with h | h <;> rw [h] <;> rfl
theorem wrapN (n : Nat) (h : n ≤ 9223372036854775807) : IntKind.i64.wrap (n : Int) = (n : Int) := wrap_ok (by omega)
theorem f_Xor (x y : B16) : F_ref06_Xor (x.toNat : Int) (y.toNat : Int) = some ((x ^^^ y).toNat : Int) := by
  unfold F_ref06_Xor
  have hx := x.isLt
  have hy := y.isLt
  rw [show ((0 : Int), (0 : Int), (1 : Int)) = (((0 : Nat) : Int), (((x ^^^ y).toNat % 2 ^ 0 : Nat) : Int), ((2 ^ 0 : Nat) : Int)) from by simp [Nat.mod_one]]
  rw [loop_run (n := 16) (st := fun i => ((i : Int), (((x ^^^ y).toNat % 2 ^ i : Nat) : Int), ((2 ^ i : Nat) : Int))) (x := ((x ^^^ y).toNat : Int))]
  · rfl
  · intro i hi
    have hp : 2 ^ i ≤ 2 ^ 15 := Nat.pow_le_pow_right (by decide) (by omega)
    have hp0 : 0 < 2 ^ i := Nat.two_pow_pos i
    have hm : (x ^^^ y).toNat % 2 ^ i < 2 ^ i := Nat.mod_lt _ hp0
    have hdx : x.toNat / 2 ^ i ≤ x.toNat := Nat.div_le_self _ _
    have hdy : y.toNat / 2 ^ i ≤ y.toNat := Nat.div_le_self _ _
    simp only []
    rw [tdivN, tdivN, wrapN _ (Nat.le_trans hdx (by omega)), wrapN _ (Nat.le_trans hdy (by omega)), show (2 : Int) = ((2 : Nat) : Int) from rfl, tmodN, tmodN, decide_eq_true (show (i : Int) < 16 by omega)]
    rw [wrap_ok (n := (i : Int) + 1) (by omega), wrap_ok (n := ((2 : Nat) : Int) * ((2 ^ i : Nat) : Int)) (by omega), wrap_ok (n := (((x ^^^ y).toNat % 2 ^ i : Nat) : Int) + ((2 ^ i : Nat) : Int)) (by omega)]
    have e0 : (((2 ^ i : Nat) : Int) == 0) = false := beq_false_of_ne (by omega)
    rw [e0]
    simp only [cond_true, Bool.not_false, chk_yes]
    have hb : ((((x.toNat / 2 ^ i % 2 : Nat) : Int)) != (((y.toNat / 2 ^ i % 2 : Nat) : Int))) = (x ^^^ y).toNat.testBit i := by
      rw [BitVec.toNat_xor, Nat.testBit_xor, Nat.testBit_eq_decide_div_mod_eq, Nat.testBit_eq_decide_div_mod_eq]
      have h1 : x.toNat / 2 ^ i % 2 = 0 ∨ x.toNat / 2 ^ i % 2 = 1 := by omega
      have h2 : y.toNat / 2 ^ i % 2 = 0 ∨ y.toNat / 2 ^ i % 2 = 1 := by omega
      rcases h1 with h1 | h1 <;> rcases h2 with h2 | h2 <;> rw [h1, h2] <;> rfl
    rw [hb, mod_next, Nat.pow_succ]
    cases (x ^^^ y).toNat.testBit i with
    | true => simp only [cond_true, Option.bind_some, Bool.toNat_true, Nat.mul_one]; refine congrArg some (congrArg Sum.inl ?_); simp only [Prod.mk.injEq]; omega
    | false => simp only [cond_false, Option.bind_some, Bool.toNat_false, Nat.mul_zero]; refine congrArg some (congrArg Sum.inl ?_); simp only [Prod.mk.injEq]; omega
  · simp only []
    have hxy : (x ^^^ y).toNat % 2 ^ 16 = (x ^^^ y).toNat := Nat.mod_eq_of_lt (x ^^^ y).isLt
    rw [decide_eq_false (by omega), hxy]
    rfl
theorem crcL_toNat (x : B16) (c : Bool) : ((crcL x ^^^ bit16 c).toNat : Int) = if 65536 ≤ 2 * (x.toNat : Int) + (bif c then 1 else 0) then (((BitVec.ofNat 16 (2 * x.toNat + c.toNat - 65536)) ^^^ 0x1021#16).toNat : Int) else 2 * (x.toNat : Int) + (bif c then 1 else 0) := by
  have hx := x.isLt
  have hsh : (x <<< 1) ^^^ bit16 c = BitVec.ofNat 16 (2 * x.toNat + c.toNat) := by
    apply BitVec.eq_of_getLsbD_eq
    intro i hi
    cases i with
    | zero =>
      have : (2 * x.toNat + c.toNat).testBit 0 = c := by rw [Nat.testBit_zero]; cases c <;> simp <;> omega
      simp only [BitVec.getLsbD_xor, BitVec.getLsbD_shiftLeft, BitVec.getLsbD_ofNat, this]
      cases c <;> simp [bit16]
    | succ i =>
      have : (2 * x.toNat + c.toNat).testBit (i + 1) = x.toNat.testBit i := by
        rw [Nat.testBit_succ]
        congr 1
        cases c <;> simp <;> omega
      simp only [BitVec.getLsbD_xor, BitVec.getLsbD_shiftLeft, BitVec.getLsbD_ofNat, this]
      have hb : (bit16 c).getLsbD (i + 1) = false := by
        cases c with
        | false => simp [bit16]
        | true =>
          have key : ∀ i : Fin 16, (1#16).getLsbD i.val = decide (i.val = 0) := by decide
          show (1#16).getLsbD (i + 1) = false
          rw [key ⟨i + 1, hi⟩]
          simp
      rw [hb]
      have hi2 : i + 1 < 16 := hi
      simp [hi2, BitVec.getLsbD]
  have hmsb : x.msb = decide (32768 ≤ x.toNat) := by rw [BitVec.msb_eq_decide]
  have e : crcL x ^^^ bit16 c = (bif x.msb then BitVec.ofNat 16 (2 * x.toNat + c.toNat) ^^^ 0x1021#16 else BitVec.ofNat 16 (2 * x.toNat + c.toNat)) := by
    unfold crcL
    rw [← hsh]
    generalize x <<< 1 = a
    generalize bit16 c = d
    cases x.msb with
    | false => simp
    | true =>
      simp only [cond_true]
      rw [BitVec.xor_assoc, BitVec.xor_assoc, BitVec.xor_comm d]
  rw [e, hmsb]
  by_cases h : 32768 ≤ x.toNat
  · rw [decide_eq_true h, if_pos (by cases c <;> simp <;> omega)]
    simp only [cond_true]
    have : BitVec.ofNat 16 (2 * x.toNat + c.toNat) = BitVec.ofNat 16 (2 * x.toNat + c.toNat - 65536) := by
      apply BitVec.eq_of_toNat_eq
      rw [BitVec.toNat_ofNat, BitVec.toNat_ofNat]
      omega
    rw [this]
  · rw [decide_eq_false h, if_neg (by cases c <;> simp <;> omega)]
    simp only [cond_false, BitVec.toNat_ofNat]
    cases c <;> simp <;> omega
theorem bit_fdiv (a k : Nat) (hk : k ≤ 7) : ((a : Int).fdiv (2 ^ (min (k : Int).toNat 8))).tmod 2 = if a.testBit k then 1 else 0 := by
  rw [Int.toNat_natCast, Nat.min_eq_left (by omega), show ((2 : Int) ^ k) = ((2 ^ k : Nat) : Int) by simp, Int.fdiv_eq_ediv_of_nonneg _ (Int.natCast_nonneg _), ← Int.natCast_ediv, show (2 : Int) = ((2 : Nat) : Int) from rfl, tmodN, Nat.testBit_eq_decide_div_mod_eq]
  have : a / 2 ^ k % 2 = 0 ∨ a / 2 ^ k % 2 = 1 := by omega
  rcases this with h | h <;> rw [h] <;> rfl
theorem wrapU64 (n : Int) : IntKind.u64.wrap n = n % 18446744073709551616 := by simp [IntKind.wrap, IntKind.bits, IntKind.signed]
theorem f_refSum (b : List Int) (hb : Bytes b) (hl : b.length ≤ 140737488355328) : F_ref06_Sum b = some (crcI b) := by
  unfold F_ref06_Sum
  simp only []
  rw [wrap_ok (n := 8 * (b.length : Int)) (by omega), wrap_ok (n := 8 * (b.length : Int) + 16) (by omega)]
  rw [show ((0 : Int), (0 : Int)) = (((0 : Nat) : Int), ((crcP (flip16 (crcM b)) 0#16 0).toNat : Int)) from rfl]
  rw [loop_run (n := 8 * b.length + 16) (st := fun i => ((i : Int), ((crcP (flip16 (crcM b)) 0#16 i).toNat : Int))) (x := crcI b)]
  · rfl
  · intro i hi
    simp only []
    rw [decide_eq_true (show (i : Int) < 8 * (b.length : Int) + 16 by omega), wrap_ok (n := (i : Int) + 1) (by omega)]
    simp only [cond_true]
    have hbit : ∀ (K : Int → Option ((Int × Int) ⊕ Int)), (Option.bind (bif (decide ((i : Int) < 8 * (b.length : Int))) then
            let t23_8 : Int := (IntKind.wrap .i64 ((i : Int).tdiv (8 : Int)))
            chk none ((decide ((0 : Int) ≤ t23_8)) && (decide (t23_8 < (b.length : Int)))) <|
            let t25_9 : Int := (b.getD t23_8.toNat (0 : Int))
            let t28_10 : Int := (IntKind.wrap .i64 ((7 : Int) - ((i : Int).tmod (8 : Int))))
            let t29_11 : Int := (IntKind.wrap .u64 t28_10)
            chk none (decide ((0 : Int) ≤ t29_11)) <|
            let t30_12 : Int := (t25_9.fdiv (2 ^ (min t29_11.toNat 8)))
            let t31_13 : Int := (IntKind.wrap .i64 t30_12)
            some (t31_13.tmod (2 : Int))
          else
            some (0 : Int)) K) = K (if crcM b i then 1 else 0) := by
      intro K
      unfold crcM
      by_cases h : i < 8 * b.length
      · rw [decide_eq_true (show (i : Int) < 8 * (b.length : Int) by omega), decide_eq_true h]
        simp only [cond_true, Bool.true_and]
        rw [show (8 : Int) = ((8 : Nat) : Int) from rfl, tdivN, tmodN, wrap_ok (n := ((i / 8 : Nat) : Int)) (by omega), wrap_ok (n := 7 - ((i % 8 : Nat) : Int)) (by omega), decide_eq_true (show ((i / 8 : Nat) : Int) < (b.length : Int) by omega), decide_eq_true (show (0 : Int) ≤ ((i / 8 : Nat) : Int) by omega)]
        rw [show (7 - ((i % 8 : Nat) : Int)) = ((7 - i % 8 : Nat) : Int) by omega, wrapU64, show (((7 - i % 8 : Nat) : Int) % 18446744073709551616) = ((7 - i % 8 : Nat) : Int) by omega, decide_eq_true (show (0 : Int) ≤ ((7 - i % 8 : Nat) : Int) by omega)]
        simp only [Bool.and_self, chk_yes]
        have hbb := hb (i / 8)
        rw [Int.toNat_natCast (i / 8)]
        have hN : b.getD (i / 8) 0 = ((byteN b (i / 8) : Nat) : Int) := by unfold byteN; omega
        rw [hN]
        have hle : ∀ k : Nat, k ≤ 7 → IntKind.i64.wrap (((byteN b (i / 8) : Nat) : Int).fdiv (2 ^ (min ((k : Nat) : Int).toNat 8))) = ((byteN b (i / 8) : Nat) : Int).fdiv (2 ^ (min ((k : Nat) : Int).toNat 8)) := by
          intro k hk
          rw [Int.toNat_natCast, Nat.min_eq_left (by omega), show ((2 : Int) ^ k) = ((2 ^ k : Nat) : Int) by simp, Int.fdiv_eq_ediv_of_nonneg _ (Int.natCast_nonneg _), ← Int.natCast_ediv]
          have h1 : byteN b (i / 8) / 2 ^ k ≤ byteN b (i / 8) := Nat.div_le_self _ _
          have h2 : byteN b (i / 8) ≤ 255 := by unfold byteN; omega
          exact wrapN _ (Nat.le_trans h1 (by omega))
        rw [hle _ (by omega), bit_fdiv _ _ (by omega)]
        rfl
      · rw [decide_eq_false (show ¬ (i : Int) < 8 * (b.length : Int) by omega), decide_eq_false h]
        rfl
    rw [hbit]
    have hfl : ∀ (K : Int → Option ((Int × Int) ⊕ Int)), (Option.bind (bif (decide ((i : Int) < (16 : Int))) then
            some (IntKind.wrap .i64 ((1 : Int) - (if crcM b i then 1 else 0)))
          else
            some (if crcM b i then 1 else 0)) K) = K (bif flip16 (crcM b) i then 1 else 0) := by
      intro K
      unfold flip16
      have : (decide ((i : Int) < 16)) = decide (i < 16) := by rw [decide_eq_decide]; omega
      rw [this]
      cases crcM b i <;> cases decide (i < 16) <;> rfl
    rw [hfl]
    have hr := (crcP (flip16 (crcM b)) 0#16 i).isLt
    have hs : crcP (flip16 (crcM b)) 0#16 (i + 1) = crcL (crcP (flip16 (crcM b)) 0#16 i) ^^^ bit16 (flip16 (crcM b) i) := rfl
    rw [hs, crcL_toNat]
    generalize crcP (flip16 (crcM b)) 0#16 i = r at *
    generalize flip16 (crcM b) i = c
    have hc : (0 : Int) ≤ (bif c then 1 else 0) ∧ (bif c then (1 : Int) else 0) ≤ 1 := by cases c <;> decide
    rw [wrap_ok (n := 2 * (r.toNat : Int)) (by omega), wrap_ok (n := 2 * (r.toNat : Int) + (bif c then 1 else 0)) (by omega)]
    by_cases h : 65536 ≤ 2 * (r.toNat : Int) + (bif c then 1 else 0)
    · rw [decide_eq_true h, if_pos h]
      simp only [cond_true]
      rw [wrap_ok (by omega)]
      have e : 2 * (r.toNat : Int) + (bif c then 1 else 0) - 65536 = ((BitVec.ofNat 16 (2 * r.toNat + c.toNat - 65536)).toNat : Int) := by
        rw [BitVec.toNat_ofNat]
        cases c <;> simp at h ⊢ <;> omega
      rw [e, show (4129 : Int) = ((0x1021#16).toNat : Int) from rfl, f_Xor]
      rfl
    · rw [decide_eq_false h, if_neg h]
      rfl
  · simp only []
    rw [decide_eq_false (by omega), crcS_doc hb]
    rfl
end Go.Proofs.YtlkcanjbgaeceaaGreat
