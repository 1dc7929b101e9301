/- Images whose bits were turned: none is opened. -/
import Derived.Test.YtomkodhihiloiaaLaw12F
set_option linter.unusedSimpArgs false
set_option linter.unusedVariables false
namespace Go.Proofs.Ytomkodhihiloiaa
open Go.RowKit
/-- Rests of turned bits. -/
theorem crcQ_xor (m d : Nat → Bool) (s r : B16) : ∀ n, crcQ (fun i => m i ^^ d i) (s ^^^ r) n = crcQ m s n ^^^ crcQ d r n
  | 0 => rfl
  | n + 1 => by
    rw [crcQ, crcQ, crcQ, crcQ_xor m d s r n, ← crcL_xor]
    congr 1
    have e : top16 (m n ^^ d n) = top16 (m n) ^^^ top16 (d n) := by cases m n <;> cases d n <;> decide
    rw [e]
    generalize crcQ m s n = a
    generalize crcQ d r n = b
    generalize top16 (m n) = c
    generalize top16 (d n) = f
    apply BitVec.eq_of_getLsbD_eq
    intro i hi
    simp only [BitVec.getLsbD_xor]
    cases a.getLsbD i <;> cases b.getLsbD i <;> cases c.getLsbD i <;> cases f.getLsbD i <;> rfl
theorem crcQ_before (d : Nat → Bool) (n : Nat) (h : ∀ i, i < n → d i = false) : crcQ d 0#16 n = 0#16 := by
  induction n with
  | zero => rfl
  | succ n ih =>
    rw [crcQ, ih fun i hi => h i (by omega), h n (by omega)]
    decide
theorem crcQ_after (d : Nat → Bool) (s : B16) (n : Nat) (h : ∀ i, n ≤ i → d i = false) : ∀ k, crcQ d s (n + k) = crcN k (crcQ d s n)
  | 0 => rfl
  | k + 1 => by
    rw [← Nat.add_assoc, crcQ, crcQ_after d s n h k, h (n + k) (by omega), crcN_one]
    simp [top16]
/-- The highest k bits. -/
def highV (T : B16) : Nat → B16
  | 0 => 0#16
  | k + 1 => highV T k ^^^ (bif T.getLsbD (15 - k) then 1#16 <<< (15 - k) else 0#16)
theorem one_shift (k : Nat) (hk : k ≤ 15) : crcN k (1#16 <<< (15 - k)) = 0x8000#16 := by
  have key : ∀ k : Fin 16, crcN k.val (1#16 <<< (15 - k.val)) = 0x8000#16 := by decide
  exact key ⟨k, by omega⟩
theorem high_all (T : B16) : highV T 16 = T := by
  apply BitVec.eq_of_getLsbD_eq
  intro i hi
  have key : ∀ (i j : Fin 16), (1#16 <<< (15 - j.val)).getLsbD i.val = decide (i.val = 15 - j.val) := by decide
  have hone : ∀ j, j < 16 → (bif T.getLsbD (15 - j) then 1#16 <<< (15 - j) else 0#16).getLsbD i = (T.getLsbD (15 - j) && decide (i = 15 - j)) := by
    intro j hj
    cases T.getLsbD (15 - j) with
    | true => simp only [cond_true, Bool.true_and]; exact key ⟨i, hi⟩ ⟨j, hj⟩
    | false => simp
  have hall : ∀ k, k ≤ 16 → (highV T k).getLsbD i = (decide (16 - k ≤ i) && T.getLsbD i) := by
    intro k
    induction k with
    | zero => intro _; rw [decide_eq_false (by omega)]; simp [highV]
    | succ k ih =>
      intro hk
      rw [highV, BitVec.getLsbD_xor, ih (by omega), hone k (by omega)]
      by_cases h : i = 15 - k
      · subst h
        rw [decide_eq_false (by omega), decide_eq_true rfl, decide_eq_true (by omega)]
        simp
      · rw [decide_eq_false h]
        have : decide (16 - (k + 1) ≤ i) = decide (16 - k ≤ i) := by rw [decide_eq_decide]; omega
        rw [this]
        simp
  rw [hall 16 (Nat.le_refl _)]
  simp
theorem crcQ_burst (d : Nat → Bool) (at' : Nat) (T : B16) (h0 : ∀ i, i < at' → d i = false) (h1 : ∀ k, k < 16 → d (at' + k) = T.getLsbD (15 - k)) : ∀ k, k ≤ 16 → crcQ d 0#16 (at' + k) = crcN k (highV T k)
  | 0, _ => crcQ_before d at' h0
  | k + 1, hk => by
    rw [← Nat.add_assoc, crcQ, crcQ_burst d at' T h0 h1 k (by omega), h1 k (by omega), crcN_one, highV, crcN_xor]
    congr 2
    cases T.getLsbD (15 - k) with
    | true => simp only [cond_true, top16]; exact (one_shift k (by omega)).symm
    | false => simp only [cond_false, top16]; exact (crcN_null k).symm
theorem crc_burst (d : Nat → Bool) (at' n : Nat) (T : B16) (hT : T ≠ 0#16) (hn : at' + 16 ≤ n) (h0 : ∀ i, i < at' → d i = false) (h1 : ∀ k, k < 16 → d (at' + k) = T.getLsbD (15 - k)) (h2 : ∀ i, at' + 16 ≤ i → d i = false) : crcQ d 0#16 n ≠ 0#16 := by
  intro h
  obtain ⟨k, rfl⟩ : ∃ k, n = at' + 16 + k := ⟨n - (at' + 16), by omega⟩
  rw [crcQ_after d _ _ h2, crcQ_burst d at' T h0 h1 16 (Nat.le_refl _), high_all] at h
  exact hT (crcN_zero _ (crcN_zero _ h))
/-- One bit is turned. -/
def flipB (l : List Int) (p : Nat) : List Int := l.set (p / 8) (((l.getD (p / 8) 0).toNat ^^^ 2 ^ (7 - p % 8) : Nat) : Int)
theorem flipB_length (l : List Int) (p : Nat) : (flipB l p).length = l.length := by simp [flipB]
theorem xor_byte {x r : Nat} (hx : x ≤ 255) (hr : r ≤ 7) : x ^^^ 2 ^ r ≤ 255 := by
  have h2 : 2 ^ r < 2 ^ 8 := Nat.pow_lt_pow_right (by decide) (by omega)
  have := Nat.xor_lt_two_pow (x := x) (y := 2 ^ r) (n := 8) (by omega) h2
  omega
theorem flipB_by {l : List Int} (h : ByL l) (p : Nat) : ByL (flipB l p) := by
  intro c hc
  unfold flipB at hc
  rcases List.mem_or_eq_of_mem_set hc with h' | h'
  · exact h c h'
  · have hb := byL_bytes h (p / 8)
    have := xor_byte (x := (l.getD (p / 8) 0).toNat) (r := 7 - p % 8) (by omega) (by omega)
    omega
theorem flipB_bits {l : List Int} (h : ByL l) {p : Nat} (hp : p < 8 * l.length) (i : Nat) : crcM (flipB l p) i = (crcM l i ^^ decide (i = p)) := by
  unfold crcM
  rw [flipB_length]
  by_cases hi : i < 8 * l.length
  · rw [decide_eq_true hi, Bool.true_and, Bool.true_and]
    have hq : i / 8 < l.length := by omega
    unfold byteN flipB
    by_cases hs : i / 8 = p / 8
    · rw [hs, List.getD_eq_getElem?_getD, List.getElem?_set_self (by omega), Option.getD_some, Int.toNat_natCast, Nat.testBit_xor, Nat.testBit_two_pow]
      congr 1
      rw [decide_eq_decide]
      omega
    · rw [List.getD_eq_getElem?_getD, List.getElem?_set_ne (fun e => hs e.symm), ← List.getD_eq_getElem?_getD, decide_eq_false (fun e => hs (by rw [e])), Bool.xor_false]
  · rw [decide_eq_false hi, decide_eq_false (by omega)]
    rfl
/-- Bits that were turned one behind the other. -/
def turnB (b : List Int) (at' : Nat) (T : Nat) : Nat → List Int
  | 0 => b
  | k + 1 => bif T.testBit (15 - k) then flipB (turnB b at' T k) (at' + k) else turnB b at' T k
theorem turnB_length (b : List Int) (at' T : Nat) : ∀ k, (turnB b at' T k).length = b.length
  | 0 => rfl
  | k + 1 => by
    rw [turnB]
    cases T.testBit (15 - k) with
    | true => rw [cond_true, flipB_length, turnB_length b at' T k]
    | false => rw [cond_false, turnB_length b at' T k]
theorem turnB_by {b : List Int} (h : ByL b) (at' T : Nat) : ∀ k, ByL (turnB b at' T k)
  | 0 => h
  | k + 1 => by
    rw [turnB]
    cases T.testBit (15 - k) with
    | true => exact flipB_by (turnB_by h at' T k) _
    | false => exact turnB_by h at' T k
theorem turnB_bits {b : List Int} (h : ByL b) (at' T : Nat) : ∀ k, k ≤ 16 → at' + 16 ≤ 8 * b.length → ∀ i, crcM (turnB b at' T k) i = (crcM b i ^^ (decide (at' ≤ i) && decide (i < at' + k) && T.testBit (15 - (i - at'))))
  | 0, _, _, i => by
    have : (decide (at' ≤ i) && decide (i < at' + 0)) = false := by
      rw [Bool.and_eq_false_iff]
      by_cases h : at' ≤ i
      · exact .inr (decide_eq_false (by omega))
      · exact .inl (decide_eq_false h)
    rw [this]
    simp [turnB]
  | k + 1, hk, hl, i => by
    have ih := turnB_bits h at' T k (by omega) hl i
    rw [turnB]
    by_cases hi : i = at' + k
    · subst hi
      have e1 : (decide (at' ≤ at' + k) && decide (at' + k < at' + k)) = false := by simp
      have e2 : (decide (at' ≤ at' + k) && decide (at' + k < at' + (k + 1))) = true := by rw [decide_eq_true (by omega), decide_eq_true (by omega)]; rfl
      rw [e1] at ih
      rw [e2, show 15 - (at' + k - at') = 15 - k by omega]
      cases ht : T.testBit (15 - k) with
      | true =>
        rw [cond_true, flipB_bits (turnB_by h at' T k) (by rw [turnB_length]; omega), ih]
        simp
      | false =>
        rw [cond_false, ih]
        simp
    · have e : (decide (at' ≤ i) && decide (i < at' + (k + 1))) = (decide (at' ≤ i) && decide (i < at' + k)) := by
        rw [Bool.eq_iff_iff]; simp; omega
      rw [e, ← ih]
      cases T.testBit (15 - k) with
      | true => rw [cond_true, flipB_bits (turnB_by h at' T k) (by rw [turnB_length]; omega), decide_eq_false hi, Bool.xor_false]
      | false => rfl
/-- No turned bits go unseen. -/
theorem turnB_sum {b : List Int} (h : ByL b) (at' T : Nat) (hT0 : T ≠ 0) (hT : T < 65536) (hl : at' + 16 ≤ 8 * b.length) (hs : crcI b = 0) : crcI (turnB b at' T 16) ≠ 0 := by
  intro h0
  have hc := turnB_by h at' T 16
  have q1 := crcQ_S (byL_bytes hc) (turnB b at' T 16).length (Nat.le_refl _)
  have q2 := crcQ_S (byL_bytes h) b.length (Nat.le_refl _)
  rw [turnB_length] at q1
  have z1 : crcS b b.length = 0#16 := by
    unfold crcI at hs
    apply BitVec.eq_of_toNat_eq
    simp
    omega
  have z2 : crcS (turnB b at' T 16) b.length = 0#16 := by
    unfold crcI at h0
    rw [turnB_length] at h0
    apply BitVec.eq_of_toNat_eq
    simp
    omega
  rw [z1] at q2
  rw [z2] at q1
  have hfun : crcM (turnB b at' T 16) = fun i => crcM b i ^^ (decide (at' ≤ i) && decide (i < at' + 16) && T.testBit (15 - (i - at'))) := funext fun i => turnB_bits h at' T 16 (Nat.le_refl _) hl i
  have hx := crcQ_xor (crcM b) (fun i => decide (at' ≤ i) && decide (i < at' + 16) && T.testBit (15 - (i - at'))) 0xFFFF#16 0#16 (8 * b.length)
  rw [BitVec.xor_zero, ← hfun, q1, q2, BitVec.zero_xor] at hx
  refine crc_burst (fun i => decide (at' ≤ i) && decide (i < at' + 16) && T.testBit (15 - (i - at'))) at' (8 * b.length) (BitVec.ofNat 16 T) ?_ hl ?_ ?_ ?_ hx.symm
  · intro e
    have := congrArg BitVec.toNat e
    rw [BitVec.toNat_ofNat, Nat.mod_eq_of_lt (by omega)] at this
    exact hT0 (by simpa using this)
  · intro i hi
    simp only [decide_eq_false (show ¬ at' ≤ i by omega), Bool.false_and]
  · intro k hk
    simp only [decide_eq_true (show at' ≤ at' + k by omega), decide_eq_true (show at' + k < at' + 16 by omega), Bool.true_and, BitVec.getLsbD_ofNat]
    rw [show at' + k - at' = k by omega, decide_eq_true (show 15 - k < 16 by omega), Bool.true_and]
  · intro i hi
    simp only [decide_eq_false (show ¬ i < at' + 16 by omega), Bool.and_false, Bool.false_and]
theorem xorV8 {a : Int} (ha : 0 ≤ a ∧ a ≤ 255) {r : Nat} (hr : r ≤ 7) : bits .u8 .xor a ((2 ^ r : Nat) : Int) = ((a.toNat ^^^ 2 ^ r : Nat) : Int) := by
  have h2 : 2 ^ r < 2 ^ 8 := Nat.pow_lt_pow_right (by decide) (by omega)
  have hx := xor_byte (x := a.toNat) (r := r) (by omega) hr
  generalize 2 ^ r = q at *
  show IntKind.u8.wrap (((BitVec.ofInt 8 a) ^^^ (BitVec.ofInt 8 (q : Int))).toNat : Int) = _
  have e1 : (BitVec.ofInt 8 a).toNat = a.toNat := by
    rw [BitVec.toNat_ofInt]
    omega
  have e2 : (BitVec.ofInt 8 (q : Int)).toNat = q := by
    rw [BitVec.toNat_ofInt]
    omega
  rw [BitVec.toNat_xor, e1, e2]
  simp [IntKind.wrap, IntKind.signed, IntKind.bits]
  omega
theorem testV16 (T : Nat) (hT : T < 65536) (k : Nat) (hk : k ≤ 15) : ((bits .u16 .and (((T : Int)).fdiv (2 ^ (min k 16))) 1 == (1 : Int))) = T.testBit k := by
  rw [Nat.min_eq_left (by omega), show ((2 : Int) ^ k) = ((2 ^ k : Nat) : Int) by simp, Int.fdiv_eq_ediv_of_nonneg _ (Int.natCast_nonneg _), ← Int.natCast_ediv]
  have hq : T / 2 ^ k ≤ T := Nat.div_le_self _ _
  have e : bits .u16 .and (((T / 2 ^ k : Nat)) : Int) 1 = ((T / 2 ^ k % 2 : Nat) : Int) := by
    have := andV (BitVec.ofNat 16 (T / 2 ^ k)) 1#16
    rw [BitVec.toNat_ofNat, Nat.mod_eq_of_lt (by omega)] at this
    have h1 : ((1#16).toNat : Int) = 1 := rfl
    rw [h1] at this
    rw [this, BitVec.toNat_and, BitVec.toNat_ofNat, Nat.mod_eq_of_lt (by omega)]
    have : (1#16).toNat = 1 := rfl
    rw [this, Nat.and_one_is_mod]
  rw [e, Nat.testBit_eq_decide_div_mod_eq]
  have : T / 2 ^ k % 2 = 0 ∨ T / 2 ^ k % 2 = 1 := by omega
  rcases this with h | h <;> rw [h] <;> rfl
theorem shr128 (r : Nat) (hr : r ≤ 7) : (128 : Int).fdiv (2 ^ (min r 8)) = ((2 ^ (7 - r) : Nat) : Int) := by
  have key : ∀ r : Fin 8, (128 : Int).fdiv (2 ^ (min r.val 8)) = ((2 ^ (7 - r.val) : Nat) : Int) := by decide
  exact key ⟨r, by omega⟩
theorem open_long {b : List Int} (h1 : b.length ≤ 1048576) (h2 : crcI b ≠ 0) : (openI b).2 = 31 ∨ (openI b).2 = 11 := by
  unfold openI
  rw [if_neg (by omega)]
  by_cases h3 : b.length < 6 ∨ b.take 4 ≠ magicL
  · rw [if_pos h3]
    exact .inr rfl
  · rw [if_neg h3, if_pos h2]
    exact .inl rfl
theorem f_ImageTurned (t : Tk) (at' turned : Int) (hR : Rows t) (hN : Nums t) (hA : I64 at') (hT : 0 ≤ turned ∧ turned ≤ 65535) : F_law12_ImageTurned t at' turned = some true := by
  obtain ⟨hA1, hA2⟩ := hA
  unfold F_law12_ImageTurned
  rw [f_anchor12, Option.bind_some]
  simp only [Bool.not_true, cond_false]
  obtain ⟨g, hg, hs⟩ := f_great12 t hR
  rw [hg, Option.bind_some]
  cases g with
  | true => rfl
  | false =>
    simp only [cond_false]
    by_cases ht0 : turned = 0
    · rw [show (turned == 0) = true by simp [ht0]]
      rfl
    rw [show (turned == 0) = false by simp [ht0]]
    simp only [cond_false]
    obtain ⟨g1, g2⟩ := hs rfl
    rw [f_pack t (fun _ s hs => by have := g2 s hs; unfold big; omega), Option.bind_some]
    by_cases h0 : (checkI t).1 = 0
    · rw [pack_ok h0]
      have hil := imgP_len (check_few h0)
      have hby := sealP_by (imgP_by t)
      have hcs := sealP_crc (imgP_by t)
      have hbl : (sealP (imgP t)).length ≤ 200002 := by rw [sealP_len]; omega
      generalize sealP (imgP t) = b at *
      simp only [bne_self_eq_false, cond_false]
      by_cases h32 : (b.length : Int) < 32
      · rw [decide_eq_true h32]
        rfl
      rw [decide_eq_false h32]
      simp only [cond_false]
      by_cases ha0 : at' < 0
      · rw [decide_eq_true ha0]
        rfl
      rw [decide_eq_false ha0, wrap_ok (n := 8 * (b.length : Int)) (by omega), wrap_ok (n := 8 * (b.length : Int) - 16) (by omega)]
      simp only [cond_false]
      by_cases ha1 : 8 * (b.length : Int) - 16 < at'
      · rw [decide_eq_true ha1]
        rfl
      rw [decide_eq_false ha1]
      simp only [cond_false, List.length_nil, Nat.zero_add, List.nil_append]
      rw [decide_eq_true (show b.length * 1 ≤ 140737488355328 by omega)]
      simp only [chk_yes]
      obtain ⟨p, rfl⟩ := Int.eq_ofNat_of_zero_le (show 0 ≤ at' by omega)
      obtain ⟨T, rfl⟩ := Int.eq_ofNat_of_zero_le hT.1
      rw [show (((0 : Int), b) : Int × List Int) = (((0 : Nat) : Int), turnB b p T 0) from rfl]
      rw [loop_run (n := 16) (st := fun k => ((k : Int), turnB b p T k)) (x := turnB b p T 16)]
      · simp only [Option.bind_some]
        rw [f_openI _ (turnB_by hby p T 16), Option.bind_some]
        have hne := turnB_sum hby p T (by omega) (by omega) (by omega) hcs
        rcases open_long (b := turnB b p T 16) (by rw [turnB_length]; omega) hne with h | h
        · rw [h]; rfl
        · rw [h]; rfl
      · intro k hk
        simp only []
        have hl := turnB_length b p T k
        rw [decide_eq_true (show (k : Int) < 16 by omega), wrap_ok (n := 15 - (k : Int)) (by omega), wrapU64, show (15 - (k : Int)) % 18446744073709551616 = ((15 - k : Nat) : Int) by omega, decide_eq_true (show (0 : Int) ≤ ((15 - k : Nat) : Int) by omega), Int.toNat_natCast, wrap_ok (n := (k : Int) + 1) (by omega)]
        simp only [cond_true, chk_yes]
        rw [testV16 T (by omega) (15 - k) (by omega), turnB]
        cases T.testBit (15 - k) with
        | false => rfl
        | true =>
          simp only [cond_true]
          rw [wrap_ok (n := (p : Int) + (k : Int)) (by omega), show (p : Int) + (k : Int) = ((p + k : Nat) : Int) by omega, show (8 : Int) = ((8 : Nat) : Int) from rfl, tdivN, tmodN, wrap_ok (n := (((p + k) / 8 : Nat) : Int)) (by omega), wrapU64, show (((p + k) % 8 : Nat) : Int) % 18446744073709551616 = (((p + k) % 8 : Nat) : Int) by omega]
          rw [decide_eq_true (show (0 : Int) ≤ (((p + k) / 8 : Nat) : Int) by omega), decide_eq_true (show (((p + k) / 8 : Nat) : Int) < ((turnB b p T k).length : Int) by rw [hl]; omega), decide_eq_true (show (0 : Int) ≤ (((p + k) % 8 : Nat) : Int) by omega), Int.toNat_natCast, Int.toNat_natCast]
          simp only [Bool.and_self, chk_yes]
          rw [shr128 _ (by omega), xorV8 (byL_bytes (turnB_by hby p T k) _) (by omega)]
          rw [List.length_set, Nat.beq_refl]
          rfl
      · simp only []
        rw [decide_eq_false (by omega)]
        rfl
    · rw [pack_no h0]
      rfl
theorem u16_fits {n : Int} (h : Fits (.int .u16) n) : 0 ≤ n ∧ n ≤ 65535 := by
  have h : fits .u16 n = true := h
  simp [fits] at h
  exact ⟨by omega, by omega⟩
end Go.Proofs.Ytomkodhihiloiaa
