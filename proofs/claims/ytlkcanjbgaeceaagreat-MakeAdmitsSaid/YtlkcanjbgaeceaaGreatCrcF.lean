/- The sums of bytes: the program's and the document's are the same. -/
import Derived.Test.YtlkcanjbgaeceaaGreatRefTrackF
import Derived.Test.YtlkcanjbgaeceaaGreatFnsZ2
set_option linter.unusedSimpArgs false
set_option linter.unusedVariables false
namespace Go.Proofs.YtlkcanjbgaeceaaGreat
open Go.RowKit
abbrev B16 := BitVec 16
def crcL (x : B16) : B16 := (x <<< 1) ^^^ (bif x.msb then 0x1021#16 else 0#16)
theorem crcL_xor (x y : B16) : crcL (x ^^^ y) = crcL x ^^^ crcL y := by
  unfold crcL
  rw [BitVec.shiftLeft_xor_distrib, BitVec.msb_xor]
  generalize x <<< 1 = a
  generalize y <<< 1 = b
  cases x.msb <;> cases y.msb <;> apply BitVec.eq_of_getLsbD_eq <;> intro i hi <;> simp only [Bool.false_xor, Bool.true_xor, Bool.not_true, Bool.not_false, cond_true, cond_false, BitVec.getLsbD_xor] <;> cases a.getLsbD i <;> cases b.getLsbD i <;> simp
def crcN : Nat → B16 → B16
  | 0, x => x
  | n + 1, x => crcN n (crcL x)
theorem crcN_xor : ∀ (n : Nat) (x y : B16), crcN n (x ^^^ y) = crcN n x ^^^ crcN n y
  | 0, _, _ => rfl
  | n + 1, x, y => by rw [crcN, crcN, crcN, crcL_xor, crcN_xor n]
theorem crcN_add : ∀ (m n : Nat) (x : B16), crcN (m + n) x = crcN n (crcN m x)
  | 0, n, x => by rw [Nat.zero_add]; rfl
  | m + 1, n, x => by rw [Nat.add_right_comm, crcN, crcN, crcN_add m n]
theorem crcN_one (n : Nat) (x : B16) : crcN (n + 1) x = crcL (crcN n x) := by rw [crcN_add n 1]; rfl
theorem crcL_zero {x : B16} (h : crcL x = 0#16) : x = 0#16 := by
  unfold crcL at h
  cases hm : x.msb with
  | true =>
    rw [hm] at h
    have := congrArg (fun z => z.getLsbD 0) h
    simp at this
  | false =>
    rw [hm] at h
    simp only [cond_false, BitVec.xor_zero] at h
    apply BitVec.eq_of_getLsbD_eq
    intro i hi
    by_cases h15 : i = 15
    · subst h15
      rw [BitVec.msb_eq_getLsbD_last] at hm
      simpa using hm
    · have := congrArg (fun z => z.getLsbD (i + 1)) h
      simp only [BitVec.getLsbD_shiftLeft] at this
      have h16 : i + 1 < 16 := by omega
      simpa [h16] using this
theorem crcN_zero : ∀ (n : Nat) {x : B16}, crcN n x = 0#16 → x = 0#16
  | 0, _, h => h
  | n + 1, x, h => crcL_zero (crcN_zero n h)
theorem crcN_null : ∀ (n : Nat), crcN n 0#16 = 0#16
  | 0 => rfl
  | n + 1 => by rw [crcN, show crcL 0#16 = 0#16 from by decide]; exact crcN_null n
def bit16 (b : Bool) : B16 := bif b then 1#16 else 0#16
def top16 (b : Bool) : B16 := bif b then 0x8000#16 else 0#16
theorem crcN_bit (b : Bool) : crcN 16 (bit16 b) = crcL (top16 b) := by cases b <;> decide
def crcP (m : Nat → Bool) (r : B16) : Nat → B16
  | 0 => r
  | n + 1 => crcL (crcP m r n) ^^^ bit16 (m n)
def crcQ (m : Nat → Bool) (s : B16) : Nat → B16
  | 0 => s
  | n + 1 => crcL (crcQ m s n ^^^ top16 (m n))
theorem crcP_Q (m : Nat → Bool) (r : B16) : ∀ n, crcN 16 (crcP m r n) = crcQ m (crcN 16 r) n
  | 0 => rfl
  | n + 1 => by
    rw [crcP, crcQ, crcN_xor, crcN_bit, ← crcN, crcN_one, crcP_Q m r n, ← crcL_xor]
theorem crcP_end (m : Nat → Bool) (r : B16) (n : Nat) (h : ∀ i, n ≤ i → m i = false) : ∀ k, crcP m r (n + k) = crcN k (crcP m r n)
  | 0 => rfl
  | k + 1 => by
    rw [← Nat.add_assoc, crcP, crcP_end m r n h k, h (n + k) (by omega), crcN_one]
    simp [bit16]
def flip16 (m : Nat → Bool) (i : Nat) : Bool := m i ^^ decide (i < 16)
def crcR : B16 := 0x84CF#16
def crcD : Nat → B16
  | 0 => crcR
  | n + 1 => crcL (crcD n) ^^^ bit16 (decide (n < 16))
theorem bit16_xor (a b : Bool) : bit16 (a ^^ b) = bit16 a ^^^ bit16 b := by cases a <;> cases b <;> decide
theorem crcP_flip (m : Nat → Bool) : ∀ n, crcP (flip16 m) 0#16 n = crcP m crcR n ^^^ crcD n
  | 0 => by simp [crcP, crcD]
  | n + 1 => by
    rw [crcP, crcP, crcD, crcP_flip m n, crcL_xor]
    unfold flip16
    rw [bit16_xor]
    generalize crcL (crcP m crcR n) = a
    generalize crcL (crcD n) = b
    generalize bit16 (m n) = c
    generalize bit16 (decide (n < 16)) = d
    apply BitVec.eq_of_getLsbD_eq
    intro i hi
    simp only [BitVec.getLsbD_xor]
    cases a.getLsbD i <;> cases b.getLsbD i <;> cases c.getLsbD i <;> cases d.getLsbD i <;> rfl
theorem crcD_end : ∀ k, crcD (16 + k) = 0#16
  | 0 => by decide
  | k + 1 => by
    rw [← Nat.add_assoc, crcD, crcD_end k, decide_eq_false (by omega)]
    decide
theorem crc_same (m : Nat → Bool) (n : Nat) (h : ∀ i, n ≤ i → m i = false) : crcP (flip16 m) 0#16 (n + 16) = crcQ m 0xFFFF#16 n := by
  rw [crcP_flip, Nat.add_comm n 16, crcD_end, BitVec.xor_zero, Nat.add_comm 16 n, crcP_end m crcR n h 16, crcP_Q, show crcN 16 crcR = 0xFFFF#16 from by decide]
def crcB (s : B16) (b : Nat) : B16 := crcN 8 (s ^^^ (BitVec.ofNat 16 b <<< 8))
theorem crcB_bits (s : B16) (b : Nat) (hb : b < 256) (m : Nat → Bool) (k : Nat) (hm : ∀ j, j < 8 → m (k + j) = b.testBit (7 - j)) (hs : crcQ m 0xFFFF#16 k = s) : crcQ m 0xFFFF#16 (k + 8) = crcB s b := by
  have e : crcQ m 0xFFFF#16 (k + 8) = crcL (crcL (crcL (crcL (crcL (crcL (crcL (crcL (s ^^^ top16 (b.testBit 7)) ^^^ top16 (b.testBit 6)) ^^^ top16 (b.testBit 5)) ^^^ top16 (b.testBit 4)) ^^^ top16 (b.testBit 3)) ^^^ top16 (b.testBit 2)) ^^^ top16 (b.testBit 1)) ^^^ top16 (b.testBit 0)) := by
    have h0 := hm 0 (by omega); have h1 := hm 1 (by omega); have h2 := hm 2 (by omega); have h3 := hm 3 (by omega)
    have h4 := hm 4 (by omega); have h5 := hm 5 (by omega); have h6 := hm 6 (by omega); have h7 := hm 7 (by omega)
    simp only [Nat.add_zero, Nat.sub_zero] at h0
    simp only [crcQ, hs, h0, h1, h2, h3, h4, h5, h6, h7]
  rw [e]
  simp only [crcL_xor]
  unfold crcB
  rw [crcN_xor]
  have e2 : crcN 8 s = crcL (crcL (crcL (crcL (crcL (crcL (crcL (crcL s))))))) := rfl
  rw [e2]
  simp only [BitVec.xor_assoc]
  refine congrArg _ ?_
  have key : ∀ b : Fin 256, (crcL (crcL (crcL (crcL (crcL (crcL (crcL (crcL (top16 (b.val.testBit 7))))))))) ^^^ (crcL (crcL (crcL (crcL (crcL (crcL (crcL (top16 (b.val.testBit 6)))))))) ^^^ (crcL (crcL (crcL (crcL (crcL (crcL (top16 (b.val.testBit 5))))))) ^^^ (crcL (crcL (crcL (crcL (crcL (top16 (b.val.testBit 4)))))) ^^^ (crcL (crcL (crcL (crcL (top16 (b.val.testBit 3))))) ^^^ (crcL (crcL (crcL (top16 (b.val.testBit 2)))) ^^^ (crcL (crcL (top16 (b.val.testBit 1))) ^^^ crcL (top16 (b.val.testBit 0))))))))) = crcN 8 (BitVec.ofNat 16 b.val <<< 8) := by
    decide +kernel
  exact key ⟨b, hb⟩
theorem crc_tail (s : B16) (a b : Nat) (ha : a < 256) (hb : b < 256) : crcB (crcB s a) b = 0#16 ↔ s = BitVec.ofNat 16 (a * 256 + b) := by
  have e : crcB (crcB s a) b = crcN 16 (s ^^^ BitVec.ofNat 16 (a * 256 + b)) := by
    have e1 : BitVec.ofNat 16 (a * 256 + b) = (BitVec.ofNat 16 a <<< 8) ^^^ BitVec.ofNat 16 b := by
      have key : ∀ a : Fin 256, ∀ i : Fin 16, ∀ b : Fin 256, (BitVec.ofNat 16 (a.val * 256 + b.val)).getLsbD i.val = ((BitVec.ofNat 16 a.val <<< 8) ^^^ BitVec.ofNat 16 b.val).getLsbD i.val := by
        intro a i b
        simp only [BitVec.getLsbD_xor, BitVec.getLsbD_shiftLeft, BitVec.getLsbD_ofNat]
        have hi : i.val < 16 := i.isLt
        have hb := b.isLt
        rw [show a.val * 256 + b.val = 2 ^ 8 * a.val + b.val by omega, Nat.testBit_two_pow_mul_add _ (by omega)]
        by_cases h8 : i.val < 8
        · simp [h8, hi]
        · have : b.val.testBit i.val = false := Nat.testBit_lt_two_pow (Nat.lt_of_lt_of_le hb (by rw [show 256 = 2 ^ 8 from rfl]; exact Nat.pow_le_pow_right (by decide) (by omega)))
          have h' : ¬ i.val < 8 := h8
          simp [h8, hi, this]
          omega
      apply BitVec.eq_of_getLsbD_eq
      intro i hi
      exact key ⟨a, ha⟩ ⟨i, hi⟩ ⟨b, hb⟩
    have e2 : BitVec.ofNat 16 b <<< 8 = crcN 8 (BitVec.ofNat 16 b) := by
      have key : ∀ b : Fin 256, BitVec.ofNat 16 b.val <<< 8 = crcN 8 (BitVec.ofNat 16 b.val) := by decide +kernel
      exact key ⟨b, hb⟩
    unfold crcB
    rw [e2, ← crcN_xor, ← crcN_add, e1, BitVec.xor_assoc]
  rw [e]
  constructor
  · intro h
    have := crcN_zero _ h
    exact BitVec.xor_eq_zero_iff.1 this
  · intro h
    rw [h, BitVec.xor_self]
    exact crcN_null _
def byteN (b : List Int) (i : Nat) : Nat := (b.getD i 0).toNat
def crcS (b : List Int) : Nat → B16
  | 0 => 0xFFFF#16
  | n + 1 => crcB (crcS b n) (byteN b n)
def crcI (b : List Int) : Int := ((crcS b b.length).toNat : Int)
def Bytes (b : List Int) : Prop := ∀ i, 0 ≤ b.getD i 0 ∧ b.getD i 0 ≤ 255
def crcM (b : List Int) (i : Nat) : Bool := decide (i < 8 * b.length) && (byteN b (i / 8)).testBit (7 - i % 8)
theorem crcQ_S {b : List Int} (hb : Bytes b) : ∀ n, n ≤ b.length → crcQ (crcM b) 0xFFFF#16 (8 * n) = crcS b n
  | 0, _ => rfl
  | n + 1, h => by
    rw [show 8 * (n + 1) = 8 * n + 8 by omega, crcS]
    have := hb n
    refine crcB_bits _ _ (by unfold byteN; omega) _ _ (fun j hj => ?_) (crcQ_S hb n (by omega))
    unfold crcM
    rw [decide_eq_true (show 8 * n + j < 8 * b.length by omega), show (8 * n + j) / 8 = n by omega, show (8 * n + j) % 8 = j by omega, Bool.true_and]
theorem crcS_doc {b : List Int} (hb : Bytes b) : crcP (flip16 (crcM b)) 0#16 (8 * b.length + 16) = crcS b b.length := by
  rw [crc_same (crcM b) (8 * b.length) (fun i hi => by unfold crcM; rw [decide_eq_false (by omega), Bool.false_and]), crcQ_S hb _ (Nat.le_refl _)]
theorem crcS_take (b : List Int) (k : Nat) : ∀ n, n ≤ k → crcS (b.take k) n = crcS b n
  | 0, _ => rfl
  | n + 1, h => by
    rw [crcS, crcS, crcS_take b k n (by omega)]
    unfold byteN
    simp only [List.getD, List.getElem?_take, show n < k by omega, if_true]
theorem crc_check {b : List Int} (hb : Bytes b) {n : Nat} (hn : b.length = n + 2) : crcI b = 0 ↔ crcI (b.take n) = b.getD n 0 * 256 + b.getD (n + 1) 0 := by
  have h1 := hb n
  have h2 := hb (n + 1)
  have e : crcI (b.take n) = ((crcS b n).toNat : Int) := by
    unfold crcI
    rw [List.length_take, Nat.min_eq_left (by omega), crcS_take b n n (Nat.le_refl _)]
  rw [e]
  unfold crcI
  rw [hn, crcS, crcS]
  have t := crc_tail (crcS b n) (byteN b n) (byteN b (n + 1)) (by unfold byteN; omega) (by unfold byteN; omega)
  have g1 : ((byteN b n : Nat) : Int) = b.getD n 0 := by unfold byteN; omega
  have g2 : ((byteN b (n + 1) : Nat) : Int) = b.getD (n + 1) 0 := by unfold byteN; omega
  have hlt : byteN b n * 256 + byteN b (n + 1) < 65536 := by unfold byteN; omega
  constructor
  · intro h
    have h0 : crcB (crcB (crcS b n) (byteN b n)) (byteN b (n + 1)) = 0#16 := by apply BitVec.eq_of_toNat_eq; simp; omega
    rw [t.1 h0, BitVec.toNat_ofNat, Nat.mod_eq_of_lt (by omega)]
    omega
  · intro h
    have h0 : crcS b n = BitVec.ofNat 16 (byteN b n * 256 + byteN b (n + 1)) := by
      apply BitVec.eq_of_toNat_eq
      rw [BitVec.toNat_ofNat, Nat.mod_eq_of_lt (by omega)]
      omega
    rw [t.2 h0]
    rfl
end Go.Proofs.YtlkcanjbgaeceaaGreat
