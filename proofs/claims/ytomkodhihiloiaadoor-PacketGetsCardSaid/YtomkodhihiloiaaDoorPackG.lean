/- Packets: their bytes, and what is read of bytes. -/
import Derived.Test.YtomkodhihiloiaaDoorPackF
import Derived.Test.YtomkodhihiloiaaDoorBitT
import Derived.Test.YtomkodhihiloiaaDoorLaw34F
import Derived.Test.YtomkodhihiloiaaDoorCrcG
set_option linter.unusedSimpArgs false
set_option linter.unusedVariables false
namespace Go.Proofs.YtomkodhihiloiaaDoor
open Go.RowKit
/-- How many bits each number and each flag has. -/
def wf (i : Nat) : Nat := [16, 3, 16, 36, 36, 36, 20, 20, 1, 1, 1, 1, 1, 1, 1].getD i 0
def off : Nat → Nat
  | 0 => 0
  | k + 1 => off k + wf k
theorem wf_wd (i : Nat) (hi : i < 8) : wf i = wd i := by
  have : i = 0 ∨ i = 1 ∨ i = 2 ∨ i = 3 ∨ i = 4 ∨ i = 5 ∨ i = 6 ∨ i = 7 := by omega
  rcases this with rfl | rfl | rfl | rfl | rfl | rfl | rfl | rfl <;> rfl
theorem wf_le (i : Nat) : wf i ≤ 36 := by
  by_cases h : i < 15
  · have : i = 0 ∨ i = 1 ∨ i = 2 ∨ i = 3 ∨ i = 4 ∨ i = 5 ∨ i = 6 ∨ i = 7 ∨ i = 8 ∨ i = 9 ∨ i = 10 ∨ i = 11 ∨ i = 12 ∨ i = 13 ∨ i = 14 := by omega
    rcases this with rfl | rfl | rfl | rfl | rfl | rfl | rfl | rfl | rfl | rfl | rfl | rfl | rfl | rfl | rfl <;> decide
  · unfold wf
    rw [List.getD_eq_getElem?_getD, List.getElem?_eq_none (by simpa using h)]
    decide
theorem wf_pos (i : Nat) (h : i < 15) : 1 ≤ wf i := by
  have : i = 0 ∨ i = 1 ∨ i = 2 ∨ i = 3 ∨ i = 4 ∨ i = 5 ∨ i = 6 ∨ i = 7 ∨ i = 8 ∨ i = 9 ∨ i = 10 ∨ i = 11 ∨ i = 12 ∨ i = 13 ∨ i = 14 := by omega
  rcases this with rfl | rfl | rfl | rfl | rfl | rfl | rfl | rfl | rfl | rfl | rfl | rfl | rfl | rfl | rfl <;> decide
theorem off_mono : ∀ (a b : Nat), a ≤ b → off a ≤ off b
  | a, 0, h => by rw [Nat.le_zero.1 h]; exact Nat.le_refl _
  | a, b + 1, h => by
    by_cases e : a = b + 1
    · rw [e]; exact Nat.le_refl _
    · have := off_mono a b (by omega)
      rw [off]
      omega
theorem off15 : off 15 = 190 := by decide
theorem off8 : off 8 = 183 := by decide
theorem off_next (k : Nat) : off k + wf k = off (k + 1) := rfl
def flagL (f : Flags7) : List Int := [flag f.1, flag f.2.1, flag f.2.2.1, flag f.2.2.2.1, flag f.2.2.2.2.1, flag f.2.2.2.2.2.1, flag f.2.2.2.2.2.2]
def numF (p : Pkt) : List Int := numL (nums p) ++ flagL p.2.2.2.2.2.2.2.2
theorem numF_num (p : Pkt) (i : Nat) (hi : i < 8) : (numF p).getD i 0 = (numL (nums p)).getD i 0 := by
  have : i = 0 ∨ i = 1 ∨ i = 2 ∨ i = 3 ∨ i = 4 ∨ i = 5 ∨ i = 6 ∨ i = 7 := by omega
  rcases this with rfl | rfl | rfl | rfl | rfl | rfl | rfl | rfl <;> rfl
/-- The bits of the first k numbers. -/
def bitsK (x : List Int) : Nat → List Bool
  | 0 => []
  | k + 1 => bitsK x k ++ bitsN (uOf (x.getD k 0)) (wf k)
theorem bitsK_length (x : List Int) : ∀ k, (bitsK x k).length = off k
  | 0 => rfl
  | k + 1 => by rw [bitsK, List.length_append, bitsK_length x k, bitsN_length]; rfl
/-- The bytes of the first k numbers. -/
def rowK (x : List Int) : Nat → List Int
  | 0 => []
  | k + 1 => putK (rowK x k) (off k) (uOf (x.getD k 0)) (wf k) (wf k)
theorem rowK_holds (x : List Int) : ∀ k, Holds (rowK x k) (bitsK x k)
  | 0 => holds_nil
  | k + 1 => by
    have := (holds_put (rowK_holds x k) (uOf (x.getD k 0)) (wf k)).2
    rw [bitsK_length] at this
    exact this
theorem rowK_row (x : List Int) (k : Nat) : RowZ (rowK x k) (off k) := by
  have := (holds_put (rowK_holds x k) 0 0).1
  rwa [bitsK_length] at this
theorem glob_wd (i : Nat) (hi : i < 8) : List.getD [glob_0.1, glob_0.2.1, glob_0.2.2.1, glob_0.2.2.2.1, glob_0.2.2.2.2.1, glob_0.2.2.2.2.2.1, glob_0.2.2.2.2.2.2.1, glob_0.2.2.2.2.2.2.2] i (0 : Int) = (wf i : Int) := by
  have : i = 0 ∨ i = 1 ∨ i = 2 ∨ i = 3 ∨ i = 4 ∨ i = 5 ∨ i = 6 ∨ i = 7 := by omega
  rcases this with rfl | rfl | rfl | rfl | rfl | rfl | rfl | rfl <;> rfl
/-- With two bytes of sum behind. -/
def sealB (b : List Int) : List Int := b ++ [crcI b / 256, crcI b % 256]
theorem crcI_bound (b : List Int) : 0 ≤ crcI b ∧ crcI b ≤ 65535 := by
  unfold crcI
  have := (crcS b b.length).isLt
  omega
theorem f_sealB (b : List Int) (hb : RByte b) (h0 : 0 < b.length) (hl : b.length ≤ 100000) : F_crc_Seal b = some (sealB b) := by
  unfold F_crc_Seal
  rw [f_Sum b hb (by omega), Option.bind_some]
  have hcr := crcI_bound b
  simp only []
  rw [wrap_ok (n := (b.length : Int) + 2) (by omega), decide_eq_true (show (0 : Int) ≤ (b.length : Int) by omega), decide_eq_true (show (b.length : Int) ≤ (b.length : Int) + 2 by omega), decide_eq_true (show ((b.length : Int) + 2) * 1 ≤ 140737488355328 by omega), decide_eq_true (show ((b.length : Int) + 2) ≤ 140737488355328 by omega), Int.toNat_natCast, List.length_replicate, decide_eq_true (show 0 < b.length by omega), List.take_length, List.drop_eq_nil_of_le (by rw [List.length_replicate]; exact Nat.le_refl _), List.append_nil]
  simp only [Bool.and_self, chk_yes]
  rw [decide_eq_true (by simp; omega)]
  simp only [chk_yes, Option.bind_some]
  unfold sealB
  have e1 : IntKind.u8.wrap ((crcI b).fdiv (2 ^ 8)) = crcI b / 256 := by
    rw [Int.fdiv_eq_ediv_of_nonneg _ (by decide)]
    simp [IntKind.wrap, IntKind.signed, IntKind.bits]
    omega
  have e2 : IntKind.u8.wrap (crcI b) = crcI b % 256 := by simp [IntKind.wrap, IntKind.signed, IntKind.bits]
  rw [e1, e2]
/-- A flag is put. -/
theorem put_flag {β : Type} (x : List Int) (k : Nat) (hk : k < 15) (hw : wf k = 1) (b : Bool) (hb : x.getD k 0 = flag b) (K : List Int × Int → Option β) :
    (Option.bind (bif b then some (1 : Int) else some (0 : Int)) fun r => (F_bits_Row_Put r (1 : Int) (rowK x k) (off k : Int)).bind K) = K (rowK x (k + 1), (off (k + 1) : Int)) := by
  have e : uOf (x.getD k 0) = b.toNat := by rw [hb]; cases b <;> rfl
  have hoff : off k ≤ 190 := by rw [← off15]; exact off_mono _ _ (by omega)
  have hp := f_bitPut b.toNat (by cases b <;> decide) 1 (by decide) (rowK x k) (off k) (rowK_row x k) (by omega)
  have h1 : Option.bind (bif b then some (1 : Int) else some (0 : Int)) (fun r => (F_bits_Row_Put r (1 : Int) (rowK x k) (off k : Int)).bind K) = (F_bits_Row_Put ((b.toNat : Nat) : Int) ((1 : Nat) : Int) (rowK x k) (off k : Int)).bind K := by cases b <;> rfl
  rw [h1, hp, Option.bind_some, rowK, e, hw, off, hw]
set_option maxRecDepth 100000 in
theorem f_packetPut (p : Pkt) : F_packet_Put p = some (bif rightB (nums p) then (sealB (rowK (numF p) 15), 0) else ([], 10)) := by
  unfold F_packet_Put
  rw [f_packRight, Option.bind_some]
  cases hr : rightB (nums p) with
  | false => rfl
  | true =>
    simp only [Bool.not_true, cond_false, cond_true]
    unfold F_packet_Packet_numbers
    rw [Option.bind_some]
    rw [show (((0 : Int), ([] : List Int), (0 : Int)) : Int × List Int × Int) = (((off 0 : Nat) : Int), rowK (numF p) 0, ((0 : Nat) : Int)) from rfl]
    rw [loop_run (n := 8) (st := fun k => (((off k : Nat) : Int), rowK (numF p) k, (k : Int))) (x := (((off 8 : Nat) : Int), rowK (numF p) 8))]
    · rw [Option.bind_some]
      simp only []
      rw [put_flag (numF p) 8 (by decide) rfl p.2.2.2.2.2.2.2.2.1 rfl]
      rw [put_flag (numF p) 9 (by decide) rfl p.2.2.2.2.2.2.2.2.2.1 rfl]
      rw [put_flag (numF p) 10 (by decide) rfl p.2.2.2.2.2.2.2.2.2.2.1 rfl]
      rw [put_flag (numF p) 11 (by decide) rfl p.2.2.2.2.2.2.2.2.2.2.2.1 rfl]
      rw [put_flag (numF p) 12 (by decide) rfl p.2.2.2.2.2.2.2.2.2.2.2.2.1 rfl]
      rw [put_flag (numF p) 13 (by decide) rfl p.2.2.2.2.2.2.2.2.2.2.2.2.2.1 rfl]
      rw [put_flag (numF p) 14 (by decide) rfl p.2.2.2.2.2.2.2.2.2.2.2.2.2.2 rfl]
      obtain ⟨h1, h2, _⟩ := rowK_holds (numF p) 15
      rw [bitsK_length, off15] at h2
      unfold F_bits_Row_Bytes
      rw [decide_eq_true (by rw [List.length_nil, h2]; decide), chk_yes rfl]
      simp only [Option.bind_some, List.nil_append]
      rw [f_sealB _ h1 (by rw [h2]; decide) (by rw [h2]; decide)]
      rfl
    · intro k hk
      have hoff : off k ≤ 183 := by rw [← off8]; exact off_mono _ _ (by omega)
      have hw := wf_le k
      simp only []
      rw [decide_eq_true (show (k : Int) < 8 by omega), decide_eq_true (show (0 : Int) ≤ (k : Int) by omega), Int.toNat_natCast, glob_wd k hk, wrap_ok (n := (k : Int) + 1) (by omega)]
      simp only [cond_true, Bool.and_self, chk_yes]
      show Option.bind (F_bits_Row_PutSigned ((numL (nums p)).getD k 0) (wf k : Int) (rowK (numF p) k) ((off k : Nat) : Int)) _ = _
      rw [← numF_num p k hk, f_bitPutS _ (wf k) (by omega) _ _ (rowK_row _ _) (by omega), Option.bind_some]
      rfl
    · simp only []
      rw [decide_eq_false (show ¬ (((8 : Nat) : Int) < 8) by omega)]
      rfl
/-- The document's numbers, as texts. -/
theorem f_NumberI (V : Int) (m : Nat) (hm : m ≤ 64) : F_ref34_Number (IntKind.u64.wrap V) (m : Int) = some (bitsT (bitsN (uOf V) m)) := by
  obtain ⟨h1, h2⟩ := uOf_wrap V
  rw [h1, f_Number _ h2 m hm]
theorem flag_text {β : Type} (x : List Int) (k : Nat) (hk : k < 15) (hw : wf k = 1) (V : Int) (hV : x.getD k 0 = V) (t : ByteArray) (ht : t = bitsT (bitsK x k)) (K : ByteArray → Option β) :
    (F_ref34_Number (IntKind.u64.wrap V) (1 : Int)).bind (fun z => chk none (decide (t.size + z.size ≤ 9223372036854775807)) (K z)) = K (bitsT (bitsN (uOf V) 1)) ∧ t ++ bitsT (bitsN (uOf V) 1) = bitsT (bitsK x (k + 1)) := by
  subst ht
  have hoff : off k ≤ 190 := by rw [← off15]; exact off_mono _ _ (by omega)
  rw [show (1 : Int) = ((1 : Nat) : Int) from rfl, f_NumberI V 1 (by decide), Option.bind_some, decide_eq_true (by rw [bitsT_size, bitsT_size, bitsK_length, bitsN_length]; omega), chk_yes rfl, bitsT_app, bitsK, hV, hw]
  exact ⟨rfl, rfl⟩
set_option maxRecDepth 100000 in
theorem f_packetPutR (p : Pkt) : F_ref35_Put (refP p) = some (sealB (rowK (numF p) 15)) := by
  unfold F_ref35_Put F_ref35_Widths
  rw [Option.bind_some]
  rw [show (((⟨#[]⟩ : ByteArray), (0 : Int)) : ByteArray × Int) = (bitsT (bitsK (numF p) 0), ((0 : Nat) : Int)) from rfl]
  rw [loop_run (n := 8) (st := fun k => (bitsT (bitsK (numF p) k), (k : Int))) (x := bitsT (bitsK (numF p) 8))]
  · rw [Option.bind_some]
    simp only []
    obtain ⟨e1, t1⟩ := flag_text (β := List Int) (numF p) 8 (by decide) rfl (refP p).2.1 rfl _ rfl _
    rw [e1]
    obtain ⟨e2, t2⟩ := flag_text (β := List Int) (numF p) 9 (by decide) rfl (refP p).2.2.1 rfl _ t1 _
    rw [e2]
    obtain ⟨e3, t3⟩ := flag_text (β := List Int) (numF p) 10 (by decide) rfl (refP p).2.2.2.1 rfl _ t2 _
    rw [e3]
    obtain ⟨e4, t4⟩ := flag_text (β := List Int) (numF p) 11 (by decide) rfl (refP p).2.2.2.2.1 rfl _ t3 _
    rw [e4]
    obtain ⟨e5, t5⟩ := flag_text (β := List Int) (numF p) 12 (by decide) rfl (refP p).2.2.2.2.2.1 rfl _ t4 _
    rw [e5]
    obtain ⟨e6, t6⟩ := flag_text (β := List Int) (numF p) 13 (by decide) rfl (refP p).2.2.2.2.2.2.1 rfl _ t5 _
    rw [e6]
    obtain ⟨e7, t7⟩ := flag_text (β := List Int) (numF p) 14 (by decide) rfl (refP p).2.2.2.2.2.2.2 rfl _ t6 _
    rw [e7, t7]
    obtain ⟨l, hl, hh⟩ := f_Bytes (bitsK (numF p) 15) (by rw [bitsK_length, off15]; decide)
    have hlr : l = rowK (numF p) 15 := holds_eq hh (rowK_holds (numF p) 15)
    rw [hl, Option.bind_some, hlr]
    obtain ⟨h1, h2, _⟩ := rowK_holds (numF p) 15
    rw [bitsK_length, off15] at h2
    rw [f_refSum _ h1 (by rw [h2]; decide), Option.bind_some]
    have hcr := crcI_bound (rowK (numF p) 15)
    rw [decide_eq_true (by rw [h2]; simp only [List.length_cons, List.length_nil]; decide), chk_yes rfl]
    unfold sealB
    generalize crcI (rowK (numF p) 15) = c at *
    obtain ⟨c, rfl⟩ := Int.eq_ofNat_of_zero_le hcr.1
    have f1 : IntKind.u8.wrap (IntKind.i64.wrap (((c : Nat) : Int).tdiv 256)) = ((c : Nat) : Int) / 256 := by
      rw [show (256 : Int) = ((256 : Nat) : Int) from rfl, tdN, i64n _ (by omega)]
      simp [IntKind.wrap, IntKind.signed, IntKind.bits]
      omega
    have f2 : IntKind.u8.wrap (((c : Nat) : Int).tmod 256) = ((c : Nat) : Int) % 256 := by
      rw [show (256 : Int) = ((256 : Nat) : Int) from rfl, tmN]
      simp [IntKind.wrap, IntKind.signed, IntKind.bits]
    rw [f1, f2]
  · intro k hk
    have hoff : off k ≤ 183 := by rw [← off8]; exact off_mono _ _ (by omega)
    have hw := wf_le k
    simp only []
    rw [decide_eq_true (show (k : Int) < 8 by omega), decide_eq_true (show (0 : Int) ≤ (k : Int) by omega), Int.toNat_natCast, wd_get k hk, ← wf_wd k hk, wrap_ok (n := (k : Int) + 1) (by omega)]
    simp only [cond_true, Bool.and_self, chk_yes]
    show Option.bind (F_ref34_Number (IntKind.u64.wrap ((numL (nums p)).getD k 0)) (wf k : Int)) _ = _
    rw [← numF_num p k hk, f_NumberI _ (wf k) (by omega), Option.bind_some, decide_eq_true (by rw [bitsT_size, bitsT_size, bitsK_length, bitsN_length]; omega), chk_yes rfl, bitsT_app]
    rfl
  · simp only []
    rw [decide_eq_false (show ¬ (((8 : Nat) : Int) < 8) by omega)]
    rfl
/-- The bits of a number, or of a flag, in bytes. -/
def seg (c : List Int) (i : Nat) : List Bool := ((bitsB c).take (off i + wf i)).drop (off i)
theorem seg_length {c : List Int} (h : c.length = 24) (i : Nat) (hi : i < 15) : (seg c i).length = wf i := by
  have := off_mono (i + 1) 15 (by omega)
  rw [off15, off] at this
  unfold seg
  rw [List.length_drop, List.length_take, bitsB_length]
  omega
/-- A number in bytes. -/
def numG (c : List Int) (i : Nat) : Int := bif decide (2 < i) then sgnT (seg c i) else ((numT (seg c i) : Nat) : Int)
def flagG (c : List Int) (i : Nat) : Bool := ((numT (seg c i) : Nat) : Int) == 1
def decG (c : List Int) : Pkt := (numG c 0, numG c 1, numG c 2, numG c 3, numG c 4, numG c 5, numG c 6, numG c 7, flagG c 8, flagG c 9, flagG c 10, flagG c 11, flagG c 12, flagG c 13, flagG c 14)
def restG (c : List Int) : Nat := numT ((bitsB c).drop 190)
/-- What is read of bytes. -/
def getI (b : List Int) : Pkt × Int :=
  if b.length < 26 then (pkt0, 14) else if 26 < b.length then (pkt0, 15) else if crcI b ≠ 0 then (pkt0, 31)
  else if restG (b.take 24) ≠ 0 ∨ rightB (nums (decG (b.take 24))) = false then (pkt0, 11) else (decG (b.take 24), 0)
theorem sgnT_bounds (l : List Bool) (n : Nat) (h : l.length = n + 1) : -(2 ^ n) ≤ sgnT l ∧ sgnT l < 2 ^ n ∧ sgnT l % 2 ^ (n + 1) = ((numT l : Nat) : Int) := by
  match l, h with
  | b :: t, h =>
    have ht : t.length = n := by simpa using h
    have h1 := numT_cons b n t ht
    have h2 := numT_lt n t ht
    unfold sgnT
    have hg : (b :: t).getD 0 false = b := rfl
    rw [hg, h, h1]
    have hp : ((2 : Int) ^ (n + 1)) = 2 * ((2 ^ n : Nat) : Int) := by rw [Int.pow_succ]; simp; omega
    have hp1 : ((2 : Int) ^ n) = ((2 ^ n : Nat) : Int) := by simp
    rw [hp, hp1]
    generalize 2 ^ n = q at *
    cases b with
    | false =>
      simp only [cond_false, Bool.toNat_false, Nat.zero_mul, Nat.zero_add]
      refine ⟨by omega, by omega, Int.emod_eq_of_lt (by omega) (by omega)⟩
    | true =>
      simp only [cond_true, Bool.toNat_true, Nat.one_mul]
      refine ⟨by omega, by omega, ?_⟩
      rw [← Int.add_emod_right, Int.sub_add_cancel]
      exact Int.emod_eq_of_lt (by omega) (by omega)
theorem sign_num (l : List Bool) (m : Nat) (h1 : 1 ≤ m) (h64 : m ≤ 60) (h : l.length = m) : (IntKind.i64.wrap (IntKind.u64.wrap (((numT l : Nat) : Int) * 2 ^ (64 - m)))).fdiv (2 ^ (64 - m)) = sgnT l := by
  obtain ⟨n, rfl⟩ : ∃ n, m = n + 1 := ⟨m - 1, by omega⟩
  obtain ⟨s1, s2, s3⟩ := sgnT_bounds l n h
  obtain ⟨b1, b2⟩ := fit_bounds (V := sgnT l) (m := n + 1) h1 (by omega) s1 s2
  have := sign_back (sgnT l) (n + 1) (64 - (n + 1)) (by omega) b1 b2
  rw [s3] at this
  exact this
theorem f_psigned (i : Int) : F_packet_signed i = some (decide (2 < i)) := by
  unfold F_packet_signed
  rfl
/-- The first k numbers; 0 for the others. -/
def valG (c : List Int) (k i : Nat) : Int := if i < k then numG c i else 0
theorem val_step (c : List Int) (k i : Nat) (j : Int) (hj : j = (i : Int)) (x : Int) (hx : x = numG c k) : (bif ((k : Int) == j) then x else valG c k i) = valG c (k + 1) i := by
  subst hj hx
  unfold valG
  by_cases h : k = i
  · subst h
    rw [if_pos (Nat.lt_succ_self _)]
    simp
  · rw [beq_false_of_ne (by omega)]
    simp only [cond_false]
    by_cases hi : i < k
    · rw [if_pos hi, if_pos (by omega)]
    · rw [if_neg hi, if_neg (by omega)]
theorem take_bits {c : List Int} (hc : RByte c) (h24 : c.length = 24) (k : Nat) (hk : k < 15) : getV c (off k) (wf k) = numT (seg c k) := by
  have := off_mono (k + 1) 15 (by omega)
  rw [off15, off] at this
  exact getV_num c (off k) (wf k) (by omega)
theorem get_num {c : List Int} (hc : RByte c) (h24 : c.length = 24) (k : Nat) (hk : k < 15) : F_bits_Reader_Get (wf k : Int) c (off k : Int) false = some (((numT (seg c k) : Nat) : Int), c, ((off (k + 1) : Nat) : Int), false) := by
  have hm := off_mono (k + 1) 15 (by omega)
  rw [off15, off] at hm
  rw [f_bitGet (wf k) (wf_pos k hk) (by have := wf_le k; omega) c hc (by omega) (off k) (by omega), take_bits hc h24 k hk]
  rfl
theorem get_sgn {c : List Int} (hc : RByte c) (h24 : c.length = 24) (k : Nat) (hk : k < 15) : F_bits_Reader_GetSigned (wf k : Int) c (off k : Int) false = some (sgnT (seg c k), c, ((off (k + 1) : Nat) : Int), false) := by
  have hm := off_mono (k + 1) 15 (by omega)
  rw [off15, off] at hm
  have hw := wf_le k
  rw [f_bitSigned (wf k) (wf_pos k hk) (by omega) c hc (by omega) (off k) (by omega), take_bits hc h24 k hk, sign_num (seg c k) (wf k) (wf_pos k hk) (by omega) (seg_length h24 k hk)]
  rfl
theorem num_small {c : List Int} (h24 : c.length = 24) (k : Nat) (hk : k < 15) : numT (seg c k) < 68719476736 := by
  have h1 := numT_lt _ _ (seg_length h24 k hk)
  have h2 : 2 ^ wf k ≤ 2 ^ 36 := Nat.pow_le_pow_right (by decide) (wf_le k)
  have h3 : (2 : Nat) ^ 36 = 68719476736 := by decide
  omega
theorem flag_get {c : List Int} (hc : RByte c) (h24 : c.length = 24) (k : Nat) (hk : k < 15) (hw : wf k = 1) : F_bits_Reader_Get 1 c (off k : Int) false = some (((numT (seg c k) : Nat) : Int), c, ((off (k + 1) : Nat) : Int), false) := by
  have := get_num hc h24 k hk
  rw [hw] at this
  exact this
theorem rbyte_take {b : List Int} (h : RByte b) (n : Nat) : RByte (b.take n) := by
  intro i
  have := h i
  rw [List.getD_eq_getElem?_getD, List.getElem?_take]
  split
  · rw [← List.getD_eq_getElem?_getD]; exact this
  · decide
theorem f_packetGet (b : List Int) (hb : RByte b) : F_packet_Get b = some (getI b) := by
  unfold F_packet_Get getI
  by_cases h1 : b.length < 26
  · rw [decide_eq_true (show (b.length : Int) < 26 by omega), if_pos h1]
    rfl
  · rw [decide_eq_false (show ¬ (b.length : Int) < 26 by omega), if_neg h1]
    by_cases h2 : 26 < b.length
    · rw [decide_eq_true (show (26 : Int) < (b.length : Int) by omega), if_pos h2]
      rfl
    · rw [decide_eq_false (show ¬ (26 : Int) < (b.length : Int) by omega), if_neg h2]
      simp only [cond_false]
      rw [f_Sum b hb (by omega), Option.bind_some]
      by_cases h3 : crcI b = 0
      · rw [h3, if_neg (by simp), decide_eq_true (show (24 : Int) ≤ (b.length : Int) by omega)]
        simp only [bne_self_eq_false, cond_false, Bool.and_self, chk_yes]
        rw [show (24 : Int).toNat = 24 from rfl, show (0 : Int).toNat = 0 from rfl, List.drop_zero]
        have hc : RByte (b.take 24) := rbyte_take hb 24
        have h24 : (b.take 24).length = 24 := by rw [List.length_take]; omega
        generalize b.take 24 = c at *
        unfold F_bits_Over
        rw [decide_eq_true (by rw [List.length_nil, h24]; decide), chk_yes rfl]
        simp only [Option.bind_some, List.nil_append]
        rw [show (((0 : Int), (0 : Int), (0 : Int), false, (0 : Int), (0 : Int), (0 : Int), (0 : Int), (0 : Int), (0 : Int), c, (0 : Int)) : Int × Int × Int × Bool × Int × Int × Int × Int × Int × Int × List Int × Int) = (valG c 0 4, valG c 0 1, valG c 0 7, false, valG c 0 0, valG c 0 3, valG c 0 6, ((off 0 : Nat) : Int), valG c 0 2, valG c 0 5, c, ((0 : Nat) : Int)) from rfl]
        rw [loop_run (n := 8) (st := fun k => (valG c k 4, valG c k 1, valG c k 7, false, valG c k 0, valG c k 3, valG c k 6, ((off k : Nat) : Int), valG c k 2, valG c k 5, c, (k : Int))) (x := (valG c 8 4, valG c 8 1, valG c 8 7, false, valG c 8 0, valG c 8 3, valG c 8 6, ((off 8 : Nat) : Int), valG c 8 2, valG c 8 5, c))]
        · rw [Option.bind_some]
          simp only []
          rw [flag_get hc h24 8 (by decide) rfl, Option.bind_some]
          simp only []
          rw [flag_get hc h24 9 (by decide) rfl, Option.bind_some]
          simp only []
          rw [flag_get hc h24 10 (by decide) rfl, Option.bind_some]
          simp only []
          rw [flag_get hc h24 11 (by decide) rfl, Option.bind_some]
          simp only []
          rw [flag_get hc h24 12 (by decide) rfl, Option.bind_some]
          simp only []
          rw [flag_get hc h24 13 (by decide) rfl, Option.bind_some]
          simp only []
          rw [flag_get hc h24 14 (by decide) rfl, Option.bind_some]
          simp only []
          unfold F_bits_Reader_Left
          simp only [Option.bind_some]
          rw [h24, off15, show IntKind.i64.wrap (IntKind.i64.wrap (8 * ((24 : Nat) : Int)) - ((190 : Nat) : Int)) = ((2 : Nat) : Int) from by decide]
          rw [f_bitGet 2 (by decide) (by decide) c hc (by omega) 190 (by omega), Option.bind_some]
          have hrest : getV c 190 2 = restG c := by
            rw [getV_num c 190 2 (by omega)]
            unfold restG
            rw [List.take_of_length_le (by rw [bitsB_length]; omega)]
          simp only []
          rw [hrest]
          have hd : ((valG c 8 0, valG c 8 1, valG c 8 2, valG c 8 3, valG c 8 4, valG c 8 5, valG c 8 6, valG c 8 7, (((numT (seg c 8) : Nat) : Int) == 1), (((numT (seg c 9) : Nat) : Int) == 1), (((numT (seg c 10) : Nat) : Int) == 1), (((numT (seg c 11) : Nat) : Int) == 1), (((numT (seg c 12) : Nat) : Int) == 1), (((numT (seg c 13) : Nat) : Int) == 1), (((numT (seg c 14) : Nat) : Int) == 1)) : Pkt) = decG c := rfl
          rw [hd, f_packRight]
          by_cases hz : restG c = 0
          · rw [hz]
            cases hr : rightB (nums (decG c)) with
            | false => simp; rfl
            | true => simp
          · rw [if_pos (.inl hz), bne_iff_ne.2 (show ((restG c : Nat) : Int) ≠ 0 by omega)]
            rfl
        · intro k hk
          simp only []
          rw [decide_eq_true (show (k : Int) < 8 by omega), decide_eq_true (show (0 : Int) ≤ (k : Int) by omega), Int.toNat_natCast, glob_wd k hk, wrap_ok (n := (k : Int) + 1) (by omega), f_psigned]
          simp only [cond_true, Bool.and_self, chk_yes, Option.bind_some]
          by_cases h3 : 2 < k
          · have hx : sgnT (seg c k) = numG c k := by unfold numG; rw [decide_eq_true h3]; rfl
            rw [decide_eq_true (show (2 : Int) < (k : Int) by omega), get_sgn hc h24 k (by omega)]
            simp only [cond_true, Option.bind_some]
            rw [val_step c k 4 4 rfl _ hx, val_step c k 1 1 rfl _ hx, val_step c k 7 7 rfl _ hx, val_step c k 2 2 rfl _ hx, val_step c k 5 5 rfl _ hx, val_step c k 0 0 rfl _ hx, val_step c k 3 3 rfl _ hx, val_step c k 6 6 rfl _ hx]
            rfl
          · have hx : IntKind.i64.wrap ((numT (seg c k) : Nat) : Int) = numG c k := by
              have := num_small h24 k (by omega)
              unfold numG
              rw [decide_eq_false h3, i64n _ (by omega)]
              rfl
            rw [decide_eq_false (show ¬ (2 : Int) < (k : Int) by omega), get_num hc h24 k (by omega)]
            simp only [cond_false, Option.bind_some]
            rw [val_step c k 4 4 rfl _ hx, val_step c k 1 1 rfl _ hx, val_step c k 7 7 rfl _ hx, val_step c k 2 2 rfl _ hx, val_step c k 5 5 rfl _ hx, val_step c k 0 0 rfl _ hx, val_step c k 3 3 rfl _ hx, val_step c k 6 6 rfl _ hx]
            rfl
        · simp only []
          rw [decide_eq_false (show ¬ (((8 : Nat) : Int) < 8) by omega)]
          rfl
      · rw [bne_iff_ne.2 h3, if_pos h3]
        rfl
end Go.Proofs.YtomkodhihiloiaaDoor
