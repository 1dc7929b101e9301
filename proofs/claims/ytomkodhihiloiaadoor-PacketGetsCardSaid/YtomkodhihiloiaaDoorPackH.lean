/- PacketPuts, PacketGets: what their readings say is true. -/
import Derived.Test.YtomkodhihiloiaaDoorPackG
import Derived.Test.YtomkodhihiloiaaDoorImgI
import Derived.Test.YtomkodhihiloiaaDoorEngLink
set_option linter.unusedSimpArgs false
set_option linter.unusedVariables false
namespace Go.Proofs.YtomkodhihiloiaaDoor
open Go.RowKit
theorem flag_num (c : List Int) (h24 : c.length = 24) (k : Nat) (hk : k < 15) (hw : wf k = 1) : IntKind.i64.wrap ((numT (seg c k) : Nat) : Int) = flag (flagG c k) := by
  have h := numT_lt _ _ (seg_length h24 k hk)
  rw [hw] at h
  unfold flagG flag
  have : numT (seg c k) = 0 ∨ numT (seg c k) = 1 := by omega
  rcases this with e | e <;> rw [e] <;> rfl
theorem drop_take_seg (c : List Int) (k : Nat) : ((bitsB c).drop (off k)).take (wf k) = seg c k := by
  unfold seg
  rw [List.take_drop]
theorem ref_flag {β : Type} (c : List Int) (h24 : c.length = 24) (j i k : Nat) (hj : j + 1 = i) (hk : k < 15) (hw : wf k = 1) (ho : off k = 183 + j) (K : Int → Option β) :
    (F_ref34_Value ((bitsT ((bitsB c).drop 183)).extract j i)).bind K = K ((numT (seg c k) : Nat) : Int) := by
  rw [bitsT_extract, ← hj, List.take_drop, List.drop_drop]
  have e : ((bitsB c).take (183 + (j + 1))).drop (183 + j) = seg c k := by
    unfold seg
    rw [ho, hw]
    congr 1
  rw [e, f_Value _ (by rw [seg_length h24 k hk]; omega)]
  rfl
theorem val_bif (c : List Int) (k i : Nat) (j : Int) (hj : j = (i : Int)) (x y : Int) (hx : x = numG c k) : (bif ((k : Int) == j) then x else (bif ((k : Int) == j) then y else valG c k i)) = valG c (k + 1) i := by
  rw [← val_step c k i j hj x hx]
  cases ((k : Int) == j) <;> rfl
theorem f_packetGetR (b : List Int) (hb : RByte b) : F_ref35_Get b = some (refP (getI b).1, (getI b).2) := by
  unfold F_ref35_Get getI
  by_cases h1 : b.length < 26
  · rw [decide_eq_true (show (b.length : Int) < 26 by omega), if_pos h1]
    rfl
  · rw [decide_eq_false (show ¬ (b.length : Int) < 26 by omega), if_neg h1]
    by_cases h2 : 26 < b.length
    · rw [decide_eq_true (show (26 : Int) < (b.length : Int) by omega), if_pos h2]
      rfl
    · rw [decide_eq_false (show ¬ (26 : Int) < (b.length : Int) by omega), if_neg h2]
      have hlen : b.length = 24 + 2 := by omega
      have hcheck := crc_check (b := b) hb hlen
      rw [decide_eq_true (show (24 : Int) ≤ (b.length : Int) by omega), decide_eq_true (show (24 : Int) < (b.length : Int) by omega), decide_eq_true (show (25 : Int) < (b.length : Int) by omega)]
      simp only [cond_false, Bool.and_self, chk_yes]
      rw [show (24 : Int).toNat = 24 from rfl, show (25 : Int).toNat = 25 from rfl, show (0 : Int).toNat = 0 from rfl, List.drop_zero]
      have hc : RByte (b.take 24) := rbyte_take hb 24
      have h24 : (b.take 24).length = 24 := by rw [List.length_take]; omega
      rw [f_refSum _ hc (by rw [h24]; decide), Option.bind_some]
      have x24 := hb 24
      have x25 := hb 25
      rw [wrap_ok (n := b.getD 24 0) (by omega), wrap_ok (n := b.getD 25 0) (by omega), wrap_ok (n := b.getD 24 0 * 256) (by omega), wrap_ok (n := b.getD 24 0 * 256 + b.getD 25 0) (by omega)]
      by_cases h3 : crcI b = 0
      · have h3' := hcheck.1 h3
        rw [if_neg (not_not_intro h3), ← h3']
        simp only [bne_self_eq_false, cond_false]
        generalize b.take 24 = c at *
        rw [f_Text c hc (by omega), Option.bind_some]
        unfold F_ref35_Widths
        rw [Option.bind_some]
        rw [show ((bitsT (bitsB c), (0 : Int), (0 : Int), (0 : Int), (0 : Int), (0 : Int), (0 : Int), (0 : Int), (0 : Int), (0 : Int), (0 : Int), (0 : Int), (0 : Int), (0 : Int), (0 : Int), (0 : Int), (0 : Int)) : ByteArray × Int × Int × Int × Int × Int × Int × Int × Int × Int × Int × Int × Int × Int × Int × Int × Int) = (bitsT ((bitsB c).drop (off 0)), valG c 0 2, valG c 0 5, (0 : Int), (0 : Int), (0 : Int), ((0 : Nat) : Int), valG c 0 4, valG c 0 1, valG c 0 7, (0 : Int), (0 : Int), valG c 0 0, valG c 0 3, (0 : Int), valG c 0 6, (0 : Int)) from rfl]
        rw [loop_run (n := 8) (st := fun k => (bitsT ((bitsB c).drop (off k)), valG c k 2, valG c k 5, (0 : Int), (0 : Int), (0 : Int), (k : Int), valG c k 4, valG c k 1, valG c k 7, (0 : Int), (0 : Int), valG c k 0, valG c k 3, (0 : Int), valG c k 6, (0 : Int))) (x := (bitsT ((bitsB c).drop (off 8)), valG c 8 2, valG c 8 5, (0 : Int), (0 : Int), (0 : Int), valG c 8 4, valG c 8 1, valG c 8 7, (0 : Int), (0 : Int), valG c 8 0, valG c 8 3, (0 : Int), valG c 8 6, (0 : Int)))]
        · rw [Option.bind_some]
          simp only []
          rw [off8]
          have hsz : (bitsT ((bitsB c).drop 183)).size = 9 := by rw [bitsT_size, List.length_drop, bitsB_length]; omega
          rw [hsz]
          rw [show ((9 : Nat) : Int).toNat = 9 from rfl]
          simp only [show decide ((1 : Int) ≤ ((9 : Nat) : Int)) = true from rfl, show decide ((2 : Int) ≤ ((9 : Nat) : Int)) = true from rfl, show decide ((3 : Int) ≤ ((9 : Nat) : Int)) = true from rfl, show decide ((4 : Int) ≤ ((9 : Nat) : Int)) = true from rfl, show decide ((5 : Int) ≤ ((9 : Nat) : Int)) = true from rfl, show decide ((6 : Int) ≤ ((9 : Nat) : Int)) = true from rfl, show decide ((7 : Int) ≤ ((9 : Nat) : Int)) = true from rfl, show decide (((9 : Nat) : Int) ≤ ((9 : Nat) : Int)) = true from rfl, Bool.and_self, chk_yes]
          simp only [show Int.toNat 1 = 1 from rfl, show Int.toNat 2 = 2 from rfl, show Int.toNat 3 = 3 from rfl, show Int.toNat 4 = 4 from rfl, show Int.toNat 5 = 5 from rfl, show Int.toNat 6 = 6 from rfl, show Int.toNat 7 = 7 from rfl]
          rw [ref_flag c h24 0 1 8 rfl (by decide) rfl rfl]
          rw [ref_flag c h24 1 2 9 rfl (by decide) rfl rfl]
          rw [ref_flag c h24 2 3 10 rfl (by decide) rfl rfl]
          rw [ref_flag c h24 3 4 11 rfl (by decide) rfl rfl]
          rw [ref_flag c h24 4 5 12 rfl (by decide) rfl rfl]
          rw [ref_flag c h24 5 6 13 rfl (by decide) rfl rfl]
          rw [ref_flag c h24 6 7 14 rfl (by decide) rfl rfl]
          rw [flag_num c h24 8 (by decide) rfl, flag_num c h24 9 (by decide) rfl, flag_num c h24 10 (by decide) rfl, flag_num c h24 11 (by decide) rfl, flag_num c h24 12 (by decide) rfl, flag_num c h24 13 (by decide) rfl, flag_num c h24 14 (by decide) rfl]
          have hrest : (bitsT ((bitsB c).drop 183)).extract 7 9 = bitsT ((bitsB c).drop 190) := by
            rw [bitsT_extract, List.take_of_length_le (by rw [List.length_drop, bitsB_length]; omega), List.drop_drop]
          rw [hrest, f_Value _ (by rw [List.length_drop, bitsB_length]; omega), Option.bind_some]
          rw [show numT ((bitsB c).drop 190) = restG c from rfl]
          have hd : (((valG c 8 0, valG c 8 1, valG c 8 2, valG c 8 3, valG c 8 4, valG c 8 5, valG c 8 6, valG c 8 7), (flag (flagG c 8), flag (flagG c 9), flag (flagG c 10), flag (flagG c 11), flag (flagG c 12), flag (flagG c 13), flag (flagG c 14))) : RPkt) = refP (decG c) := rfl
          rw [hd, f_RightR]
          have hn : (refP (decG c)).1 = nums (decG c) := rfl
          rw [hn]
          by_cases hz : restG c = 0
          · rw [hz]
            cases hr : rightB (nums (decG c)) with
            | false => simp; rfl
            | true => simp
          · rw [if_pos (.inl hz), bne_iff_ne.2 (show ((restG c : Nat) : Int) ≠ 0 by omega)]
            rfl
        · intro k hk
          have hm := off_mono (k + 1) 15 (by omega)
          rw [off15, off] at hm
          have hw := wf_le k
          have hp := wf_pos k (by omega)
          have hs := seg_length h24 k (by omega)
          have hsz : (bitsT ((bitsB c).drop (off k))).size = 192 - off k := by rw [bitsT_size, List.length_drop, bitsB_length]; omega
          simp only []
          rw [wd_get k hk |> fun h => (show List.getD [(16 : Int), 3, 16, 36, 36, 36, 20, 20] (k : Int).toNat 0 = (wf k : Int) by rw [Int.toNat_natCast, wf_wd k hk]; exact h)]
          rw [decide_eq_true (show (k : Int) < 8 by omega), decide_eq_true (show (0 : Int) ≤ (k : Int) by omega), hsz, decide_eq_true (show (0 : Int) ≤ (wf k : Int) by omega), decide_eq_true (show (wf k : Int) ≤ ((192 - off k : Nat) : Int) by omega), decide_eq_true (show ((192 - off k : Nat) : Int) ≤ ((192 - off k : Nat) : Int) by omega), wrap_ok (n := (k : Int) + 1) (by omega)]
          simp only [cond_true, Bool.and_self, chk_yes]
          rw [Int.toNat_natCast, Int.toNat_natCast, bitsT_extract, bitsT_extract, List.drop_zero, drop_take_seg, f_Value _ (by omega), Option.bind_some, List.take_of_length_le (by rw [List.length_drop, bitsB_length]; omega), List.drop_drop, off_next]
          by_cases h3 : 2 < k
          · have hx : sgnT (seg c k) = numG c k := by unfold numG; rw [decide_eq_true h3]; rfl
            rw [decide_eq_true (show (3 : Int) ≤ (k : Int) by omega), f_Signed _ (by omega) (by omega)]
            simp only [cond_true, Option.bind_some]
            rw [val_bif c k 4 4 rfl _ _ hx, val_bif c k 1 1 rfl _ _ hx, val_bif c k 7 7 rfl _ _ hx, val_bif c k 2 2 rfl _ _ hx, val_bif c k 5 5 rfl _ _ hx, val_bif c k 0 0 rfl _ _ hx, val_bif c k 3 3 rfl _ _ hx, val_bif c k 6 6 rfl _ _ hx]
            rfl
          · have hx : IntKind.i64.wrap ((numT (seg c k) : Nat) : Int) = numG c k := by
              have := num_small h24 k (by omega)
              unfold numG
              rw [decide_eq_false h3, i64n _ (by omega)]
              rfl
            rw [decide_eq_false (show ¬ (3 : Int) ≤ (k : Int) by omega)]
            simp only [cond_false, Option.bind_some]
            rw [val_step c k 4 4 rfl _ hx, val_step c k 1 1 rfl _ hx, val_step c k 7 7 rfl _ hx, val_step c k 2 2 rfl _ hx, val_step c k 5 5 rfl _ hx, val_step c k 0 0 rfl _ hx, val_step c k 3 3 rfl _ hx, val_step c k 6 6 rfl _ hx]
            rfl
        · simp only []
          rw [decide_eq_false (show ¬ (((8 : Nat) : Int) < 8) by omega)]
          rfl
      · have h3' : crcI (b.take 24) ≠ b.getD 24 0 * 256 + b.getD 25 0 := fun e => h3 (hcheck.2 e)
        rw [if_pos h3, bne_iff_ne.2 h3']
        rfl
/-- The lowest bits of a number are those of what is left of it. -/
theorem bitsN_mod (v m : Nat) : bitsN (v % 2 ^ m) m = bitsN v m := by
  unfold bitsN
  apply List.map_congr_left
  intro j hj
  have := List.mem_range.1 hj
  rw [Nat.testBit_mod_two_pow, decide_eq_true (by omega), Bool.true_and]
theorem testBit_double (x : Nat) (b : Bool) : ∀ i, (2 * x + b.toNat).testBit (i + 1) = x.testBit i := by
  intro i
  rw [Nat.testBit_succ]
  congr 1
  cases b <;> simp <;> omega
theorem testBit_low (x : Nat) (b : Bool) : (2 * x + b.toNat).testBit 0 = b := by
  rw [Nat.testBit_zero]
  cases b <;> simp <;> omega
theorem bitsN_num : ∀ (m : Nat) (l : List Bool), l.length = m → bitsN (numT l) m = l
  | 0, l, h => by rw [List.length_eq_zero_iff.1 h]; rfl
  | m + 1, l, h => by
    have hne : l ≠ [] := fun e => by rw [e] at h; simp at h
    have hd : l.dropLast.length = m := by rw [List.length_dropLast]; omega
    have ih := bitsN_num m l.dropLast hd
    conv => rhs; rw [← List.dropLast_concat_getLast hne, ← ih]
    conv => lhs; rw [← List.dropLast_concat_getLast hne, numT_snoc]
    unfold bitsN
    rw [List.range_succ, List.map_append, List.map_singleton, Nat.add_sub_cancel, Nat.sub_self, testBit_low]
    congr 1
    apply List.map_congr_left
    intro j hj
    have := List.mem_range.1 hj
    rw [show m - j = (m - 1 - j) + 1 by omega, testBit_double]
theorem numT_bitsN (v m : Nat) : numT (bitsN v m) = v % 2 ^ m := by
  have h1 := bitsN_num m (bitsN v m) (bitsN_length v m)
  have hlt := numT_lt m (bitsN v m) (bitsN_length v m)
  apply Nat.eq_of_testBit_eq
  intro i
  by_cases hi : i < m
  · have g1 := bitsN_get (numT (bitsN v m)) m (m - 1 - i) (by omega)
    have g2 := bitsN_get v m (m - 1 - i) (by omega)
    rw [h1, g2, show m - 1 - (m - 1 - i) = i by omega] at g1
    rw [Nat.testBit_mod_two_pow, decide_eq_true hi, Bool.true_and]
    exact g1.symm
  · rw [Nat.testBit_lt_two_pow (Nat.lt_of_lt_of_le hlt (Nat.pow_le_pow_right (by decide) (by omega))), Nat.testBit_mod_two_pow, decide_eq_false hi, Bool.false_and]
theorem bitsK_take (x : List Int) (r : List Bool) : ∀ (n k : Nat), k ≤ n → (bitsK x n ++ r).take (off k) = bitsK x k
  | 0, k, h => by
    obtain rfl : k = 0 := by omega
    rfl
  | n + 1, k, h => by
    by_cases e : k = n + 1
    · subst e
      rw [← bitsK_length x (n + 1), List.take_left']
      rfl
    · rw [bitsK, List.append_assoc, bitsK_take x _ n k (by omega)]
theorem holds_bits {l : List Int} {bs : List Bool} (h : Holds l bs) (k : Nat) (hk : 8 * l.length = bs.length + k) : bitsB l = bs ++ List.replicate k false := by
  apply List.ext_getElem
  · rw [bitsB_length, List.length_append, List.length_replicate, hk]
  · intro i h1 h2
    have g1 : (bitsB l).getD i false = (bitsB l)[i] := by rw [List.getD_eq_getElem?_getD, List.getElem?_eq_getElem h1]; rfl
    have g2 : (bs ++ List.replicate k false).getD i false = (bs ++ List.replicate k false)[i] := by rw [List.getD_eq_getElem?_getD, List.getElem?_eq_getElem h2]; rfl
    rw [bitsB_length] at h1
    rw [← g1, ← g2, bitsB_get l i h1, h.2.2 i h1, getD_app]
    split
    · rfl
    · rename_i hp
      rw [List.getD_eq_getElem?_getD (l := bs), List.getElem?_eq_none (by omega), List.getD_eq_getElem?_getD, List.getElem?_replicate]
      split <;> rfl
theorem row_len (x : List Int) : (rowK x 15).length = 24 := by
  have := (rowK_holds x 15).2.1
  rwa [bitsK_length, off15] at this
theorem row_seg (x : List Int) (k : Nat) (hk : k < 15) : seg (rowK x 15) k = bitsN (uOf (x.getD k 0)) (wf k) := by
  have hb := holds_bits (rowK_holds x 15) 2 (by rw [row_len, bitsK_length, off15])
  unfold seg
  rw [hb, off_next, bitsK_take x _ 15 (k + 1) (by omega), bitsK, ← bitsK_length x k, List.drop_left']
  rfl
theorem row_rest (x : List Int) : restG (rowK x 15) = 0 := by
  have hb := holds_bits (rowK_holds x 15) 2 (by rw [row_len, bitsK_length, off15])
  unfold restG
  rw [hb, ← off15, ← bitsK_length x 15, List.drop_left']
  · decide
  · rfl
theorem fit_u {V : Int} {m : Nat} (hm : m ≤ 60) (h1 : 0 ≤ V) (h2 : V < ((2 ^ m : Nat) : Int)) : ((numT (bitsN (uOf V) m) : Nat) : Int) = V := by
  rw [numT_bitsN, uOf_mod V m (by omega)]
  apply Int.emod_eq_of_lt h1
  rw [show (2 : Int) ^ m = ((2 ^ m : Nat) : Int) by simp]
  exact h2
theorem fit_s {V : Int} {m : Nat} (h1 : 1 ≤ m) (hm : m ≤ 60) (ha : -((2 ^ (m - 1) : Nat) : Int) ≤ V) (hb : V < ((2 ^ (m - 1) : Nat) : Int)) : sgnT (bitsN (uOf V) m) = V := by
  obtain ⟨n, rfl⟩ : ∃ n, m = n + 1 := ⟨m - 1, by omega⟩
  obtain ⟨s1, s2, s3⟩ := sgnT_bounds (bitsN (uOf V) (n + 1)) n (bitsN_length _ _)
  rw [numT_bitsN, uOf_mod V (n + 1) (by omega)] at s3
  rw [Nat.add_sub_cancel] at ha hb
  have hp : ((2 : Int) ^ (n + 1)) = 2 * ((2 ^ n : Nat) : Int) := by rw [Int.pow_succ]; simp; omega
  have hp1 : ((2 : Int) ^ n) = ((2 ^ n : Nat) : Int) := by simp
  rw [hp] at s3
  rw [hp1] at s1 s2
  generalize sgnT (bitsN (uOf V) (n + 1)) = W at *
  generalize 2 ^ n = q at *
  have e := Int.emod_emod_of_dvd
  have h3 : (W - V) % (2 * (q : Int)) = 0 := by rw [Int.sub_emod, s3, Int.sub_self, Int.zero_emod]
  obtain ⟨c, hc⟩ := Int.dvd_of_emod_eq_zero h3
  have hq : (0 : Int) < 2 * (q : Int) := by omega
  have hc0 : c = 0 := by
    rcases Int.lt_trichotomy c 0 with h | h | h
    · have := Int.mul_le_mul_of_nonneg_left (show c ≤ -1 by omega) (Int.le_of_lt hq)
      omega
    · exact h
    · have := Int.mul_le_mul_of_nonneg_left (show 1 ≤ c by omega) (Int.le_of_lt hq)
      omega
  rw [hc0] at hc
  omega
theorem right_fits {n : Nums8} (h : rightB n = true) (i : Nat) (hi : i < 8) : fitsB i ((numL n).getD i 0) = true := by
  unfold rightB at h
  rw [Bool.and_eq_true] at h
  exact List.all_eq_true.1 h.1 i (List.mem_range.2 hi)
theorem row_num {p : Pkt} (h : rightB (nums p) = true) (i : Nat) (hi : i < 8) : numG (rowK (numF p) 15) i = (numL (nums p)).getD i 0 := by
  have hf := right_fits h i hi
  have hw := wf_wd i hi
  have hl := wf_le i
  have hp := wf_pos i (by omega)
  unfold numG
  rw [row_seg _ i (by omega), numF_num p i hi]
  unfold fitsB at hf
  rw [← hw] at hf
  cases hd : decide (2 < i) with
  | true =>
    rw [hd] at hf
    simp only [cond_true, Bool.and_eq_true, decide_eq_true_eq] at hf
    simp only [cond_true]
    exact fit_s hp (by omega) hf.1 hf.2
  | false =>
    rw [hd] at hf
    simp only [cond_false, Bool.and_eq_true, decide_eq_true_eq] at hf
    simp only [cond_false]
    exact fit_u (by omega) hf.1 hf.2
theorem row_flag (p : Pkt) (i : Nat) (b : Bool) (hi : i < 15) (hw : wf i = 1) (hb : (numF p).getD i 0 = flag b) : flagG (rowK (numF p) 15) i = b := by
  unfold flagG
  rw [row_seg _ i hi, hb, hw, numT_bitsN]
  cases b <;> rfl
/-- A packet is read again. -/
theorem dec_row {p : Pkt} (h : rightB (nums p) = true) : decG (rowK (numF p) 15) = p := by
  obtain ⟨a1, a2, a3, a4, a5, a6, a7, a8, f1, f2, f3, f4, f5, f6, f7⟩ := p
  unfold decG
  rw [row_num h 0 (by decide), row_num h 1 (by decide), row_num h 2 (by decide), row_num h 3 (by decide), row_num h 4 (by decide), row_num h 5 (by decide), row_num h 6 (by decide), row_num h 7 (by decide)]
  rw [row_flag _ 8 f1 (by decide) rfl rfl, row_flag _ 9 f2 (by decide) rfl rfl, row_flag _ 10 f3 (by decide) rfl rfl, row_flag _ 11 f4 (by decide) rfl rfl, row_flag _ 12 f5 (by decide) rfl rfl, row_flag _ 13 f6 (by decide) rfl rfl, row_flag _ 14 f7 (by decide) rfl rfl]
  rfl
theorem rbyte_app {l m : List Int} (h : RByte l) (h' : RByte m) : RByte (l ++ m) := by
  intro i
  rw [List.getD_eq_getElem?_getD]
  by_cases hi : i < l.length
  · rw [List.getElem?_append_left hi, ← List.getD_eq_getElem?_getD]; exact h i
  · rw [List.getElem?_append_right (by omega), ← List.getD_eq_getElem?_getD]; exact h' _
theorem sealB_by {b : List Int} (h : RByte b) : RByte (sealB b) := by
  have hcr := crcI_bound b
  apply rbyte_app h
  intro i
  match i with
  | 0 => show 0 ≤ crcI b / 256 ∧ crcI b / 256 ≤ 255; omega
  | 1 => show 0 ≤ crcI b % 256 ∧ crcI b % 256 ≤ 255; omega
  | i + 2 => show (0 : Int) ≤ 0 ∧ (0 : Int) ≤ 255; omega
theorem sealB_len (b : List Int) : (sealB b).length = b.length + 2 := by simp [sealB]
theorem sealB_take (b : List Int) : (sealB b).take b.length = b := List.take_left' rfl
theorem sealB_get (b : List Int) (k : Nat) : (sealB b).getD (b.length + k) 0 = [crcI b / 256, crcI b % 256].getD k 0 := by
  unfold sealB
  rw [List.getD_eq_getElem?_getD, List.getElem?_append_right (by omega), Nat.add_sub_cancel_left, ← List.getD_eq_getElem?_getD]
theorem sealB_crc {b : List Int} (h : RByte b) : crcI (sealB b) = 0 := by
  rw [crc_check (sealB_by h) (n := b.length) (sealB_len b), sealB_take]
  have h1 := sealB_get b 0
  have h2 := sealB_get b 1
  rw [Nat.add_zero] at h1
  rw [h1, h2]
  show crcI b = crcI b / 256 * 256 + crcI b % 256
  omega
theorem get_put {p : Pkt} (h : rightB (nums p) = true) : getI (sealB (rowK (numF p) 15)) = (p, 0) := by
  have hl := row_len (numF p)
  have hc := sealB_crc (rowK_holds (numF p) 15).1
  have ht := sealB_take (rowK (numF p) 15)
  have hr := row_rest (numF p)
  have hd := dec_row h
  rw [hl] at ht
  unfold getI
  rw [sealB_len, hl, if_neg (by decide), if_neg (by decide), if_neg (not_not_intro hc), ht, hr, hd, h, if_neg (by simp)]
/-- What is read has just these bytes. -/
theorem seg_bits {c : List Int} (h24 : c.length = 24) (i : Nat) (hi : i < 15) : bitsN (uOf ((numF (decG c)).getD i 0)) (wf i) = seg c i := by
  have hl := seg_length h24 i hi
  have hle := wf_le i
  have hp := wf_pos i hi
  have key : ((uOf ((numF (decG c)).getD i 0) % 2 ^ wf i : Nat) : Int) = ((numT (seg c i) : Nat) : Int) := by
    rw [uOf_mod _ _ (by omega)]
    have hlt := numT_lt _ _ hl
    have hpw : (2 : Int) ^ wf i = ((2 ^ wf i : Nat) : Int) := by simp
    by_cases h8 : i < 8
    · have hg : (numF (decG c)).getD i 0 = numG c i := by
        rw [numF_num _ i h8]
        have : i = 0 ∨ i = 1 ∨ i = 2 ∨ i = 3 ∨ i = 4 ∨ i = 5 ∨ i = 6 ∨ i = 7 := by omega
        rcases this with rfl | rfl | rfl | rfl | rfl | rfl | rfl | rfl <;> rfl
      rw [hg]
      unfold numG
      cases decide (2 < i) with
      | true =>
        simp only [cond_true]
        obtain ⟨n, hn⟩ : ∃ n, wf i = n + 1 := ⟨wf i - 1, by omega⟩
        rw [hn]
        exact (sgnT_bounds (seg c i) n (by omega)).2.2
      | false =>
        simp only [cond_false]
        rw [hpw]
        exact Int.emod_eq_of_lt (by omega) (by omega)
    · have hw : wf i = 1 := by
        have : i = 8 ∨ i = 9 ∨ i = 10 ∨ i = 11 ∨ i = 12 ∨ i = 13 ∨ i = 14 := by omega
        rcases this with rfl | rfl | rfl | rfl | rfl | rfl | rfl <;> rfl
      have hg : (numF (decG c)).getD i 0 = flag (flagG c i) := by
        have : i = 8 ∨ i = 9 ∨ i = 10 ∨ i = 11 ∨ i = 12 ∨ i = 13 ∨ i = 14 := by omega
        rcases this with rfl | rfl | rfl | rfl | rfl | rfl | rfl <;> rfl
      rw [hg, ← flag_num c h24 i hi hw]
      rw [hw] at hlt ⊢
      rw [i64n _ (by omega)]
      show ((numT (seg c i) : Nat) : Int) % 2 = _
      omega
  have e : uOf ((numF (decG c)).getD i 0) % 2 ^ wf i = numT (seg c i) := by omega
  rw [← bitsN_mod, e]
  exact bitsN_num (wf i) (seg c i) hl
theorem bits_dec {c : List Int} (h24 : c.length = 24) : ∀ k, k ≤ 15 → bitsK (numF (decG c)) k = (bitsB c).take (off k)
  | 0, _ => rfl
  | k + 1, h => by
    rw [bitsK, bits_dec h24 k (by omega), seg_bits h24 k (by omega)]
    unfold seg
    rw [off]
    conv => lhs; lhs; rw [show (bitsB c).take (off k) = ((bitsB c).take (off k + wf k)).take (off k) by rw [List.take_take, Nat.min_eq_left (by omega)]]
    exact List.take_append_drop _ _
theorem row_dec {c : List Int} (hc : RByte c) (h24 : c.length = 24) (hr : restG c = 0) : rowK (numF (decG c)) 15 = c := by
  have hb := bits_dec h24 15 (Nat.le_refl _)
  rw [off15] at hb
  apply holds_eq (rowK_holds (numF (decG c)) 15)
  refine ⟨hc, by rw [bitsK_length, off15, h24], fun p hp => ?_⟩
  rw [hb, List.getD_eq_getElem?_getD, List.getElem?_take]
  split
  · rw [← List.getD_eq_getElem?_getD, bitsB_get c p hp]
  · rename_i h
    have hz : ∀ j, j < 2 → bitL c (190 + j) = false := by
      have hd : (bitsB c).drop 190 = [bitL c 190, bitL c 191] := by
        apply List.ext_getElem
        · rw [List.length_drop, bitsB_length]; simp; omega
        · intro i h1 h2
          have : i = 0 ∨ i = 1 := by
            have : i < 2 := by simpa using h2
            omega
          rcases this with rfl | rfl
          · simp [bitsB]
          · simp [bitsB]
      unfold restG at hr
      rw [hd] at hr
      intro j hj
      have : j = 0 ∨ j = 1 := by omega
      rcases this with rfl | rfl
      · show bitL c 190 = false
        cases h1 : bitL c 190 <;> cases h2 : bitL c 191 <;> rw [h1, h2] at hr <;> first | rfl | exact absurd hr (by decide)
      · show bitL c 191 = false
        cases h1 : bitL c 190 <;> cases h2 : bitL c 191 <;> rw [h1, h2] at hr <;> first | rfl | exact absurd hr (by decide)
    have := hz (p - 190) (by omega)
    rw [show 190 + (p - 190) = p by omega] at this
    rw [this]
    rfl
theorem put_get {b : List Int} (hb : RByte b) (h : (getI b).2 = 0) : rightB (nums (getI b).1) = true ∧ sealB (rowK (numF (getI b).1) 15) = b := by
  unfold getI at h ⊢
  by_cases h1 : b.length < 26
  · rw [if_pos h1] at h
    exact absurd h (by decide)
  · rw [if_neg h1] at h ⊢
    by_cases h2 : 26 < b.length
    · rw [if_pos h2] at h
      exact absurd h (by decide)
    · rw [if_neg h2] at h ⊢
      by_cases h3 : crcI b ≠ 0
      · rw [if_pos h3] at h
        exact absurd h (by decide)
      · rw [if_neg h3] at h ⊢
        by_cases h4 : restG (b.take 24) ≠ 0 ∨ rightB (nums (decG (b.take 24))) = false
        · rw [if_pos h4] at h
          exact absurd h (by decide)
        · rw [if_neg h4]
          have h24 : (b.take 24).length = 24 := by rw [List.length_take]; omega
          have hz : restG (b.take 24) = 0 := Decidable.byContradiction fun e => h4 (.inl e)
          have hrt : rightB (nums (decG (b.take 24))) = true := by
            cases hr : rightB (nums (decG (b.take 24))) with
            | true => rfl
            | false => exact absurd (.inr hr) h4
          refine ⟨hrt, ?_⟩
          simp only []
          rw [row_dec (rbyte_take hb 24) h24 hz]
          have hcr := (crc_check (b := b) hb (n := 24) (by omega)).1 (Decidable.byContradiction fun e => h3 e)
          have x25 := hb 25
          unfold sealB
          rw [hcr, show (b.getD 24 0 * 256 + b.getD 25 0) / 256 = b.getD 24 0 by omega, show (b.getD 24 0 * 256 + b.getD 25 0) % 256 = b.getD 25 0 by omega]
          have hd : b.drop 24 = [b.getD 24 0, b.getD 25 0] := by
            apply List.ext_getElem
            · rw [List.length_drop]; simp; omega
            · intro i h1 h2
              have : i = 0 ∨ i = 1 := by
                have : i < 2 := by simpa using h2
                omega
              rcases this with rfl | rfl
              · simp only [List.getElem_drop, Nat.add_zero, List.getElem_cons_zero]
                rw [List.getD_eq_getElem?_getD, List.getElem?_eq_getElem (by omega)]
                rfl
              · simp only [List.getElem_drop, List.getElem_cons_succ, List.getElem_cons_zero]
                rw [List.getD_eq_getElem?_getD, List.getElem?_eq_getElem (by omega)]
                rfl
          rw [← hd]
          exact List.take_append_drop 24 b
theorem byL_of {l : List Int} (h : RByte l) : ByL l := by
  intro c hc
  obtain ⟨i, hi, e⟩ := List.getElem_of_mem hc
  have := h i
  rw [List.getD_eq_getElem?_getD, List.getElem?_eq_getElem hi] at this
  rw [← e]
  exact this
theorem f_PacketPuts (p : Pkt) : F_law35_PacketPuts p = some true := by
  unfold F_law35_PacketPuts
  rw [f_anchor35, Option.bind_some]
  simp only [Bool.not_true, cond_false]
  rw [f_packetPut, Option.bind_some, f_packRight, Option.bind_some, f_ref35, Option.bind_some, f_RightR, Option.bind_some]
  have hn : (refP p).1 = nums p := rfl
  rw [hn]
  simp only [beq_self_eq_true, Bool.not_true, cond_false, Option.bind_some]
  rw [f_RightR, Option.bind_some, hn]
  cases hr : rightB (nums p) with
  | false => rfl
  | true =>
    simp only [Bool.not_true, cond_false, cond_true]
    have hrow := rowK_holds (numF p) 15
    have hby := sealB_by hrow.1
    rw [f_packetGet _ hby, Option.bind_some, get_put hr]
    simp only [beq_self_eq_true, cond_true, Option.bind_some]
    rw [f_packetPutR, Option.bind_some]
    rw [beq_self_eq_true, sealB_len, row_len, eqT_refl _ _ rfl]
    rfl
theorem f_PacketGets (b : List Int) (hb : RByte b) : F_law35_PacketGets b = some true := by
  unfold F_law35_PacketGets
  rw [f_anchor35, Option.bind_some]
  simp only [Bool.not_true, cond_false]
  cases decide ((200 : Int) < (b.length : Int)) with
  | true => rfl
  | false =>
    simp only [cond_false]
    rw [f_packetGet b hb, Option.bind_some, f_packetGetR b hb, Option.bind_some]
    simp only [bne_self_eq_false, Bool.not_false, cond_true, cond_false]
    rw [f_ref35, Option.bind_some, eqT_refl _ _ rfl]
    simp only [Bool.not_true, cond_false]
    by_cases he : (getI b).2 = 0
    · obtain ⟨h1, h2⟩ := put_get hb he
      rw [he]
      simp only [bne_self_eq_false, cond_false]
      rw [f_packetPut, Option.bind_some, h1]
      simp only [cond_true, beq_self_eq_true]
      rw [h2, beq_self_eq_true]
    · rw [bne_iff_ne.2 he]
      simp only [cond_true]
      have hz : (getI b).1 = pkt0 := by
        unfold getI at he ⊢
        by_cases h1 : b.length < 26
        · rw [if_pos h1]
        · rw [if_neg h1] at he ⊢
          by_cases h2 : 26 < b.length
          · rw [if_pos h2]
          · rw [if_neg h2] at he ⊢
            by_cases h3 : crcI b ≠ 0
            · rw [if_pos h3]
            · rw [if_neg h3] at he ⊢
              by_cases h4 : restG (b.take 24) ≠ 0 ∨ rightB (nums (decG (b.take 24))) = false
              · rw [if_pos h4]
              · rw [if_neg h4] at he
                exact absurd rfl he
      rw [hz]
      rfl
theorem pkt_bytes {b : List Int} (h : Fits (.slice (.int .u8)) b) : RByte b := by
  intro i
  by_cases hi : i < b.length
  · have hm : b.getD i 0 ∈ b := by
      rw [List.getD_eq_getElem?_getD, List.getElem?_eq_getElem hi]
      exact List.getElem_mem hi
    have := h.2 _ hm
    simp only [Fits, fits, Bool.and_eq_true, decide_eq_true_eq] at this
    exact this
  · rw [List.getD_eq_getElem?_getD, List.getElem?_eq_none (by omega)]
    decide
end Go.Proofs.YtomkodhihiloiaaDoor
