/- Texts of noughts and ones, and bytes: what the document's readings say. -/
import Derived.Test.YtomkodhihiloiaaDoorBitF
import Derived.Test.YtomkodhihiloiaaDoorImgI
set_option linter.unusedSimpArgs false
set_option linter.unusedVariables false
namespace Go.Proofs.YtomkodhihiloiaaDoor
open Go.RowKit
def bitC (b : Bool) : UInt8 := bif b then 49 else 48
/-- Bits as a text. -/
def bitsT (l : List Bool) : ByteArray := ⟨(l.map bitC).toArray⟩
theorem ba_ext {a b : ByteArray} (h : a.data = b.data) : a = b := by cases a; cases b; simpa using h
theorem bitsT_app (a b : List Bool) : bitsT a ++ bitsT b = bitsT (a ++ b) := by
  apply ba_ext
  rw [ByteArray.data_append]
  simp [bitsT]
theorem bitsT_size (l : List Bool) : (bitsT l).size = l.length := by
  rw [← ByteArray.size_data]
  simp [bitsT]
theorem bitsT_extract (l : List Bool) (i j : Nat) : (bitsT l).extract i j = bitsT ((l.take j).drop i) := by
  apply ba_ext
  rw [ByteArray.data_extract]
  simp [bitsT, List.map_take, List.map_drop]
  exact (List.drop_take).symm
theorem bitsT_get (l : List Bool) (i : Nat) : (((bitsT l)[i]?.getD 0).toNat : Int) = if i < l.length then (bif l.getD i false then 49 else 48) else 0 := by
  have h : (bitsT l)[i]? = (l.map bitC)[i]? := by
    show (bitsT l).data[i]? = _
    simp [bitsT]
  rw [h, List.getElem?_map]
  by_cases hi : i < l.length
  · rw [if_pos hi, List.getD_eq_getElem?_getD, List.getElem?_eq_getElem hi]
    simp only [Option.map_some, Option.getD_some]
    cases l[i] <;> rfl
  · rw [if_neg hi, List.getElem?_eq_none (by omega)]
    rfl
theorem bit_one : (⟨#[49]⟩ : ByteArray) = bitsT [true] := rfl
theorem bit_nought : (⟨#[48]⟩ : ByteArray) = bitsT [false] := rfl
theorem bit_empty : (⟨#[]⟩ : ByteArray) = bitsT [] := rfl
/-- The lowest m bits of a number, the highest of them first. -/
def bitsN (v m : Nat) : List Bool := (List.range m).map fun j => v.testBit (m - 1 - j)
theorem bitsN_length (v m : Nat) : (bitsN v m).length = m := by simp [bitsN]
theorem bitsN_get (v m j : Nat) (hj : j < m) : (bitsN v m).getD j false = v.testBit (m - 1 - j) := by
  simp [bitsN, List.getD_eq_getElem?_getD, hj]
theorem bitsN_succ (v m : Nat) : bitsN v (m + 1) = v.testBit m :: bitsN v m := by
  unfold bitsN
  rw [List.range_succ_eq_map]
  simp only [List.map_cons, List.map_map, Nat.sub_zero, Nat.add_sub_cancel, List.cons.injEq, true_and]
  apply List.map_congr_left
  intro j hj
  have := List.mem_range.1 hj
  show v.testBit (m + 1 - 1 - (j + 1)) = v.testBit (m - 1 - j)
  congr 1
  omega
theorem tm2 (a : Nat) : ((a : Int).tmod 2) = ((a % 2 : Nat) : Int) := tmN a 2
theorem td2 (a : Nat) : ((a : Int).tdiv 2) = ((a / 2 : Nat) : Int) := tdN a 2
theorem f_Number (v : Nat) (hv : v < 18446744073709551616) (m : Nat) (hm : m ≤ 64) : F_ref34_Number (v : Int) (m : Int) = some (bitsT (bitsN v m)) := by
  unfold F_ref34_Number
  rw [show (((⟨#[]⟩ : ByteArray), (v : Int), (0 : Int)) : ByteArray × Int × Int) = (bitsT (bitsN v 0), ((v / 2 ^ 0 : Nat) : Int), ((0 : Nat) : Int)) by rw [Nat.pow_zero, Nat.div_one]; rfl]
  rw [loop_run (n := m) (st := fun k => (bitsT (bitsN v k), ((v / 2 ^ k : Nat) : Int), (k : Int))) (x := bitsT (bitsN v m))]
  · rfl
  · intro k hk
    simp only []
    rw [decide_eq_true (show (k : Int) < 64 by omega), decide_eq_true (show (k : Int) < (m : Int) by omega)]
    simp only [cond_true]
    rw [tm2, td2, bit_mod, i64n (v / 2 ^ k / 2) (by have := Nat.div_le_self v (2 ^ k); omega) |> fun h => u64n (v / 2 ^ k / 2) (by have := Nat.div_le_self v (2 ^ k); omega), wrap_ok (n := (k : Int) + 1) (by omega), Nat.div_div_eq_div_mul, ← Nat.pow_succ]
    have hb : ((((v.testBit k).toNat : Nat) : Int) == 1) = v.testBit k := by cases v.testBit k <;> rfl
    rw [hb, bitsN_succ]
    have hsz := bitsT_size (bitsN v k)
    rw [bitsN_length] at hsz
    cases v.testBit k with
    | true =>
      simp only [cond_true, Option.bind_some]
      rw [bit_one, decide_eq_true (p := (bitsT [true]).size + (bitsT (bitsN v k)).size ≤ 9223372036854775807) (by rw [hsz, bitsT_size, List.length_singleton]; omega), chk_yes rfl, bitsT_app]
      rfl
    | false =>
      simp only [cond_false, Option.bind_some]
      rw [bit_nought, decide_eq_true (p := (bitsT [false]).size + (bitsT (bitsN v k)).size ≤ 9223372036854775807) (by rw [hsz, bitsT_size, List.length_singleton]; omega), chk_yes rfl, bitsT_app]
      rfl
  · simp only []
    rw [decide_eq_false (show ¬ (m : Int) < (m : Int) by omega)]
    rfl
/-- A text's number. -/
def numT (l : List Bool) : Nat := l.foldl (fun v b => 2 * v + b.toNat) 0
theorem numT_snoc (l : List Bool) (b : Bool) : numT (l ++ [b]) = 2 * numT l + b.toNat := by simp [numT]
theorem numT_lt : ∀ (n : Nat) (l : List Bool), l.length = n → numT l < 2 ^ n
  | 0, l, h => by rw [List.length_eq_zero_iff.1 h]; decide
  | n + 1, l, h => by
    have hne : l ≠ [] := fun e => by rw [e] at h; simp at h
    rw [← List.dropLast_concat_getLast hne, numT_snoc]
    have := numT_lt n l.dropLast (by rw [List.length_dropLast]; omega)
    have hb : (l.getLast hne).toNat ≤ 1 := by cases l.getLast hne <;> decide
    rw [Nat.pow_succ]
    omega
theorem take_snoc {l : List Bool} {k : Nat} (hk : k < l.length) : l.take (k + 1) = l.take k ++ [l.getD k false] := by
  rw [← take_succ_getD hk]
theorem f_Value (l : List Bool) (hl : l.length ≤ 64) : F_ref34_Value (bitsT l) = some ((numT l : Nat) : Int) := by
  unfold F_ref34_Value
  rw [show (((0 : Int), (0 : Int)) : Int × Int) = (((0 : Nat) : Int), ((numT (l.take 0) : Nat) : Int)) from rfl]
  rw [loop_run (n := l.length) (st := fun k => ((k : Int), ((numT (l.take k) : Nat) : Int))) (x := ((numT l : Nat) : Int))]
  · rfl
  · intro k hk
    have hlt := numT_lt k (l.take k) (by rw [List.length_take]; omega)
    have hp : 2 ^ k ≤ 2 ^ 63 := Nat.pow_le_pow_right (by decide) (by omega)
    have h63 : (2 : Nat) ^ 63 = 9223372036854775808 := by decide
    simp only []
    rw [bitsT_size, decide_eq_true (show (k : Int) < (l.length : Int) by omega), decide_eq_true (show (0 : Int) ≤ (k : Int) by omega), Int.toNat_natCast, bitsT_get, if_pos hk, take_snoc hk, numT_snoc]
    simp only [cond_true, Bool.and_self, chk_yes]
    generalize numT (l.take k) = x at *
    rw [show (2 : Int) * (x : Int) = ((2 * x : Nat) : Int) by omega, u64n (2 * x) (by omega), wrap_ok (n := (k : Int) + 1) (by omega)]
    cases l.getD k false with
    | true =>
      simp only [cond_true]
      rw [show ((2 * x : Nat) : Int) + 1 = ((2 * x + 1 : Nat) : Int) by omega, u64n (2 * x + 1) (by omega)]
      rfl
    | false =>
      rfl
  · simp only []
    rw [bitsT_size, decide_eq_false (by omega), List.take_length]
    rfl
/-- A text's number, if it may be below 0. -/
def sgnT (l : List Bool) : Int := bif l.getD 0 false then (numT l : Int) - 2 ^ l.length else numT l
theorem numT_not : ∀ (n : Nat) (l : List Bool), l.length = n → numT (l.map (!·)) + numT l + 1 = 2 ^ n
  | 0, l, h => by rw [List.length_eq_zero_iff.1 h]; decide
  | n + 1, l, h => by
    have hne : l ≠ [] := fun e => by rw [e] at h; simp at h
    rw [← List.dropLast_concat_getLast hne, List.map_append, List.map_singleton, numT_snoc, numT_snoc]
    have := numT_not n l.dropLast (by rw [List.length_dropLast]; omega)
    rw [Nat.pow_succ]
    cases l.getLast hne <;> simp only [Bool.not_true, Bool.not_false, Bool.toNat_true, Bool.toNat_false] <;> omega
theorem numT_cons (b : Bool) : ∀ (n : Nat) (l : List Bool), l.length = n → numT (b :: l) = b.toNat * 2 ^ n + numT l
  | 0, l, h => by rw [List.length_eq_zero_iff.1 h]; cases b <;> rfl
  | n + 1, l, h => by
    have hne : l ≠ [] := fun e => by rw [e] at h; simp at h
    rw [← List.dropLast_concat_getLast hne, ← List.cons_append, numT_snoc, numT_snoc, numT_cons b n l.dropLast (by rw [List.length_dropLast]; omega), Nat.pow_succ]
    generalize b.toNat = c
    generalize 2 ^ n = p
    rw [← Nat.mul_assoc]
    omega
theorem f_Signed (l : List Bool) (h0 : 0 < l.length) (hl : l.length ≤ 60) : F_ref34_Signed (bitsT l) = some (sgnT l) := by
  unfold F_ref34_Signed
  have hlt := numT_lt _ l rfl
  have hp : 2 ^ l.length ≤ 2 ^ 60 := Nat.pow_le_pow_right (by decide) hl
  have h60 : (2 : Nat) ^ 60 = 1152921504606846976 := by decide
  have hq : ((2 : Int) ^ l.length) = ((2 ^ l.length : Nat) : Int) := by simp
  rw [bitsT_size, beq_false_of_ne (show (l.length : Int) ≠ 0 by omega), decide_eq_true (show (0 : Int) < (l.length : Int) by omega)]
  simp only [cond_false, Bool.and_self, chk_yes]
  rw [show (0 : Int).toNat = 0 from rfl, bitsT_get, if_pos h0, f_Value l (by omega)]
  unfold sgnT
  cases hb : l.getD 0 false with
  | false =>
    show Option.bind (some ((numT l : Nat) : Int)) (fun t => some (IntKind.i64.wrap t)) = _
    rw [Option.bind_some, i64n (numT l) (by omega)]
    rfl
  | true =>
    show Option.bind (loopO _ _) _ = _
    rw [show (((0 : Int), (⟨#[]⟩ : ByteArray)) : Int × ByteArray) = (((0 : Nat) : Int), bitsT ((l.map (!·)).take 0)) from rfl]
    rw [loop_run (n := l.length) (st := fun k => ((k : Int), bitsT ((l.map (!·)).take k))) (x := bitsT (l.map (!·)))]
    · rw [Option.bind_some, f_Value _ (by rw [List.length_map]; omega), Option.bind_some]
      have hn := numT_not _ l rfl
      rw [i64n _ (by omega), wrap_ok (n := 0 - ((numT (l.map (!·)) : Nat) : Int)) (by omega), wrap_ok (by omega), hq]
      refine congrArg some ?_
      simp only [cond_true]
      omega
    · intro k hk
      simp only []
      rw [decide_eq_true (show (k : Int) < (l.length : Int) by omega), decide_eq_true (show (0 : Int) ≤ (k : Int) by omega), Int.toNat_natCast, bitsT_get, if_pos hk, wrap_ok (n := (k : Int) + 1) (by omega), take_snoc (l := l.map (!·)) (by rw [List.length_map]; exact hk)]
      have hg : (l.map (!·)).getD k false = !(l.getD k false) := by
        rw [List.getD_eq_getElem?_getD, List.getD_eq_getElem?_getD, List.getElem?_map, List.getElem?_eq_getElem hk]
        rfl
      rw [hg]
      simp only [cond_true, Bool.and_self, chk_yes]
      cases l.getD k false with
      | true =>
        show Option.bind (some (bitsT [false])) _ = _
        rw [Option.bind_some, decide_eq_true (by rw [bitsT_size, bitsT_size, List.length_take, List.length_map]; simp only [List.length_singleton]; omega), chk_yes rfl, bitsT_app]
        rfl
      | false =>
        show Option.bind (some (bitsT [true])) _ = _
        rw [Option.bind_some, decide_eq_true (by rw [bitsT_size, bitsT_size, List.length_take, List.length_map]; simp only [List.length_singleton]; omega), chk_yes rfl, bitsT_app]
        rfl
    · simp only []
      rw [decide_eq_false (by omega), List.take_of_length_le (by rw [List.length_map]; omega)]
      rfl
/-- The bits of bytes. -/
def bitsB (l : List Int) : List Bool := (List.range (8 * l.length)).map (bitL l)
theorem bitsB_length (l : List Int) : (bitsB l).length = 8 * l.length := by simp [bitsB]
theorem bitsB_get (l : List Int) (i : Nat) (h : i < 8 * l.length) : (bitsB l).getD i false = bitL l i := by
  simp [bitsB, List.getD_eq_getElem?_getD, h]
theorem range_add8 (k : Nat) : List.range (8 * (k + 1)) = List.range (8 * k) ++ (List.range 8).map (8 * k + ·) := by
  rw [show 8 * (k + 1) = 8 * k + 8 by omega, List.range_add]
theorem bits_byte (l : List Int) (k : Nat) : (List.range (8 * (k + 1))).map (bitL l) = (List.range (8 * k)).map (bitL l) ++ bitsN (l.getD k 0).toNat 8 := by
  rw [range_add8, List.map_append, List.map_map]
  congr 1
  unfold bitsN
  apply List.map_congr_left
  intro j hj
  have := List.mem_range.1 hj
  show bitL l (8 * k + j) = _
  unfold bitL
  rw [show (8 * k + j) / 8 = k by omega, show (8 * k + j) % 8 = j by omega]
theorem f_Text (l : List Int) (hb : RByte l) (hl : l.length ≤ 1000000) : F_ref34_Text l = some (bitsT (bitsB l)) := by
  unfold F_ref34_Text bitsB
  rw [show (((0 : Int), (⟨#[]⟩ : ByteArray)) : Int × ByteArray) = (((0 : Nat) : Int), bitsT ((List.range (8 * 0)).map (bitL l))) from rfl]
  rw [loop_run (n := l.length) (st := fun k => ((k : Int), bitsT ((List.range (8 * k)).map (bitL l)))) (x := bitsT ((List.range (8 * l.length)).map (bitL l)))]
  · rfl
  · intro k hk
    have hx := hb k
    obtain ⟨x, hxe⟩ := Int.eq_ofNat_of_zero_le hx.1
    simp only []
    rw [decide_eq_true (show (k : Int) < (l.length : Int) by omega), decide_eq_true (show (0 : Int) ≤ (k : Int) by omega), Int.toNat_natCast, wrap_ok (n := (k : Int) + 1) (by omega), bits_byte, hxe, u64n x (by omega)]
    simp only [cond_true, Bool.and_self, chk_yes]
    rw [show (8 : Int) = ((8 : Nat) : Int) from rfl, f_Number x (by omega) 8 (by decide), Option.bind_some, decide_eq_true (by rw [bitsT_size, bitsT_size, bitsN_length]; simp only [List.length_map, List.length_range]; omega), chk_yes rfl, bitsT_app, Int.toNat_natCast]
    rfl
  · simp only []
    rw [decide_eq_false (by omega)]
    rfl
/-- Bytes that hold some bits, and noughts behind. -/
def Holds (l : List Int) (bs : List Bool) : Prop := RByte l ∧ l.length = (bs.length + 7) / 8 ∧ ∀ p, p < 8 * l.length → bitL l p = bs.getD p false
theorem byte_bits {x y : Nat} (hx : x < 256) (hy : y < 256) (h : ∀ j, j < 8 → x.testBit j = y.testBit j) : x = y := by
  apply Nat.eq_of_testBit_eq
  intro i
  by_cases hi : i < 8
  · exact h i hi
  · rw [Nat.testBit_lt_two_pow (Nat.lt_of_lt_of_le hx (by rw [show 256 = 2 ^ 8 from rfl]; exact Nat.pow_le_pow_right (by decide) (by omega))), Nat.testBit_lt_two_pow (Nat.lt_of_lt_of_le hy (by rw [show 256 = 2 ^ 8 from rfl]; exact Nat.pow_le_pow_right (by decide) (by omega)))]
theorem bytes_eq {l m : List Int} (hl : RByte l) (hm : RByte m) (he : l.length = m.length) (h : ∀ p, p < 8 * l.length → bitL l p = bitL m p) : l = m := by
  apply List.ext_getElem he
  intro i h1 h2
  have g1 : l.getD i 0 = l[i] := by rw [List.getD_eq_getElem?_getD, List.getElem?_eq_getElem h1]; rfl
  have g2 : m.getD i 0 = m[i] := by rw [List.getD_eq_getElem?_getD, List.getElem?_eq_getElem h2]; rfl
  have b1 := hl i
  have b2 := hm i
  rw [← g1, ← g2]
  have : (l.getD i 0).toNat = (m.getD i 0).toNat := by
    apply byte_bits (by omega) (by omega)
    intro j hj
    have := h (8 * i + (7 - j)) (by omega)
    unfold bitL at this
    rwa [show (8 * i + (7 - j)) / 8 = i by omega, show 7 - (8 * i + (7 - j)) % 8 = j by omega] at this
  omega
theorem holds_eq {l m : List Int} {bs : List Bool} (hl : Holds l bs) (hm : Holds m bs) : l = m :=
  bytes_eq hl.1 hm.1 (by rw [hl.2.1, hm.2.1]) fun p hp => by rw [hl.2.2 p hp, hm.2.2 p (by rw [hm.2.1, ← hl.2.1]; exact hp)]
theorem getD_app (bs cs : List Bool) (p : Nat) : (bs ++ cs).getD p false = if p < bs.length then bs.getD p false else cs.getD (p - bs.length) false := by
  rw [List.getD_eq_getElem?_getD]
  split
  · rename_i h
    rw [List.getElem?_append_left h, ← List.getD_eq_getElem?_getD]
  · rename_i h
    rw [List.getElem?_append_right (by omega), ← List.getD_eq_getElem?_getD]
/-- A number more. -/
theorem holds_put {l : List Int} {bs : List Bool} (h : Holds l bs) (v m : Nat) : RowZ l bs.length ∧ Holds (putK l bs.length v m m) (bs ++ bitsN v m) := by
  obtain ⟨h1, h2, h3⟩ := h
  have hz : RowZ l bs.length := ⟨h1, h2, fun p hp hq => by
    rw [h3 p hq, List.getD_eq_getElem?_getD, List.getElem?_eq_none hp]
    rfl⟩
  obtain ⟨⟨r1, r2, r3⟩, i2, i3⟩ := putK_row hz v m m
  refine ⟨hz, r1, by rw [r2, List.length_append, bitsN_length], fun p hp => ?_⟩
  rw [getD_app]
  split
  · rename_i hlt
    rw [i3 p hlt, h3 p (by rw [h2]; omega)]
  · rename_i hge
    by_cases hm : p - bs.length < m
    · have := i2 (p - bs.length) hm
      rw [show bs.length + (p - bs.length) = p by omega] at this
      rw [this, bitsN_get _ _ _ hm]
    · rw [r3 p (by omega) hp, List.getD_eq_getElem?_getD, List.getElem?_eq_none (by rw [bitsN_length]; omega)]
      rfl
theorem holds_nil : Holds [] [] := ⟨fun i => by simp, rfl, fun p hp => absurd hp (by simp)⟩
/-- Eight bits are a byte. -/
theorem numT_bits (l : List Bool) (h : l.length = 8) : ∀ j, j < 8 → (numT l).testBit (7 - j) = l.getD j false := by
  match l, h with
  | [a, b, c, d, e, f, g, i], _ =>
    cases a <;> cases b <;> cases c <;> cases d <;> cases e <;> cases f <;> cases g <;> cases i <;> decide
theorem f_Bytes (bs : List Bool) (hl : bs.length ≤ 100000) : ∃ l, F_ref34_Bytes (bitsT bs) = some l ∧ Holds l bs := by
  obtain ⟨k, hk8, hk⟩ : ∃ k, (bs.length + k) % 8 = 0 ∧ k < 8 := ⟨(8 - bs.length % 8) % 8, by omega, by omega⟩
  unfold F_ref34_Bytes
  rw [show bitsT bs = bitsT (bs ++ List.replicate 0 false) by simp]
  rw [loop_run (n := k) (st := fun i => bitsT (bs ++ List.replicate i false)) (x := bitsT (bs ++ List.replicate k false))]
  · rw [Option.bind_some]
    generalize hc : bs ++ List.replicate k false = cs
    have hcl : cs.length = bs.length + k := by rw [← hc]; simp
    have hcg : ∀ p, cs.getD p false = bs.getD p false := by
      intro p
      rw [← hc, getD_app]
      split
      · rfl
      · rename_i hp
        rw [List.getD_eq_getElem?_getD (l := bs), List.getElem?_eq_none (by omega), List.getD_eq_getElem?_getD, List.getElem?_replicate]
        split <;> rfl
    let by' : Nat → List Int := fun n => (List.range n).map fun i => ((numT ((cs.take (8 * i + 8)).drop (8 * i)) : Nat) : Int)
    have hq : bs.length + k = 8 * (cs.length / 8) := by omega
    generalize hn : cs.length / 8 = n at hq
    refine ⟨by' n, ?_, ?_⟩
    · rw [show (((0 : Int), ([] : List Int)) : Int × List Int) = ((((8 * 0 : Nat)) : Int), by' 0) from rfl]
      rw [loop_run (n := n) (st := fun i => (((8 * i : Nat) : Int), by' i)) (x := by' n)]
      · rfl
      · intro i hi
        have hs : ((cs.take (8 * i + 8)).drop (8 * i)).length = 8 := by rw [List.length_drop, List.length_take]; omega
        have hv := numT_lt 8 _ hs
        simp only []
        rw [bitsT_size, decide_eq_true (show ((8 * i : Nat) : Int) < (cs.length : Int) by omega), show ((8 * i : Nat) : Int) + 8 = ((8 * i + 8 : Nat) : Int) by omega, i64n (8 * i + 8) (by omega), decide_eq_true (show (0 : Int) ≤ ((8 * i : Nat) : Int) by omega), decide_eq_true (show ((8 * i : Nat) : Int) ≤ ((8 * i + 8 : Nat) : Int) by omega), decide_eq_true (show ((8 * i + 8 : Nat) : Int) ≤ (cs.length : Int) by omega), Int.toNat_natCast, Int.toNat_natCast, bitsT_extract]
        simp only [cond_true, Bool.and_self, chk_yes]
        rw [f_Value _ (by omega), Option.bind_some]
        have hw : IntKind.u8.wrap (((numT ((cs.take (8 * i + 8)).drop (8 * i)) : Nat)) : Int) = ((numT ((cs.take (8 * i + 8)).drop (8 * i)) : Nat) : Int) := by
          simp [IntKind.wrap, IntKind.signed, IntKind.bits]
          omega
        rw [hw, decide_eq_true (by show ((by' i).length + 1) * 1 ≤ _; simp only [by', List.length_map, List.length_range]; omega), chk_yes rfl]
        refine congrArg some (congrArg Sum.inl ?_)
        simp only [by', List.range_succ, List.map_append, List.map_singleton]
        rfl
      · simp only []
        rw [bitsT_size, decide_eq_false (by omega)]
        rfl
    · have hby : ∀ i, i < n → (by' n).getD i 0 = ((numT ((cs.take (8 * i + 8)).drop (8 * i)) : Nat) : Int) := by
        intro i hi
        simp [by', List.getD_eq_getElem?_getD, hi]
      have hs : ∀ i, i < n → ((cs.take (8 * i + 8)).drop (8 * i)).length = 8 := by
        intro i hi
        rw [List.length_drop, List.length_take]; omega
      have hlen : (by' n).length = n := by simp [by']
      refine ⟨fun i => ?_, by rw [hlen]; omega, fun p hp => ?_⟩
      · by_cases hi : i < n
        · rw [hby i hi]
          have := numT_lt 8 _ (hs i hi)
          omega
        · rw [List.getD_eq_getElem?_getD, List.getElem?_eq_none (by omega)]
          decide
      · rw [hlen] at hp
        unfold bitL
        rw [hby (p / 8) (by omega), Int.toNat_natCast, numT_bits _ (hs (p / 8) (by omega)) (p % 8) (by omega), ← hcg, List.getD_eq_getElem?_getD, List.getD_eq_getElem?_getD, List.getElem?_drop, List.getElem?_take, if_pos (by omega), show 8 * (p / 8) + p % 8 = p by omega]
  · intro i hi
    simp only []
    have : (((bs ++ List.replicate i false).length : Int)).tmod 8 ≠ 0 := by
      rw [List.length_append, List.length_replicate, show ((8 : Int)) = ((8 : Nat) : Int) from rfl, tmN]
      omega
    rw [bitsT_size, bne_iff_ne.2 this, bit_nought, decide_eq_true (by rw [bitsT_size]; simp only [List.length_append, List.length_replicate, List.length_singleton]; omega), chk_yes rfl, bitsT_app]
    show some (Sum.inl (bitsT (bs ++ List.replicate i false ++ [false]))) = _
    rw [List.append_assoc, ← List.replicate_succ']
  · simp only []
    have : (((bs ++ List.replicate k false).length : Int)).tmod 8 = 0 := by
      rw [List.length_append, List.length_replicate, show ((8 : Int)) = ((8 : Nat) : Int) from rfl, tmN]
      omega
    rw [bitsT_size, this]
    rfl
/-- The number of some bits of bytes. -/
theorem getV_num (l : List Int) (a : Nat) : ∀ m, a + m ≤ 8 * l.length → getV l a m = numT (((bitsB l).take (a + m)).drop a)
  | 0, _ => by
    rw [getV, List.drop_of_length_le (by rw [List.length_take]; omega)]
    rfl
  | m + 1, h => by
    rw [getV, getV_num l a m (by omega), ← Nat.add_assoc, take_snoc (by rw [bitsB_length]; omega), List.drop_append_of_le_length (by rw [List.length_take, bitsB_length]; omega), numT_snoc, bitsB_get _ _ (by omega)]
end Go.Proofs.YtomkodhihiloiaaDoor
