/- The walks of the reference of layer 2: numbers as rows of bits. -/
import Derived.Test.YtbpadfmdjgjjlaaWideLoops
import Derived.Test.YtbpadfmdjgjjlaaMix
set_option linter.unusedSimpArgs false
set_option linter.unusedVariables false
namespace Go.Proofs.Ytbpadfmdjgjjlaa
open Go.RowKit
/-- Bit j of a number. -/
def bitF (X : Int) (j : Nat) : Int := X / 2 ^ j % 2
theorem bitF_01 (X : Int) (j : Nat) : 0 ≤ bitF X j ∧ bitF X j ≤ 1 := by unfold bitF; omega
theorem div_pow_succ (X : Int) (k : Nat) : X / 2 ^ (k + 1) = X / 2 ^ k / 2 := by
  rw [Int.pow_succ, Int.ediv_ediv_of_nonneg (Int.le_of_lt (pow_pos' k))]
def ofF (h l : Int) (k j : Nat) : Int := if j < k then bitF l j else if 64 ≤ j ∧ j < 64 + k then bitF h (j - 64) else 0
theorem ofF_end (h l : Int) (hl : U64 l) (j : Nat) (hj : j < 128) : ofF h l 64 j = bitF (vU h l) j := by
  obtain ⟨h3, h4⟩ := hl
  unfold ofF bitF
  by_cases hj64 : j < 64
  · rw [if_pos hj64, vU]
    have hs := pow_split j (by omega)
    have hp := pow_pos' j
    have e : (h * 18446744073709551616 + l) / 2 ^ j = h * 2 ^ (64 - j) + l / 2 ^ j := by
      rw [← hs, show h * (2 ^ j * 2 ^ (64 - j)) + l = 2 ^ j * (h * 2 ^ (64 - j)) + l by rw [Int.mul_left_comm], Int.add_comm, Int.add_mul_ediv_left _ _ (by omega), Int.add_comm]
    rw [e]
    have e2 : (2 : Int) ^ (64 - j) = 2 * 2 ^ (64 - j - 1) := by
      rw [Int.mul_comm, ← Int.pow_succ]; congr 1; omega
    rw [e2, Int.mul_left_comm]
    omega
  · rw [if_neg hj64, if_pos (by omega)]
    have e : vU h l / 2 ^ j = h / 2 ^ (j - 64) := by
      rw [show j = 64 + (j - 64) by omega, Int.pow_add, show 64 + (j - 64) - 64 = j - 64 by omega, ← Int.ediv_ediv_of_nonneg (by decide), vU]
      congr 1
      have : (2 : Int) ^ 64 = 18446744073709551616 := rfl
      rw [this]; omega
    rw [e]
set_option maxHeartbeats 1000000 in
theorem ref02_Of (h l : Int) (hh : U64 h) (hl : U64 l) (w : World) :
    Calls Try.prog 27 #[.int .u64 h, .int .u64 l] w fun e w' =>
      e = .returned (.agg (Row .i64 128 (bitF (vU h l)))) ∧ Below w.heap.size w w' := by
  have hend := hide (row_ext (k := .i64) (ofF_end h l hl))
  have hh' := hide hh
  have hl' := hide hl
  clear hh hl
  go_enter Try.func27, Try.ntmps27
  go_wp2
  go_loopw [0, 1, 6] (fun a b i wr => ∃ k : Nat, k ≤ 64 ∧ i = .int .i64 (k : Int) ∧ a = .int .u64 (h / 2 ^ k) ∧ b = .int .u64 (l / 2 ^ k) ∧
      Later ((w.alloc (.cells (Row .i64 128 (fun _ => 0)) 25)).alloc (.cells (Row .i64 128 (ofF h l k)) 25)) wr) (fun _ _ i _ => 64 - (intOf i).toNat)
  case atStart =>
    refine ⟨0, by omega, rfl, by simp, by simp, ?_⟩
    have e : Row .i64 128 (ofF h l 0) = Row .i64 128 (fun _ => 0) := row_ext fun j _ => by unfold ofF; rw [if_neg (by omega), if_neg (by omega)]
    rw [e]
    exact later_refl _
  case round =>
    obtain ⟨k, hk, rfl, rfl, rfl, x, rfl⟩ := hrel
    by_cases hlt : k < 64
    · have ha : 0 ≤ h / 2 ^ k ∧ h / 2 ^ k ≤ 18446744073709551615 := ⟨Int.ediv_nonneg hh'.out.1 (Int.le_of_lt (pow_pos' k)), Int.le_trans (Int.ediv_le_self _ hh'.out.1) hh'.out.2⟩
      have hb : 0 ≤ l / 2 ^ k ∧ l / 2 ^ k ≤ 18446744073709551615 := ⟨Int.ediv_nonneg hl'.out.1 (Int.le_of_lt (pow_pos' k)), Int.le_trans (Int.ediv_le_self _ hl'.out.1) hl'.out.2⟩
      have hA := hide (div_pow_succ h k)
      have hB := hide (div_pow_succ l k)
      have hrow : Hid (Row .i64 128 (ofF h l (k + 1)) = Row .i64 128 (fun j => if j = 64 + k then h / 2 ^ k % 2 else if j = k then l / 2 ^ k % 2 else ofF h l k j)) := hide (row_ext fun j _ => by
        unfold ofF
        by_cases h1 : j = 64 + k
        · subst h1; rw [if_neg (by omega), if_pos (by omega), if_pos rfl]; unfold bitF; rw [show 64 + k - 64 = k by omega]
        · by_cases h2 : j = k
          · subst h2; rw [if_pos (by omega), if_neg (by omega), if_pos rfl]; rfl
          · rw [if_neg h1, if_neg h2]
            by_cases h3 : j < k
            · rw [if_pos (by omega), if_pos h3]
            · rw [if_neg (by omega), if_neg h3]
              by_cases h4 : 64 ≤ j ∧ j < 64 + k
              · rw [if_pos (by omega), if_pos h4]
              · rw [if_neg (by omega), if_neg h4])
      generalize h / 2 ^ k = a at *
      generalize l / 2 ^ k = b at *
      have i1 : k < 128 := by omega
      have i2 : 64 + k < 128 := by omega
      go_wp2
      go_roundw
      case rel =>
        refine ⟨k + 1, by omega, by go_num, by rw [hA.out], by rw [hB.out], ?_⟩
        rw [hrow.out]
        exact (later_refl _).more _
      case measure => simp [intOf] <;> omega
    · have hrow : Row .i64 128 (ofF h l k) = Row .i64 128 (bitF (vU h l)) := by rw [show k = 64 by omega]; exact hend.out
      rw [hrow]
      clear hrow
      go_wp2
      exact ret_row _ w.heap.size 128 _ Try.results27 rfl rfl Try.underlying25 rfl (by kernel_rfl) (by simp [go_sem]) (by simp [go_sem]; try rfl) ⟨rfl, by (repeat (first | exact Below.refl _ _ | assumption | refine Below.alloc ?_ (by (try simp [size_more]) <;> omega) _ | refine Below.setCell ?_ (by (try simp [size_more]) <;> omega) _ | refine below_more ?_ (by (try simp [size_more]) <;> omega) _ | refine below_row ?_ (by (try simp [size_more]) <;> omega) _ | refine Below.drew ?_))⟩
/-! ### Add -/
theorem bitF_zero (j : Nat) : bitF 0 j = 0 := by unfold bitF; simp
/-- What is carried into bit k. -/
def carryF (X Y : Int) (k : Nat) : Int := (X % 2 ^ k + Y % 2 ^ k) / 2 ^ k
theorem carryF_zero (X Y : Int) : carryF X Y 0 = 0 := by unfold carryF; simp [Int.emod_one]
theorem mod_pow_succ (X : Int) (k : Nat) : X % 2 ^ (k + 1) = X % 2 ^ k + 2 ^ k * bitF X k := by
  unfold bitF
  have h1 := Int.emod_add_ediv_mul X (2 ^ (k + 1))
  have h2 := Int.emod_add_ediv_mul X (2 ^ k)
  have h3 := Int.emod_add_ediv_mul (X / 2 ^ k) 2
  rw [div_pow_succ, Int.pow_succ] at h1
  rw [Int.pow_succ]
  generalize (2 : Int) ^ k = P at *
  generalize X / P = Y at *
  have e1 : Y / 2 * (P * 2) = P * (Y / 2 * 2) := by rw [Int.mul_left_comm]
  have e2 : Y * P = P * (Y % 2) + P * (Y / 2 * 2) := by rw [← Int.mul_add, h3, Int.mul_comm]
  omega
theorem carryF_step (X Y : Int) (k : Nat) :
    (bitF X k + bitF Y k + carryF X Y k) / 2 = carryF X Y (k + 1) ∧ (bitF X k + bitF Y k + carryF X Y k) % 2 = bitF (X + Y) k := by
  have hp := pow_pos' k
  have hx := mod_pow_succ X k
  have hy := mod_pow_succ Y k
  have hxy := mod_pow_succ (X + Y) k
  have hs : (X + Y) / 2 ^ k = X / 2 ^ k + Y / 2 ^ k + carryF X Y k := by
    unfold carryF
    have h1 := Int.emod_add_ediv_mul X (2 ^ k)
    have h2 := Int.emod_add_ediv_mul Y (2 ^ k)
    generalize (2 : Int) ^ k = P at *
    conv => lhs; rw [show X + Y = (X % P + Y % P) + P * (X / P + Y / P) by rw [Int.mul_add, Int.mul_comm P, Int.mul_comm P]; omega]
    rw [Int.add_mul_ediv_left _ _ (by omega)]
    omega
  constructor
  · unfold carryF at *
    rw [hx, hy]
    rw [show X % 2 ^ k + 2 ^ k * bitF X k + (Y % 2 ^ k + 2 ^ k * bitF Y k) = (X % 2 ^ k + Y % 2 ^ k) + 2 ^ k * (bitF X k + bitF Y k) by rw [Int.mul_add]; omega]
    rw [Int.pow_succ, ← Int.ediv_ediv_of_nonneg (Int.le_of_lt hp), Int.add_mul_ediv_left _ _ (by omega)]
    congr 1
    omega
  · unfold bitF
    rw [hs]
    omega
theorem carryF_01 (X Y : Int) (k : Nat) : 0 ≤ carryF X Y k ∧ carryF X Y k ≤ 1 := by
  have hp := pow_pos' k
  unfold carryF
  have h1 := Int.emod_nonneg X (show (2 : Int) ^ k ≠ 0 by omega)
  have h2 := Int.emod_nonneg Y (show (2 : Int) ^ k ≠ 0 by omega)
  have h3 := Int.emod_lt_of_pos X hp
  have h4 := Int.emod_lt_of_pos Y hp
  exact ⟨Int.ediv_nonneg (by omega) (by omega), Int.le_of_lt_add_one (Int.ediv_lt_of_lt_mul hp (by omega))⟩
/-- What goes beyond 128 bits. -/
def ovf (n : Int) : Int := n / 340282366920938463463374607431768211456
def addF (X Y : Int) (k j : Nat) : Int := if j < k then bitF (X + Y) j else 0
set_option maxRecDepth 100000 in
set_option maxHeartbeats 1000000 in
theorem ref02_Add (X Y : Int) (hX : U128 X) (hY : U128 Y) (w : World) :
    Calls Try.prog 25 #[.agg (Row .i64 128 (bitF X)), .agg (Row .i64 128 (bitF Y))] w fun e w' =>
      e = .returned (.tuple #[.agg (Row .i64 128 (bitF (X + Y))), .int .i64 (ovf (X + Y))]) ∧ Below w.heap.size w w' := by
  have hX' := hide hX
  have hY' := hide hY
  clear hX hY
  go_enter Try.func25, Try.ntmps25
  go_wp2
  go_loopw [7, 8, 9] (fun c i _ wr => ∃ k : Nat, k ≤ 128 ∧ i = .int .i64 (k : Int) ∧ c = .int .i64 (carryF X Y k) ∧
      Later ((((w.alloc (.cells (Row .i64 128 (bitF X)) 25)).alloc (.cells (Row .i64 128 (bitF Y)) 25)).alloc (.cells (Row .i64 128 (fun _ => 0)) 25)).alloc (.cells (Row .i64 128 (addF X Y k)) 25)) wr) (fun _ i _ _ => 128 - (intOf i).toNat)
  case atStart =>
    refine ⟨0, by omega, rfl, by rw [carryF_zero], ?_⟩
    have e : Row .i64 128 (addF X Y 0) = Row .i64 128 (fun _ => 0) := row_ext fun j _ => by unfold addF; rw [if_neg (by omega)]
    rw [e]
    exact later_refl _
  case round =>
    obtain ⟨k, hk, rfl, rfl, x, rfl⟩ := hrel
    by_cases hlt : k < 128
    · have hst := carryF_step X Y k
      have hc := carryF_01 X Y k
      have hbx := bitF_01 X k
      have hby := bitF_01 Y k
      have hrow : Hid (Row .i64 128 (addF X Y (k + 1)) = Row .i64 128 (fun j => if j = k then (bitF X k + bitF Y k + carryF X Y k) % 2 else addF X Y k j)) := hide (row_ext fun j _ => by
        unfold addF
        by_cases h1 : j = k
        · subst h1; rw [if_pos (by omega), if_pos rfl, hst.2]
        · rw [if_neg h1]
          by_cases h2 : j < k
          · rw [if_pos (by omega), if_pos h2]
          · rw [if_neg (by omega), if_neg h2])
      have hC := hide hst.1
      clear hst
      have hC1 := IntWalk.i64_in (bitF X k + bitF Y k) ⟨by omega, by omega⟩
      have hC2 := IntWalk.i64_in (bitF X k + bitF Y k + carryF X Y k) ⟨by omega, by omega⟩
      have hC3 : 0 ≤ bitF X k + bitF Y k + carryF X Y k := by omega
      have i1 : (k : Int) < 128 := by omega
      go_wp2
      refine region_all (by kernel_rfl) (by kernel_rfl) ?_
      (try simp only [List.take_succ_cons, List.take_zero, List.drop_succ_cons, List.drop_zero]); (repeat (refine wpCalm_step (fun K hK => ?_); go_simp; first | (refine hK _ ?_; clear hK K) | (apply Exists.intro; refine ⟨fun _ => ?_, hK _ ?_⟩; (fail); clear hK K))); with_reducible refine wpCalm_nil ?_
      intro x2
      go_wp2
      go_roundw
      case rel =>
        refine ⟨k + 1, by omega, by go_num, by rw [hC.out], ?_⟩
        rw [hrow.out]
        exact (later_refl _).more _
      case measure => simp [intOf] <;> omega
    · have hrow : Row .i64 128 (addF X Y k) = Row .i64 128 (bitF (X + Y)) := row_ext fun j hj => by unfold addF; rw [if_pos (by omega)]
      have hcar : carryF X Y k = ovf (X + Y) := by
        rw [show k = 128 by omega]
        unfold carryF
        rw [Int.emod_eq_of_lt hX'.out.1 (by have := hX'.out.2; omega), Int.emod_eq_of_lt hY'.out.1 (by have := hY'.out.2; omega)]
        rfl
      rw [hrow, hcar]
      clear hrow hcar
      go_wp2
      exact ret_row_tmp _ (w.heap.size + 1 + 1) 128 _ Try.results25 rfl rfl Try.underlying25 rfl (by kernel_rfl) (by simp [go_sem]) (by simp [go_sem]; try rfl) ⟨rfl, by (repeat (first | exact Below.refl _ _ | assumption | refine Below.alloc ?_ (by (try simp [size_more]) <;> omega) _ | refine Below.setCell ?_ (by (try simp [size_more]) <;> omega) _ | refine below_more ?_ (by (try simp [size_more]) <;> omega) _ | refine below_row ?_ (by (try simp [size_more]) <;> omega) _ | refine Below.drew ?_))⟩
/-! ### Up, Down -/
theorem bitF_up (X : Int) (n j : Nat) (h : n ≤ j) : bitF (X * 2 ^ n) j = bitF X (j - n) := by
  unfold bitF
  have hp := pow_pos' n
  rw [show j = n + (j - n) by omega, Int.pow_add, ← Int.ediv_ediv_of_nonneg (Int.le_of_lt hp), Int.mul_ediv_cancel _ (by omega), show n + (j - n) - n = j - n by omega]
theorem bitF_up_low (X : Int) (n j : Nat) (h : j < n) : bitF (X * 2 ^ n) j = 0 := by
  unfold bitF
  have hp := pow_pos' j
  have e : (2 : Int) ^ n = 2 ^ j * (2 * 2 ^ (n - j - 1)) := by
    rw [show n = j + (1 + (n - j - 1)) by omega, Int.pow_add, Int.pow_add, show j + (1 + (n - j - 1)) - j - 1 = n - j - 1 by omega]; rfl
  rw [e, Int.mul_left_comm, Int.mul_ediv_cancel_left _ (by omega), Int.mul_left_comm]
  omega
theorem bitF_down (X : Int) (n j : Nat) : bitF (X / 2 ^ n) j = bitF X (j + n) := by
  unfold bitF
  rw [Int.ediv_ediv_of_nonneg (Int.le_of_lt (pow_pos' n)), Nat.add_comm, Int.pow_add]
theorem bitF_high (X : Int) (h : U128 X) (j : Nat) (hj : 128 ≤ j) : bitF X j = 0 := by
  unfold bitF
  obtain ⟨h1, h2⟩ := h
  have hb : X < 2 ^ 128 := by
    have e : (2 : Int) ^ 128 = 340282366920938463463374607431768211456 := rfl
    rw [e]; omega
  have e : X / 2 ^ j = 0 := by
    rw [show j = 128 + (j - 128) by omega, Int.pow_add, ← Int.ediv_ediv_of_nonneg (by decide), Int.ediv_eq_zero_of_lt h1 hb]
    simp
  rw [e]; rfl
def upF (X : Int) (n k j : Nat) : Int := if j < k then bitF (X * 2 ^ n) j else 0
theorem upF_zero (X : Int) (n : Nat) : Row .i64 128 (upF X n 0) = Row .i64 128 (fun _ => 0) := row_ext fun j _ => by unfold upF; rw [if_neg (by omega)]
theorem upF_all (X : Int) (n k : Nat) (h : 128 ≤ k) : Row .i64 128 (upF X n k) = Row .i64 128 (bitF (X * 2 ^ n)) := row_ext fun j hj => by unfold upF; rw [if_pos (by omega)]
theorem upF_set (X : Int) (n k : Nat) (v : Int) (h : v = bitF (X * 2 ^ n) k) : Row .i64 128 (upF X n (k + 1)) = Row .i64 128 (fun j => if j = k then v else upF X n k j) := row_ext fun j _ => by
  unfold upF
  by_cases h1 : j = k
  · subst h1; rw [if_pos (by omega), if_pos rfl, h]
  · rw [if_neg h1]
    by_cases h2 : j < k
    · rw [if_pos (by omega), if_pos h2]
    · rw [if_neg (by omega), if_neg h2]
theorem upF_skip (X : Int) (n k : Nat) (h : 0 = bitF (X * 2 ^ n) k) : Row .i64 128 (upF X n (k + 1)) = Row .i64 128 (upF X n k) := row_ext fun j _ => by
  unfold upF
  by_cases h1 : j = k
  · subst h1; rw [if_pos (by omega), if_neg (by omega), h]
  · by_cases h2 : j < k
    · rw [if_pos (by omega), if_pos h2]
    · rw [if_neg (by omega), if_neg h2]
set_option maxRecDepth 100000 in
set_option maxHeartbeats 1000000 in
theorem ref02_Up (X : Int) (n : Nat) (hn : n ≤ 9223372036854775807) (w : World) :
    Calls Try.prog 26 #[.agg (Row .i64 128 (bitF X)), .int .i64 (n : Int)] w fun e w' =>
      e = .returned (.agg (Row .i64 128 (bitF (X * 2 ^ n)))) ∧ Below w.heap.size w w' := by
  go_enter Try.func26, Try.ntmps26
  go_wp2
  go_loopw [6] (fun i wr => ∃ k : Nat, k ≤ 128 ∧ i = .int .i64 (k : Int) ∧
      Later (((w.alloc (.cells (Row .i64 128 (bitF X)) 25)).alloc (.cells (Row .i64 128 (fun _ => 0)) 25)).alloc (.cells (Row .i64 128 (upF X n k)) 25)) wr) (fun i _ => 128 - (intOf i).toNat)
  case atStart =>
    refine ⟨0, by omega, rfl, ?_⟩
    rw [upF_zero]
    exact later_refl _
  case round =>
    obtain ⟨k, hk, rfl, x, rfl⟩ := hrel
    by_cases hlt : k < 128
    · by_cases hnk : n ≤ k
      · have hrow := hide (upF_set X n k (bitF X (k - n)) (bitF_up X n k hnk).symm)
        have i1 : k - n < 128 := by omega
        have i2 : (n : Int) ≤ (k : Int) := by omega
        have i3 : (n : Int) < 128 := by omega
        go_wp2
        go_roundw
        case rel =>
          refine ⟨k + 1, by omega, by go_num, ?_⟩
          rw [hrow.out]
          exact (later_refl _).more _
        case measure => simp [intOf] <;> omega
      · have hrow := hide (upF_skip X n k (bitF_up_low X n k (by omega)).symm)
        have i2 : (k : Int) < (n : Int) := by omega
        go_wp2
        go_roundw
        case rel =>
          refine ⟨k + 1, by omega, by go_num, ?_⟩
          rw [hrow.out]
          exact (later_refl _).more _
        case measure => simp [intOf] <;> omega
    · have hrow := upF_all X n k (by omega)
      rw [hrow]
      clear hrow
      go_wp2
      exact ret_row _ (w.heap.size + 1) 128 _ Try.results26 rfl rfl Try.underlying25 rfl (by kernel_rfl) (by simp [go_sem]) (by simp [go_sem]; try rfl) ⟨rfl, by (repeat (first | exact Below.refl _ _ | assumption | refine Below.alloc ?_ (by (try simp [size_more]) <;> omega) _ | refine Below.setCell ?_ (by (try simp [size_more]) <;> omega) _ | refine below_more ?_ (by (try simp [size_more]) <;> omega) _ | refine below_row ?_ (by (try simp [size_more]) <;> omega) _ | refine Below.drew ?_))⟩
def downF (X : Int) (n k j : Nat) : Int := if j < k then bitF (X / 2 ^ n) j else 0
theorem downF_zero (X : Int) (n : Nat) : Row .i64 128 (downF X n 0) = Row .i64 128 (fun _ => 0) := row_ext fun j _ => by unfold downF; rw [if_neg (by omega)]
theorem downF_all (X : Int) (n k : Nat) (h : 128 ≤ k) : Row .i64 128 (downF X n k) = Row .i64 128 (bitF (X / 2 ^ n)) := row_ext fun j hj => by unfold downF; rw [if_pos (by omega)]
theorem downF_set (X : Int) (n k : Nat) (v : Int) (h : v = bitF (X / 2 ^ n) k) : Row .i64 128 (downF X n (k + 1)) = Row .i64 128 (fun j => if j = k then v else downF X n k j) := row_ext fun j _ => by
  unfold downF
  by_cases h1 : j = k
  · subst h1; rw [if_pos (by omega), if_pos rfl, h]
  · rw [if_neg h1]
    by_cases h2 : j < k
    · rw [if_pos (by omega), if_pos h2]
    · rw [if_neg (by omega), if_neg h2]
theorem downF_skip (X : Int) (n k : Nat) (h : 0 = bitF (X / 2 ^ n) k) : Row .i64 128 (downF X n (k + 1)) = Row .i64 128 (downF X n k) := row_ext fun j _ => by
  unfold downF
  by_cases h1 : j = k
  · subst h1; rw [if_pos (by omega), if_neg (by omega), h]
  · by_cases h2 : j < k
    · rw [if_pos (by omega), if_pos h2]
    · rw [if_neg (by omega), if_neg h2]
set_option maxRecDepth 100000 in
set_option maxHeartbeats 1000000 in
theorem ref02_Down (X : Int) (hX : U128 X) (n : Nat) (hn : n ≤ 9223372036854775807) (w : World) :
    Calls Try.prog 33 #[.agg (Row .i64 128 (bitF X)), .int .i64 (n : Int)] w fun e w' =>
      e = .returned (.agg (Row .i64 128 (bitF (X / 2 ^ n)))) ∧ Below w.heap.size w w' := by
  have hX' := hide hX
  clear hX
  go_enter Try.func33, Try.ntmps33
  go_wp2
  go_loopw [6] (fun i wr => ∃ k : Nat, k ≤ 128 ∧ i = .int .i64 (k : Int) ∧
      Later (((w.alloc (.cells (Row .i64 128 (bitF X)) 25)).alloc (.cells (Row .i64 128 (fun _ => 0)) 25)).alloc (.cells (Row .i64 128 (downF X n k)) 25)) wr) (fun i _ => 128 - (intOf i).toNat)
  case atStart =>
    refine ⟨0, by omega, rfl, ?_⟩
    rw [downF_zero]
    exact later_refl _
  case round =>
    obtain ⟨k, hk, rfl, x, rfl⟩ := hrel
    by_cases hlt : k < 128
    · by_cases hnk : n < 128 - k
      · have hrow := hide (downF_set X n k (bitF X (k + n)) (bitF_down X n k).symm)
        have i1 : k + n < 128 := by omega
        have i2 : (n : Int) < 128 - (k : Int) := by omega
        go_wp2
        go_roundw
        case rel =>
          refine ⟨k + 1, by omega, by go_num, ?_⟩
          rw [hrow.out]
          exact (later_refl _).more _
        case measure => simp [intOf] <;> omega
      · have hrow := hide (downF_skip X n k (by rw [bitF_down, bitF_high X hX'.out _ (by omega)]))
        have i2 : 128 - (k : Int) ≤ (n : Int) := by omega
        go_wp2
        go_roundw
        case rel =>
          refine ⟨k + 1, by omega, by go_num, ?_⟩
          rw [hrow.out]
          exact (later_refl _).more _
        case measure => simp [intOf] <;> omega
    · have hrow := downF_all X n k (by omega)
      rw [hrow]
      clear hrow
      go_wp2
      exact ret_row _ (w.heap.size + 1) 128 _ Try.results33 rfl rfl Try.underlying25 rfl (by kernel_rfl) (by simp [go_sem]) (by simp [go_sem]; try rfl) ⟨rfl, by (repeat (first | exact Below.refl _ _ | assumption | refine Below.alloc ?_ (by (try simp [size_more]) <;> omega) _ | refine Below.setCell ?_ (by (try simp [size_more]) <;> omega) _ | refine below_more ?_ (by (try simp [size_more]) <;> omega) _ | refine below_row ?_ (by (try simp [size_more]) <;> omega) _ | refine Below.drew ?_))⟩
/-! ### Cmp, Len -/
theorem bitF_split (X : Int) (k : Nat) : X / 2 ^ k = 2 * (X / 2 ^ (k + 1)) + bitF X k := by
  unfold bitF; rw [div_pow_succ]; omega
theorem lt_of_div (X Y : Int) (k : Nat) (h : X / 2 ^ k < Y / 2 ^ k) : X < Y := by
  have hp := pow_pos' k
  apply Classical.byContradiction
  intro hn
  have := Int.ediv_le_ediv hp (show Y ≤ X by omega)
  omega
set_option maxRecDepth 100000 in
set_option maxHeartbeats 1000000 in
theorem ref02_Cmp (X Y : Int) (hX : U128 X) (hY : U128 Y) (w : World) :
    Calls Try.prog 29 #[.agg (Row .i64 128 (bitF X)), .agg (Row .i64 128 (bitF Y))] w fun e w' =>
      e = .returned (.int .i64 (cmpI X Y)) ∧ Below w.heap.size w w' := by
  have hX' := hide hX
  have hY' := hide hY
  clear hX hY
  go_enter Try.func29, Try.ntmps29
  go_wp2
  go_loopw [5] (fun i wr => ∃ k : Nat, k ≤ 128 ∧ i = .int .i64 ((k : Int) - 1) ∧ Hid (X / 2 ^ k = Y / 2 ^ k) ∧
      Later ((w.alloc (.cells (Row .i64 128 (bitF X)) 25)).alloc (.cells (Row .i64 128 (bitF Y)) 25)) wr) (fun i _ => (intOf i + 1).toNat)
  case atStart =>
    have e : (2 : Int) ^ 128 = 340282366920938463463374607431768211456 := rfl
    refine ⟨128, by omega, by go_num, hide ?_, later_refl _⟩
    rw [Int.ediv_eq_zero_of_lt hX'.out.1 (by rw [e]; have := hX'.out.2; omega), Int.ediv_eq_zero_of_lt hY'.out.1 (by rw [e]; have := hY'.out.2; omega)]
  case round =>
    obtain ⟨k, hk, rfl, he, x, rfl⟩ := hrel
    obtain rfl | ⟨j, rfl⟩ : k = 0 ∨ ∃ j, k = j + 1 := by
      cases k with
      | zero => exact .inl rfl
      | succ j => exact .inr ⟨j, rfl⟩
    · have hc : cmpI X Y = 0 := cmpI_eq (by have := he.out; rw [Int.pow_zero, Int.ediv_one, Int.ediv_one] at this; exact this)
      have HC := hide hc
      clear hc
      go_wp2
      go_ret
      exact ⟨ret_int HC.out.symm, by (repeat (first | exact Below.refl _ _ | assumption | refine Below.alloc ?_ (by (try simp [size_more]) <;> omega) _ | refine Below.setCell ?_ (by (try simp [size_more]) <;> omega) _ | refine below_more ?_ (by (try simp [size_more]) <;> omega) _ | refine below_row ?_ (by (try simp [size_more]) <;> omega) _ | refine Below.drew ?_))⟩
    · have hx := bitF_split X j
      have hy := bitF_split Y j
      have h0 := he.out
      have hbx := bitF_01 X j
      have hby := bitF_01 Y j
      have hlt : bitF X j < bitF Y j → Hid (cmpI X Y = -1) := fun h => hide (cmpI_lt (lt_of_div X Y j (by omega)))
      have hgt : bitF Y j < bitF X j → Hid (cmpI X Y = 1) := fun h => hide (cmpI_gt (lt_of_div Y X j (by omega)))
      have heq : bitF X j = bitF Y j → Hid (X / 2 ^ j = Y / 2 ^ j) := fun h => hide (by omega)
      clear hx hy h0
      have i1 : j < 128 := by omega
      have i1' : (j : Int) < 128 := by omega
      rcases Int.lt_trichotomy (bitF X j) (bitF Y j) with h | h | h
      · have HC := hlt h
        clear hlt hgt heq
        go_wp2
        refine region_all (by kernel_rfl) (by kernel_rfl) ?_
        (try simp only [List.take_succ_cons, List.take_zero, List.drop_succ_cons, List.drop_zero]); (repeat (refine wpCalm_step (fun K hK => ?_); go_simp; first | (refine hK _ ?_; clear hK K) | (apply Exists.intro; refine ⟨fun _ => ?_, hK _ ?_⟩; (fail); clear hK K))); with_reducible refine wpCalm_nil ?_
        intro x2
        go_wp2
        go_ret
        exact ⟨ret_int HC.out.symm, by (repeat (first | exact Below.refl _ _ | assumption | refine Below.alloc ?_ (by (try simp [size_more]) <;> omega) _ | refine Below.setCell ?_ (by (try simp [size_more]) <;> omega) _ | refine below_more ?_ (by (try simp [size_more]) <;> omega) _ | refine below_row ?_ (by (try simp [size_more]) <;> omega) _ | refine Below.drew ?_))⟩
      · have HE := heq h
        have h1 : ¬ bitF X j < bitF Y j := by omega
        have h2 : ¬ bitF Y j < bitF X j := by omega
        clear hlt hgt heq h
        go_wp2
        refine region_all (by kernel_rfl) (by kernel_rfl) ?_
        (try simp only [List.take_succ_cons, List.take_zero, List.drop_succ_cons, List.drop_zero]); (repeat (refine wpCalm_step (fun K hK => ?_); go_simp; first | (refine hK _ ?_; clear hK K) | (apply Exists.intro; refine ⟨fun _ => ?_, hK _ ?_⟩; (fail); clear hK K))); with_reducible refine wpCalm_nil ?_
        intro x2
        go_wp2
        refine region_all (by kernel_rfl) (by kernel_rfl) ?_
        (try simp only [List.take_succ_cons, List.take_zero, List.drop_succ_cons, List.drop_zero]); (repeat (refine wpCalm_step (fun K hK => ?_); go_simp; first | (refine hK _ ?_; clear hK K) | (apply Exists.intro; refine ⟨fun _ => ?_, hK _ ?_⟩; (fail); clear hK K))); with_reducible refine wpCalm_nil ?_
        intro x3
        go_wp2
        go_roundw
        case rel => exact ⟨j, by omega, by go_num, HE, (later_refl _).more _⟩
        case measure => simp [intOf] <;> omega
      · have HC := hgt h
        have h1 : ¬ bitF X j < bitF Y j := by omega
        clear hlt hgt heq
        go_wp2
        refine region_all (by kernel_rfl) (by kernel_rfl) ?_
        (try simp only [List.take_succ_cons, List.take_zero, List.drop_succ_cons, List.drop_zero]); (repeat (refine wpCalm_step (fun K hK => ?_); go_simp; first | (refine hK _ ?_; clear hK K) | (apply Exists.intro; refine ⟨fun _ => ?_, hK _ ?_⟩; (fail); clear hK K))); with_reducible refine wpCalm_nil ?_
        intro x2
        go_wp2
        refine region_all (by kernel_rfl) (by kernel_rfl) ?_
        (try simp only [List.take_succ_cons, List.take_zero, List.drop_succ_cons, List.drop_zero]); (repeat (refine wpCalm_step (fun K hK => ?_); go_simp; first | (refine hK _ ?_; clear hK K) | (apply Exists.intro; refine ⟨fun _ => ?_, hK _ ?_⟩; (fail); clear hK K))); with_reducible refine wpCalm_nil ?_
        intro x3
        go_wp2
        go_ret
        exact ⟨ret_int HC.out.symm, by (repeat (first | exact Below.refl _ _ | assumption | refine Below.alloc ?_ (by (try simp [size_more]) <;> omega) _ | refine Below.setCell ?_ (by (try simp [size_more]) <;> omega) _ | refine below_more ?_ (by (try simp [size_more]) <;> omega) _ | refine below_row ?_ (by (try simp [size_more]) <;> omega) _ | refine Below.drew ?_))⟩
set_option maxRecDepth 100000 in
set_option maxHeartbeats 1000000 in
theorem ref02_Len (X : Int) (hX : U128 X) (w : World) :
    Calls Try.prog 24 #[.agg (Row .i64 128 (bitF X))] w fun e w' =>
      e = .returned (.int .i64 (lenI X)) ∧ Below w.heap.size w w' := by
  have hX' := hide hX
  clear hX
  go_enter Try.func24, Try.ntmps24
  go_wp2
  go_loopw [3] (fun i wr => ∃ k : Nat, k ≤ 128 ∧ i = .int .i64 ((k : Int) - 1) ∧ Hid (X / 2 ^ k = 0) ∧
      Later (w.alloc (.cells (Row .i64 128 (bitF X)) 25)) wr) (fun i _ => (intOf i + 1).toNat)
  case atStart =>
    have e : (2 : Int) ^ 128 = 340282366920938463463374607431768211456 := rfl
    refine ⟨128, by omega, by go_num, hide ?_, later_refl _⟩
    rw [Int.ediv_eq_zero_of_lt hX'.out.1 (by rw [e]; have := hX'.out.2; omega)]
  case round =>
    obtain ⟨k, hk, rfl, he, x, rfl⟩ := hrel
    obtain rfl | ⟨j, rfl⟩ : k = 0 ∨ ∃ j, k = j + 1 := by
      cases k with
      | zero => exact .inl rfl
      | succ j => exact .inr ⟨j, rfl⟩
    · have hc : lenI X = 0 := lenI_of ⟨by omega, he.out, fun j hj => absurd hj (by omega)⟩
      have HC := hide hc
      clear hc
      go_wp2
      go_ret
      exact ⟨ret_int (by rw [HC.out]; rfl), by (repeat (first | exact Below.refl _ _ | assumption | refine Below.alloc ?_ (by (try simp [size_more]) <;> omega) _ | refine Below.setCell ?_ (by (try simp [size_more]) <;> omega) _ | refine below_more ?_ (by (try simp [size_more]) <;> omega) _ | refine below_row ?_ (by (try simp [size_more]) <;> omega) _ | refine Below.drew ?_))⟩
    · have hx := bitF_split X j
      have h0 := he.out
      have hbx := bitF_01 X j
      have i1 : j < 128 := by omega
      by_cases h1 : bitF X j = 1
      · have hc : lenI X = j + 1 := lenI_of ⟨by omega, he.out, fun i hi => by
          intro hz
          have e : X / 2 ^ j = 0 := by
            rw [show j = i + (j - i) by omega, Int.pow_add, ← Int.ediv_ediv_of_nonneg (Int.le_of_lt (pow_pos' i)), hz]; simp
          omega⟩
        have HC := hide hc
        have ht : (bitF X j == 1) = true := by simp [h1]
        clear hc hx h0 h1
        go_wp2
        go_ret
        exact ⟨ret_int (by rw [HC.out]; simp), by (repeat (first | exact Below.refl _ _ | assumption | refine Below.alloc ?_ (by (try simp [size_more]) <;> omega) _ | refine Below.setCell ?_ (by (try simp [size_more]) <;> omega) _ | refine below_more ?_ (by (try simp [size_more]) <;> omega) _ | refine below_row ?_ (by (try simp [size_more]) <;> omega) _ | refine Below.drew ?_))⟩
      · have HE : Hid (X / 2 ^ j = 0) := hide (by omega)
        have ht : (bitF X j == 1) = false := by simp [h1]
        clear hx h0 h1
        go_wp2
        go_roundw
        case rel => exact ⟨j, by omega, by go_num, HE, (later_refl _).more _⟩
        case measure => simp [intOf] <;> omega
/-! ### Mul -/
theorem mod_bit (b : Int) (k : Nat) : b % 2 ^ (k + 1) = b % 2 ^ k + 2 ^ k * bitF b k := mod_pow_succ b k
theorem mulF_U128 (a b : Int) (ha : U64 a) (k : Nat) (hk : k ≤ 64) : U128 (a * (b % 2 ^ k)) := by
  have hp := pow_pos' k
  have h1 := Int.emod_nonneg b (show (2 : Int) ^ k ≠ 0 by omega)
  have h2 := Int.emod_lt_of_pos b hp
  have hs := pow_split k hk
  have hq := pow_pos' (64 - k)
  have h3 : (2 : Int) ^ k ≤ 18446744073709551616 := by
    rw [← hs]
    have := Int.mul_le_mul_of_nonneg_left (show (1 : Int) ≤ 2 ^ (64 - k) by omega) (Int.le_of_lt hp)
    omega
  refine ⟨Int.mul_nonneg ha.1 h1, ?_⟩
  have : a * (b % 2 ^ k) ≤ 18446744073709551615 * 18446744073709551615 := Int.mul_le_mul ha.2 (by omega) h1 (by omega)
  omega
theorem up_U128 (a : Int) (ha : U64 a) (k : Nat) (hk : k < 64) : U128 (a * 2 ^ k) := by
  have hp := pow_pos' k
  have hs := pow_split k (by omega)
  have hq := pow_pos' (64 - k)
  have h3 : (2 : Int) ^ k ≤ 18446744073709551616 := by
    rw [← hs]
    have := Int.mul_le_mul_of_nonneg_left (show (1 : Int) ≤ 2 ^ (64 - k) by omega) (Int.le_of_lt hp)
    omega
  refine ⟨Int.mul_nonneg ha.1 (Int.le_of_lt hp), ?_⟩
  have : a * 2 ^ k ≤ 18446744073709551615 * 18446744073709551616 := Int.mul_le_mul ha.2 h3 (Int.le_of_lt hp) (by omega)
  omega
theorem bitF_vU0 (a : Int) : vU 0 a = a := by unfold vU; omega
set_option maxRecDepth 100000 in
set_option maxHeartbeats 1000000 in
theorem ref02_Mul (a b : Int) (ha : U64 a) (hb : U64 b) (w : World) :
    Calls Try.prog 22 #[.int .u64 a, .int .u64 b] w fun e w' =>
      e = .returned (.agg (Row .i64 128 (bitF (a * b)))) ∧ Below w.heap.size w w' := by
  have hA : ∀ w, Calls Try.prog 27 #[.int .u64 0, .int .u64 a] w fun e w' => e = .returned (.agg (Row .i64 128 (bitF a))) ∧ Below w.heap.size w w' := fun w => by
    have h := ref02_Of 0 a ⟨by omega, by omega⟩ ha w
    rw [bitF_vU0] at h; exact h
  have hB : ∀ w, Calls Try.prog 27 #[.int .u64 0, .int .u64 b] w fun e w' => e = .returned (.agg (Row .i64 128 (bitF b))) ∧ Below w.heap.size w w' := fun w => by
    have h := ref02_Of 0 b ⟨by omega, by omega⟩ hb w
    rw [bitF_vU0] at h; exact h
  have HA := hide hA
  have HB := hide hB
  have ha' := hide ha
  have hb' := hide hb
  clear hA hB ha hb
  go_enter Try.func22, Try.ntmps22
  go_wp2_with fail
  refine (HA.out _).mono ?_
  rintro e w1 ⟨rfl, hbw⟩
  obtain ⟨x1, rfl⟩ := of_below hbw
  clear hbw
  go_wp2_with fail
  refine (HB.out _).mono ?_
  rintro e w1 ⟨rfl, hbw⟩
  obtain ⟨x2, rfl⟩ := of_below hbw
  clear hbw
  go_wp2_with fail
  go_loopw [8] (fun i wr => ∃ k : Nat, k ≤ 64 ∧ i = .int .i64 (k : Int) ∧
      Later ((((more ((more (w.alloc (.cells (Row .i64 128 (fun _ => 0)) 25)) x1).alloc (.cells (Row .i64 128 (bitF a)) 25)) x2).alloc (.cells (Row .i64 128 (bitF b)) 25)).alloc (.cells (Row .i64 128 (bitF (a * (b % 2 ^ k)))) 25))) wr) (fun i _ => 64 - (intOf i).toNat)
  case atStart =>
    have e : Row .i64 128 (bitF (a * (b % 2 ^ 0))) = Row .i64 128 (fun _ => 0) := row_ext fun j _ => by
      rw [Int.pow_zero, Int.emod_one, Int.mul_zero, bitF_zero]
    refine ⟨0, by omega, rfl, ?_⟩
    rw [e]
    exact later_refl _
  case round =>
    obtain ⟨k, hk, rfl, x, rfl⟩ := hrel
    by_cases hlt : k < 64
    · have hm := mod_bit b k
      have hbk := bitF_01 b k
      have hz := mulF_U128 a b ha'.out k (by omega)
      have hu := up_U128 a ha'.out k hlt
      have HU := hide (fun w => ref02_Up a k (by omega) w)
      have HAdd := hide (fun w => ref02_Add (a * (b % 2 ^ k)) (a * 2 ^ k) hz hu w)
      have i1 : k < 128 := by omega
      by_cases h1 : bitF b k = 1
      · have he : a * (b % 2 ^ (k + 1)) = a * (b % 2 ^ k) + a * 2 ^ k := by rw [hm, h1, Int.mul_one, Int.mul_add]
        have HE := hide he
        have ht : (bitF b k == 1) = true := by simp [h1]
        clear hm hz hu he h1
        go_wp2
        refine region_mix [.q, .q, .q, .q, .q, .q, .q, .f, .o] (by kernel_rfl) (by kernel_rfl) ?_; (repeat (first | (refine mix_q (fun K hK => ?_); go_simp; first | (refine hK _ _ ?_; clear hK K) | (apply Exists.intro; refine ⟨fun _ => ?_, ?_⟩; (first | (go_at_call 26; with_reducible exact quiet_back (HU.out _)) | (go_at_call 25; with_reducible exact quiet_back (HAdd.out _))); refine hK _ _ ?_; clear hK K)) | (refine mix_f rfl (fun K hK => ?_); go_simp; refine hK _ _ ?_; clear hK K) | (refine mix_a rfl rfl (by intro ρ w'; go_simp; rfl) ?_; go_simp) | refine mix_s rfl rfl rfl rfl (by simp) rfl (by simp) (by kernel_rfl) (by first | exact row_size | rfl) (by go_simp) ?_ | refine mix_o 128 rfl rfl rfl rfl rfl (by go_simp) (by kernel_rfl) (by first | exact row_size | rfl) (by go_simp) ?_)); refine mix_end ?_; intro adr w0 w' hB hM; obtain rfl := base_old hB rfl; clear hB; obtain ⟨xw, rfl⟩ := made_quiet hM; simp only [List.nil_append, List.cons_append, finMix]; clear hM
        go_wp2
        go_roundw
        case rel =>
          refine ⟨k + 1, by omega, by go_num, ?_⟩
          rw [HE.out]
          exact (later_refl _).more _
        case measure => simp [intOf] <;> omega
      · have he : a * (b % 2 ^ (k + 1)) = a * (b % 2 ^ k) := by rw [hm, show bitF b k = 0 by omega, Int.mul_zero, Int.add_zero]
        have HE := hide he
        have ht : (bitF b k == 1) = false := by simp [h1]
        clear hm hz hu he h1
        go_wp2
        go_roundw
        case rel =>
          refine ⟨k + 1, by omega, by go_num, ?_⟩
          rw [HE.out]
          exact (later_refl _).more _
        case measure => simp [intOf] <;> omega
    · have hrow : b % 2 ^ k = b := by
        rw [show k = 64 by omega]
        exact Int.emod_eq_of_lt hb'.out.1 (by have e : (2 : Int) ^ 64 = 18446744073709551616 := rfl
                                              rw [e]; have := hb'.out.2; omega)
      rw [hrow]
      clear hrow
      go_wp2
      exact ret_row _ w.heap.size 128 _ Try.results22 rfl rfl Try.underlying25 rfl (by kernel_rfl) (by simp [go_sem]) (by simp [go_sem]; try rfl) ⟨rfl, by (repeat (first | exact Below.refl _ _ | assumption | refine Below.alloc ?_ (by (try simp [size_more]) <;> omega) _ | refine Below.setCell ?_ (by (try simp [size_more]) <;> omega) _ | refine below_more ?_ (by (try simp [size_more]) <;> omega) _ | refine below_row ?_ (by (try simp [size_more]) <;> omega) _ | refine Below.drew ?_))⟩
/-- The document's bits of a number of 128 bits. -/
theorem law02_bits (h l : Int) (hh : U64 h) (hl : U64 l) (w : World) :
    Calls Try.prog 20 #[.agg #[.int .u64 h, .int .u64 l]] w fun e w' =>
      e = .returned (.agg (Row .i64 128 (bitF (vU h l)))) ∧ Below w.heap.size w w' := by
  have HO := hide (fun w => ref02_Of h l hh hl w)
  go_enter Try.func20, Try.ntmps20
  go_wp2_with fail
  refine (HO.out _).mono ?_
  rintro e w1 ⟨rfl, hbw⟩
  obtain ⟨x1, rfl⟩ := of_below hbw
  clear hbw
  go_wp2
  exact ret_row _ (w.heap.size + 1) 128 _ Try.results20 rfl rfl Try.underlying25 rfl (by kernel_rfl) (by simp [go_sem]) (by simp [go_sem]; try rfl) ⟨rfl, by (repeat (first | exact Below.refl _ _ | assumption | refine Below.alloc ?_ (by (try simp [size_more]) <;> omega) _ | refine Below.setCell ?_ (by (try simp [size_more]) <;> omega) _ | refine below_more ?_ (by (try simp [size_more]) <;> omega) _ | refine below_row ?_ (by (try simp [size_more]) <;> omega) _ | refine Below.drew ?_))⟩
end Go.Proofs.Ytbpadfmdjgjjlaa
