/- The laws of layer 2 on shifts, sums and divisions: each returns true. -/
import Derived.Test.YtbpadfmdjgjjlaaLaw02
set_option linter.unusedSimpArgs false
set_option linter.unusedVariables false
namespace Go.Proofs.Ytbpadfmdjgjjlaa
open Go.RowKit
theorem bitF_mod (Y : Int) (j : Nat) (hj : j < 128) : bitF (Y % 340282366920938463463374607431768211456) j = bitF Y j := by
  unfold bitF
  have hp : (2 : Int) ^ 128 = 2 ^ j * (2 * 2 ^ (127 - j)) := by
    rw [← Int.pow_succ', ← Int.pow_add]
    congr 1
    omega
  have hm : (340282366920938463463374607431768211456 : Int) = 2 ^ j * (2 * 2 ^ (127 - j)) := by rw [← hp]; rfl
  have h1 := Int.mul_ediv_add_emod Y 340282366920938463463374607431768211456
  have hpos := pow_pos' j
  generalize Y % 340282366920938463463374607431768211456 = r at *
  generalize Y / 340282366920938463463374607431768211456 = q at *
  rw [← h1, hm, Int.mul_assoc, Int.add_comm, Int.add_mul_ediv_left _ _ (by omega), Int.mul_assoc]
  generalize 2 ^ (127 - j) * q = c
  omega
theorem row_mod (Y : Int) : Row .i64 128 (bitF (Y % 340282366920938463463374607431768211456)) = Row .i64 128 (bitF Y) := row_ext fun j hj => bitF_mod Y j hj
theorem row_cong {X Y : Int} (h : X % 340282366920938463463374607431768211456 = Y % 340282366920938463463374607431768211456) : Row .i64 128 (bitF X) = Row .i64 128 (bitF Y) := by
  rw [← row_mod X, h, row_mod]
theorem mod_U128 (Y : Int) : U128 (Y % 340282366920938463463374607431768211456) := ⟨by omega, by omega⟩
/-- The bits of a number that is taken modulo 2^128. -/
theorem bitsM (Y : Int) (w : World) :
    Calls Try.prog 20 #[.agg #[.int .u64 (hiU (Y % 340282366920938463463374607431768211456)), .int .u64 (loU (Y % 340282366920938463463374607431768211456))]] w fun e w' =>
      e = .returned (.agg (Row .i64 128 (bitF Y))) ∧ Below w.heap.size w w' := by
  have h := bitsX _ (mod_U128 Y) w
  rw [row_mod] at h
  exact h
theorem len_plain (h l : Int) (hh : U64 h) (hl : U64 l) (w : World) :
    Calls Try.prog 30 #[.agg #[.int .u64 h, .int .u64 l]] w fun e w' => e = .returned (.int .i64 (lenI (vU h l))) ∧ Below w.heap.size w w' :=
  (wide_Len h l hh hl w).mono fun _ _ ⟨⟨he, _⟩, hb⟩ => ⟨he, hb⟩
set_option maxHeartbeats 2000000 in
theorem law02_WideShifts (h l n : Int) (hh : U64 h) (hl : U64 l) (hn : I64 n) (w : World) :
    Calls Try.prog 7 #[.agg #[.int .u64 h, .int .u64 l], .int .i64 n] w fun e w' => e = .returned (.bool true) ∧ Below w.heap.size w w' := by
  have HAn := hide (fun w => law02_anchor w)
  have HB := hide (fun w => law02_bits h l hh hl w)
  have h128 := vU_128 hh hl
  have HL := hide (fun w => len_plain h l hh hl w)
  have HRL := hide (fun w => ref02_Len (vU h l) h128 w)
  by_cases h0 : n ≤ 0
  · have hS : Hid (∀ w, Calls Try.prog 31 #[.agg #[.int .u64 h, .int .u64 l], .int .i64 n] w fun e w' => e = .returned (.agg #[.int .u64 h, .int .u64 l]) ∧ Below w.heap.size w w') := hide fun w => by
      have hc := wide_Shl h l n hh hl hn w
      rw [show n.toNat = 0 by omega, Int.pow_zero, Int.mul_one, Int.emod_eq_of_lt h128.1 (by have := h128.2; omega), hiU_v hl, loU_v hl] at hc
      exact hc
    have hR : Hid (∀ w, Calls Try.prog 32 #[.agg #[.int .u64 h, .int .u64 l], .int .i64 n] w fun e w' => e = .returned (.agg #[.int .u64 h, .int .u64 l]) ∧ Below w.heap.size w w') := hide fun w => by
      have hc := wide_Shr h l n hh hl hn w
      rw [show n.toNat = 0 by omega, Int.pow_zero, Int.ediv_one, hiU_v hl, loU_v hl] at hc
      exact hc
    have he := eqs_yes (l := [h, l]) rfl
    have hle : decide (n ≤ 0) = true := by simp [h0]
    clear hh hl hn h128 h0
    go_enter Try.func7, Try.ntmps7
    go_wp2_with (first | (go_at_call 19; with_reducible refine (HAn.out _).mono ?_; rintro e w1 ⟨rfl, hbw⟩; obtain ⟨xw, rfl⟩ := of_below hbw; clear hbw))
    refine region_all (by kernel_rfl) (by kernel_rfl) ?_; (try simp only [List.take_succ_cons, List.take_zero, List.drop_succ_cons, List.drop_zero]); (repeat (refine wpCalm_step (fun K hK => ?_); go_simp; first | (refine hK _ ?_; clear hK K) | (apply Exists.intro; refine ⟨fun _ => ?_, hK _ ?_⟩; (first | (go_at_call 30; with_reducible exact quiet_back (HL.out _)) | (go_at_call 20; with_reducible exact quiet_back (HB.out _)) | (go_at_call 24; with_reducible exact quiet_back (HRL.out _))); clear hK K))); with_reducible refine wpCalm_nil ?_; intro x1
    go_wp2
    refine region_all (by kernel_rfl) (by kernel_rfl) ?_; (try simp only [List.take_succ_cons, List.take_zero, List.drop_succ_cons, List.drop_zero]); (repeat (refine wpCalm_step (fun K hK => ?_); go_simp; first | (refine hK _ ?_; clear hK K) | (apply Exists.intro; refine ⟨fun _ => ?_, hK _ ?_⟩; (first | (go_at_call 31; with_reducible exact quiet_back (hS.out _)) | (go_at_call 32; with_reducible exact quiet_back (hR.out _))); clear hK K))); with_reducible refine wpCalm_nil ?_; intro x2
    go_wp2
    (refine bodyPost_ret (v := .bool true) ?_ rfl ⟨rfl, by (repeat (first | exact Below.refl _ _ | assumption | refine Below.alloc ?_ (by (try simp [size_more]) <;> omega) _ | refine Below.setCell ?_ (by (try simp [size_more]) <;> omega) _ | refine below_more ?_ (by (try simp [size_more]) <;> omega) _ | refine below_row ?_ (by (try simp [size_more]) <;> omega) _ | refine Below.drew ?_))⟩; simp [results, Try.results7, go_sem])
  · have hnk : ((n.toNat : Nat) : Int) = n := by omega
    have hk : n.toNat ≤ 9223372036854775807 := by have := hn.2; omega
    have hS1 := fun w => wide_Shl h l n hh hl hn w
    have hR1 := fun w => wide_Shr h l n hh hl hn w
    have hU1 := fun w => ref02_Up (vU h l) n.toNat hk w
    have hD1 := fun w => ref02_Down (vU h l) h128 n.toNat hk w
    rw [hnk] at hU1 hD1
    clear hnk
    generalize n.toNat = k at *
    have hS := hide hS1
    have hR := hide hR1
    have HBS := hide (fun w => bitsM (vU h l * 2 ^ k) w)
    have HBR := hide (fun w => bitsX (vU h l / 2 ^ k) ⟨Int.ediv_nonneg h128.1 (Int.le_of_lt (pow_pos' k)), Int.le_trans (Int.ediv_le_self _ h128.1) h128.2⟩ w)
    have HU := hide hU1
    have HD := hide hD1
    have hle : decide (n ≤ 0) = false := by simp at h0 ⊢; omega
    clear hh hl hn h128 h0 hk hS1 hR1 hU1 hD1
    go_enter Try.func7, Try.ntmps7
    go_wp2_with (first | (go_at_call 19; with_reducible refine (HAn.out _).mono ?_; rintro e w1 ⟨rfl, hbw⟩; obtain ⟨xw, rfl⟩ := of_below hbw; clear hbw))
    refine region_all (by kernel_rfl) (by kernel_rfl) ?_; (try simp only [List.take_succ_cons, List.take_zero, List.drop_succ_cons, List.drop_zero]); (repeat (refine wpCalm_step (fun K hK => ?_); go_simp; first | (refine hK _ ?_; clear hK K) | (apply Exists.intro; refine ⟨fun _ => ?_, hK _ ?_⟩; (first | (go_at_call 30; with_reducible exact quiet_back (HL.out _)) | (go_at_call 20; with_reducible exact quiet_back (HB.out _)) | (go_at_call 24; with_reducible exact quiet_back (HRL.out _))); clear hK K))); with_reducible refine wpCalm_nil ?_; intro x1
    go_wp2
    refine region_all (by kernel_rfl) (by kernel_rfl) ?_; (try simp only [List.take_succ_cons, List.take_zero, List.drop_succ_cons, List.drop_zero]); (repeat (refine wpCalm_step (fun K hK => ?_); go_simp; first | (refine hK _ ?_; clear hK K) | (apply Exists.intro; refine ⟨fun _ => ?_, hK _ ?_⟩; (first | (go_at_call 31; with_reducible exact quiet_back (hS.out _)) | (go_at_call 32; with_reducible exact quiet_back (hR.out _)) | (go_at_call 20; with_reducible exact quiet_back (HB.out _)) | (go_at_call 20; with_reducible exact quiet_back (HBS.out _)) | (go_at_call 20; with_reducible exact quiet_back (HBR.out _)) | (go_at_call 26; with_reducible exact quiet_back (HU.out _)) | (go_at_call 33; with_reducible exact quiet_back (HD.out _))); clear hK K))); with_reducible refine wpCalm_nil ?_; intro x2
    go_wp2
    (refine bodyPost_ret (v := .bool true) ?_ rfl ⟨rfl, by (repeat (first | exact Below.refl _ _ | assumption | refine Below.alloc ?_ (by (try simp [size_more]) <;> omega) _ | refine Below.setCell ?_ (by (try simp [size_more]) <;> omega) _ | refine below_more ?_ (by (try simp [size_more]) <;> omega) _ | refine below_row ?_ (by (try simp [size_more]) <;> omega) _ | refine Below.drew ?_))⟩; simp [results, Try.results7, go_sem])
end Go.Proofs.Ytbpadfmdjgjjlaa
