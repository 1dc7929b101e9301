/- The laws of layer 2 on sums and divisions: each returns true. -/
import Derived.Test.YtbpadfmdjgjjlaaLaw02b
set_option linter.unusedSimpArgs false
set_option linter.unusedVariables false
namespace Go.Proofs.Ytbpadfmdjgjjlaa
open Go.RowKit
/-- What the sum of two numbers carries. -/
theorem ovf_sum (X Y : Int) (hX : U128 X) (hY : U128 Y) : (ovf (X + Y) == 1) = decide (340282366920938463463374607431768211456 ≤ X + Y) := by
  obtain ⟨a, b⟩ := hX
  obtain ⟨c, d⟩ := hY
  unfold ovf
  by_cases h : 340282366920938463463374607431768211456 ≤ X + Y
  · rw [decide_eq_true h, beq_iff_eq]; omega
  · rw [decide_eq_false h, beq_eq_false_iff_ne]; omega
theorem cmp_below (X Y : Int) : decide (cmpI X Y < 0) = decide (X < Y) := decide_eq_decide.2 (cmpI_neg X Y)
set_option maxHeartbeats 2000000 in
theorem law02_WideSums (xh xl yh yl : Int) (h1 : U64 xh) (h2 : U64 xl) (h3 : U64 yh) (h4 : U64 yl) (w : World) :
    Calls Try.prog 8 #[.agg #[.int .u64 xh, .int .u64 xl], .agg #[.int .u64 yh, .int .u64 yl]] w fun e w' => e = .returned (.bool true) ∧ Below w.heap.size w w' := by
  have hX := vU_128 h1 h2
  have hY := vU_128 h3 h4
  have HAn := hide (fun w => law02_anchor w)
  have HBX := hide (fun w => law02_bits xh xl h1 h2 w)
  have HBY := hide (fun w => law02_bits yh yl h3 h4 w)
  have hA := fun w => wide_Add xh xl yh yl h1 h2 h3 h4 w
  have hS := fun w => wide_Sub xh xl yh yl h1 h2 h3 h4 w
  have hC := fun w => wide_Cmp xh xl yh yl h1 h2 h3 h4 w
  generalize vU xh xl = X at *
  generalize vU yh yl = Y at *
  have HBA := hide (fun w => bitsM (X + Y) w)
  have HBD := hide (fun w => bitsX _ (mod_U128 (X - Y)) w)
  have HRA := hide (fun w => ref02_Add X Y hX hY w)
  have hRB := fun w => ref02_Add _ Y (mod_U128 (X - Y)) hY w
  rw [row_cong (X := (X - Y) % 340282366920938463463374607431768211456 + Y) (Y := X) (by omega)] at hRB
  have HRC := hide (fun w => ref02_Cmp X Y hX hY w)
  have ho := ovf_sum X Y hX hY
  have hb := cmp_below X Y
  generalize ovf (X + Y) = ov at *
  generalize decide (340282366920938463463374607431768211456 ≤ X + Y) = over at *
  generalize decide (X < Y) = below at *
  generalize (X - Y) % 340282366920938463463374607431768211456 = D at *
  generalize ovf (D + Y) = oD at *
  generalize cmpI X Y = c at *
  have HA := hide hA
  have HS := hide hS
  have HC := hide hC
  have HRB := hide hRB
  clear h1 h2 h3 h4 hX hY hA hS hC hRB
  go_enter Try.func8, Try.ntmps8
  go_wp2_with (first | (go_at_call 19; with_reducible refine (HAn.out _).mono ?_; rintro e w1 ⟨rfl, hbw⟩; obtain ⟨xw, rfl⟩ := of_below hbw; clear hbw) | (go_at_call 34; with_reducible refine (HA.out _).mono ?_; rintro e w1 ⟨rfl, hbw⟩; obtain ⟨xw, rfl⟩ := of_below hbw; clear hbw))
  refine region_mix [.q, .q, .q, .q, .q, .q, .q, .q, .a, .s 8, .q] (by kernel_rfl) (by kernel_rfl) ?_; (repeat (first | (refine mix_q (fun K hK => ?_); go_simp; first | (refine hK _ _ ?_; clear hK K) | (apply Exists.intro; refine ⟨fun _ => ?_, ?_⟩; (first | (go_at_call 20; with_reducible exact quiet_back (HBX.out _)) | (go_at_call 20; with_reducible exact quiet_back (HBY.out _)) | (go_at_call 25; with_reducible exact quiet_back (HRA.out _))); refine hK _ _ ?_; clear hK K)) | (refine mix_f rfl (fun K hK => ?_); go_simp; refine hK _ _ ?_; clear hK K) | (refine mix_a rfl rfl (by intro ρ w'; go_simp; rfl) ?_; go_simp) | refine mix_s rfl rfl rfl rfl (by simp) rfl (by simp) (by kernel_rfl) (by first | exact row_size | rfl) (by go_simp) ?_)); refine mix_end ?_; intro adr w0 w' hB hM; obtain rfl := base_none hB rfl; clear hB; obtain ⟨x1, x2, rfl, hadr⟩ := made_one (i := 8) (k := 9) hM rfl rfl; simp only [List.nil_append, List.cons_append, finMix, hadr]; clear hM hadr; try go_simp
  go_wp2_with (first | (go_at_call 35; with_reducible refine (HS.out _).mono ?_; rintro e w1 ⟨rfl, hbw⟩; obtain ⟨xw, rfl⟩ := of_below hbw; clear hbw))
  refine region_mix [.q, .q, .q, .q, .q, .q, .q, .q, .a, .s 8, .q] (by kernel_rfl) (by kernel_rfl) ?_; (repeat (first | (refine mix_q (fun K hK => ?_); go_simp; first | (refine hK _ _ ?_; clear hK K) | (apply Exists.intro; refine ⟨fun _ => ?_, ?_⟩; (first | (go_at_call 20; with_reducible exact quiet_back (HBD.out _)) | (go_at_call 20; with_reducible exact quiet_back (HBY.out _)) | (go_at_call 25; with_reducible exact quiet_back (HRB.out _))); refine hK _ _ ?_; clear hK K)) | (refine mix_f rfl (fun K hK => ?_); go_simp; refine hK _ _ ?_; clear hK K) | (refine mix_a rfl rfl (by intro ρ w'; go_simp; rfl) ?_; go_simp) | refine mix_s rfl rfl rfl rfl (by simp) rfl (by simp) (by kernel_rfl) (by first | exact row_size | rfl) (by go_simp) ?_)); refine mix_end ?_; intro adr w0 w' hB hM; obtain rfl := base_none hB rfl; clear hB; obtain ⟨x3, x4, rfl, hadr⟩ := made_one (i := 8) (k := 9) hM rfl rfl; simp only [List.nil_append, List.cons_append, finMix, hadr]; clear hM hadr; try go_simp
  go_wp2
  refine region_all (by kernel_rfl) (by kernel_rfl) ?_; (try simp only [List.take_succ_cons, List.take_zero, List.drop_succ_cons, List.drop_zero]); (repeat (refine wpCalm_step (fun K hK => ?_); go_simp; first | (refine hK _ ?_; clear hK K) | (apply Exists.intro; refine ⟨fun _ => ?_, hK _ ?_⟩; (first | (go_at_call 20; with_reducible exact quiet_back (HBX.out _)) | (go_at_call 20; with_reducible exact quiet_back (HBY.out _)) | (go_at_call 29; with_reducible exact quiet_back (HRC.out _))); clear hK K))); with_reducible refine wpCalm_nil ?_; intro x5
  go_wp2
  refine region_all (by kernel_rfl) (by kernel_rfl) ?_; (try simp only [List.take_succ_cons, List.take_zero, List.drop_succ_cons, List.drop_zero]); (repeat (refine wpCalm_step (fun K hK => ?_); go_simp; first | (refine hK _ ?_; clear hK K) | (apply Exists.intro; refine ⟨fun _ => ?_, hK _ ?_⟩; (first | (go_at_call 20; with_reducible exact quiet_back (HBA.out _)) | (go_at_call 20; with_reducible exact quiet_back (HBX.out _)) | (go_at_call 36; with_reducible exact quiet_back (HC.out _))); clear hK K))); with_reducible refine wpCalm_nil ?_; intro x6
  go_wp2
  (refine bodyPost_ret (v := .bool true) ?_ rfl ⟨rfl, by (repeat (first | exact Below.refl _ _ | assumption | refine Below.alloc ?_ (by (try simp [size_more]) <;> omega) _ | refine Below.setCell ?_ (by (try simp [size_more]) <;> omega) _ | refine below_more ?_ (by (try simp [size_more]) <;> omega) _ | refine below_row ?_ (by (try simp [size_more]) <;> omega) _ | refine Below.drew ?_))⟩; simp [results, Try.results8, go_sem])
end Go.Proofs.Ytbpadfmdjgjjlaa
