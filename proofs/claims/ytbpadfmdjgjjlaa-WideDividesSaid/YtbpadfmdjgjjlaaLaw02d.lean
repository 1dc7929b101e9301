/- The law of layer 2 on divisions: it returns true. -/
import Derived.Test.YtbpadfmdjgjjlaaLaw02c
set_option linter.unusedSimpArgs false
set_option linter.unusedVariables false
namespace Go.Proofs.Ytbpadfmdjgjjlaa
open Go.RowKit
theorem isLen_least (X : Int) : ∀ m : Nat, X / 2 ^ m = 0 → ∃ n, n ≤ m ∧ X / 2 ^ n = 0 ∧ ∀ j, j < n → X / 2 ^ j ≠ 0 := by
  intro m
  induction m with
  | zero => intro h; exact ⟨0, Nat.le_refl 0, h, fun j hj => absurd hj (Nat.not_lt_zero j)⟩
  | succ m ih =>
    intro h
    by_cases hm : X / 2 ^ m = 0
    · obtain ⟨n, h1, h2⟩ := ih hm
      exact ⟨n, by omega, h2⟩
    · by_cases hall : ∀ j, j < m + 1 → X / 2 ^ j ≠ 0
      · exact ⟨m + 1, Nat.le_refl _, h, hall⟩
      · simp only [Classical.not_forall, Classical.not_imp, Classical.not_not] at hall
        obtain ⟨j, hj, h0⟩ := hall
        exfalso
        apply hm
        have hp : (2 : Int) ^ m = 2 ^ j * 2 ^ (m - j) := by rw [← Int.pow_add]; congr 1; omega
        rw [hp, ← Int.ediv_ediv_of_nonneg (Int.le_of_lt (pow_pos' j)), h0, Int.zero_ediv]
theorem lenI_le (X : Int) (n : Nat) (hn : n ≤ 128) (h : X / 2 ^ n = 0) : lenI X ≤ n := by
  obtain ⟨m, h1, h2, h3⟩ := isLen_least X n h
  rw [lenI_of (n := m) ⟨by omega, h2, h3⟩]
  exact h1
theorem ovf_zero {S : Int} (h : U128 S) : ovf S = 0 := by
  obtain ⟨a, b⟩ := h
  unfold ovf
  omega
theorem div_parts (X d : Int) (hX : U128 X) (hd : U64 d) (h0 : 0 < d) :
    U64 (hiU (X / d)) ∧ U64 (loU (X / d)) ∧ U128 (loU (X / d) * d) ∧ U128 (hiU (X / d) * d * 2 ^ 64) ∧ loU (X / d) * d + hiU (X / d) * d * 2 ^ 64 = X / d * d ∧
    U128 (hiU (X / d) * d) ∧ hiU (X / d) * d / 2 ^ 64 = 0 ∧ U128 (X / d * d) ∧ U64 (X % d) ∧ X / d * d + X % d = X ∧ X % d < d := by
  obtain ⟨x1, x2⟩ := hX
  obtain ⟨d1, d2⟩ := hd
  have hm := Int.ediv_mul_add_emod X d
  have hr0 := Int.emod_nonneg X (show d ≠ 0 by omega)
  have hr1 := Int.emod_lt_of_pos X h0
  have hq0 : 0 ≤ X / d := Int.ediv_nonneg x1 d1
  have hqX : X / d ≤ X := Int.ediv_le_self d x1
  have hv := vU_hilo (X / d)
  have hl := loU_64 (X / d)
  have hh := hiU_64 (x := X / d) ⟨hq0, by omega⟩
  generalize X / d = q at *
  generalize X % d = r at *
  generalize hiU q = a at *
  generalize loU q = b at *
  have e : b * d + a * d * 2 ^ 64 = q * d := by
    rw [← hv]
    unfold vU
    rw [Int.add_mul, show (2 : Int) ^ 64 = 18446744073709551616 by rfl, Int.mul_assoc a d, Int.mul_comm d, ← Int.mul_assoc, Int.add_comm]
  have hbd := Int.mul_nonneg hl.1 d1
  have had := Int.mul_nonneg hh.1 d1
  have e64 : (2 : Int) ^ 64 = 18446744073709551616 := by rfl
  rw [e64] at *
  generalize b * d = bd at *
  generalize a * d = ad at *
  generalize q * d = qd at *
  exact ⟨hh, hl, ⟨hbd, by omega⟩, ⟨by omega, by omega⟩, e, ⟨had, by omega⟩, by omega, ⟨by omega, by omega⟩, ⟨hr0, by omega⟩, hm, hr1⟩
set_option maxHeartbeats 2000000 in
theorem law02_WideDivides (h l d : Int) (hh : U64 h) (hl : U64 l) (hd : U64 d) (w : World) :
    Calls Try.prog 4 #[.agg #[.int .u64 h, .int .u64 l], .int .u64 d] w fun e w' => e = .returned (.bool true) ∧ Below w.heap.size w w' := by
  have HAn := hide (fun w => law02_anchor w)
  by_cases h0 : d = 0
  · subst h0
    have HD := hide (fun w => wide_Div0 h l hh hl w)
    have he := eqs_yes (l := [0, 0]) rfl
    clear hh hl hd
    go_enter Try.func4, Try.ntmps4
    go_wp2_with (first | (go_at_call 19; with_reducible refine (HAn.out _).mono ?_; rintro e w1 ⟨rfl, hbw⟩; obtain ⟨xw, rfl⟩ := of_below hbw; clear hbw) | (go_at_call 23; with_reducible refine (HD.out _).mono ?_; rintro e w1 ⟨rfl, hbw⟩; obtain ⟨xw, rfl⟩ := of_below hbw; clear hbw))
    (refine bodyPost_ret (v := .bool true) ?_ rfl ⟨rfl, by (repeat (first | exact Below.refl _ _ | assumption | refine Below.alloc ?_ (by (try simp [size_more]) <;> omega) _ | refine Below.setCell ?_ (by (try simp [size_more]) <;> omega) _ | refine below_more ?_ (by (try simp [size_more]) <;> omega) _ | refine below_row ?_ (by (try simp [size_more]) <;> omega) _ | refine Below.drew ?_))⟩; simp [results, Try.results4, go_sem])
  · have hX := vU_128 hh hl
    have hpos : 0 < d := by have := hd.1; omega
    have hD := fun w => wide_Div h l d hh hl hd hpos w
    have HB := hide (fun w => law02_bits h l hh hl w)
    generalize vU h l = X at *
    obtain ⟨p1, p2, p3, p4, p5, p6, p7, p8, p9, p10, p11⟩ := div_parts X d hX hd hpos
    have HM1 := hide (fun w => ref02_Mul (loU (X / d)) d p2 hd w)
    have HM2 := hide (fun w => ref02_Mul (hiU (X / d)) d p1 hd w)
    have hLe := lenI_le _ 64 (by omega) p7
    have HL := hide (fun w => ref02_Len (hiU (X / d) * d) p6 w)
    have HU : Hid (∀ w, Calls Try.prog 26 #[.agg (Row .i64 128 (bitF (hiU (X / d) * d))), .int .i64 64] w fun e w' => e = .returned (.agg (Row .i64 128 (bitF (hiU (X / d) * d * 2 ^ 64)))) ∧ Below w.heap.size w w') := hide (fun w => ref02_Up (hiU (X / d) * d) 64 (by omega) w)
    have hA1 := fun w => ref02_Add (loU (X / d) * d) (hiU (X / d) * d * 2 ^ 64) p3 p4 w
    rw [p5, ovf_zero p8] at hA1
    have HA1 := hide hA1
    have hO := fun w => ref02_Of 0 (X % d) ⟨by omega, by omega⟩ p9 w
    rw [bitF_vU0] at hO
    have HO := hide hO
    have hr128 : U128 (X % d) := ⟨p9.1, by have := p9.2; omega⟩
    have hA2 := fun w => ref02_Add (X / d * d) (X % d) p8 hr128 w
    rw [p10, ovf_zero hX] at hA2
    have HA2 := hide hA2
    have hd0 : (d == 0) = false := by simp [h0]
    have hz : IntKind.i64.wrap 0 = 0 := by rfl
    have hrd : decide (d ≤ X % d) = false := by simp; omega
    have hl64 : decide ((64 : Int) < ((lenI (hiU (X / d) * d) : Nat) : Int)) = false := by simp; omega
    have HD := hide hD
    clear hh hl hd h0 hX hpos hD p1 p2 p3 p4 p5 p6 p7 p8 p9 p10 p11 hLe hA1 hO hr128 hA2
    generalize hiU (X / d) * d * 2 ^ 64 = up at *
    generalize ((lenI (hiU (X / d) * d) : Nat) : Int) = len at *
    generalize X % d = r at *
    generalize X / d = q at *
    go_enter Try.func4, Try.ntmps4
    go_wp2_with (first | (go_at_call 19; with_reducible refine (HAn.out _).mono ?_; rintro e w1 ⟨rfl, hbw⟩; obtain ⟨xw, rfl⟩ := of_below hbw; clear hbw) | (go_at_call 23; with_reducible refine (HD.out _).mono ?_; rintro e w1 ⟨rfl, hbw⟩; obtain ⟨xw, rfl⟩ := of_below hbw; clear hbw) | (go_at_call 22; with_reducible refine (HM1.out _).mono ?_; rintro e w1 ⟨rfl, hbw⟩; obtain ⟨xw, rfl⟩ := of_below hbw; clear hbw) | (go_at_call 22; with_reducible refine (HM2.out _).mono ?_; rintro e w1 ⟨rfl, hbw⟩; obtain ⟨xw, rfl⟩ := of_below hbw; clear hbw) | (go_at_call 24; with_reducible refine (HL.out _).mono ?_; rintro e w1 ⟨rfl, hbw⟩; obtain ⟨xw, rfl⟩ := of_below hbw; clear hbw))
    refine region_mix [.q, .q, .q, .q, .q, .q, .q, .a, .s 7, .q] (by kernel_rfl) (by kernel_rfl) ?_; (repeat (first | (refine mix_q (fun K hK => ?_); go_simp; first | (refine hK _ _ ?_; clear hK K) | (apply Exists.intro; refine ⟨fun _ => ?_, ?_⟩; (first | (go_at_call 26; with_reducible exact quiet_back (HU.out _)) | (go_at_call 25; with_reducible exact quiet_back (HA1.out _))); refine hK _ _ ?_; clear hK K)) | (refine mix_f rfl (fun K hK => ?_); go_simp; refine hK _ _ ?_; clear hK K) | (refine mix_a rfl rfl (by intro ρ w'; go_simp; rfl) ?_; go_simp) | refine mix_s rfl rfl rfl rfl (by simp) rfl (by simp) (by kernel_rfl) (by first | exact row_size | rfl) (by go_simp) ?_)); refine mix_end ?_; intro adr w0 w' hB hM; obtain rfl := base_none hB rfl; clear hB; obtain ⟨x1, x2, rfl, hadr⟩ := made_one (i := 7) (k := 8) hM rfl rfl; simp only [List.nil_append, List.cons_append, finMix, hadr]; clear hM hadr; try go_simp
    go_wp2
    refine region_mix [.q, .q, .q, .q, .q, .q, .q, .a, .s 7, .q] (by kernel_rfl) (by kernel_rfl) ?_; (repeat (first | (refine mix_q (fun K hK => ?_); go_simp; first | (refine hK _ _ ?_; clear hK K) | (apply Exists.intro; refine ⟨fun _ => ?_, ?_⟩; (first | (go_at_call 27; with_reducible exact quiet_back (HO.out _)) | (go_at_call 25; with_reducible exact quiet_back (HA2.out _))); refine hK _ _ ?_; clear hK K)) | (refine mix_f rfl (fun K hK => ?_); go_simp; refine hK _ _ ?_; clear hK K) | (refine mix_a rfl rfl (by intro ρ w'; go_simp; rfl) ?_; go_simp) | refine mix_s rfl rfl rfl rfl (by simp) rfl (by simp) (by kernel_rfl) (by first | exact row_size | rfl) (by go_simp) ?_)); refine mix_end ?_; intro adr w0 w' hB hM; obtain rfl := base_none hB rfl; clear hB; obtain ⟨x3, x4, rfl, hadr⟩ := made_one (i := 7) (k := 8) hM rfl rfl; simp only [List.nil_append, List.cons_append, finMix, hadr]; clear hM hadr; try go_simp
    go_wp2
    refine region_all (by kernel_rfl) (by kernel_rfl) ?_; (try simp only [List.take_succ_cons, List.take_zero, List.drop_succ_cons, List.drop_zero]); (repeat (refine wpCalm_step (fun K hK => ?_); go_simp; first | (refine hK _ ?_; clear hK K) | (apply Exists.intro; refine ⟨fun _ => ?_, hK _ ?_⟩; (first | (go_at_call 20; with_reducible exact quiet_back (HB.out _))); clear hK K))); with_reducible refine wpCalm_nil ?_; intro x5
    go_wp2
    (refine bodyPost_ret (v := .bool true) ?_ rfl ⟨rfl, by (repeat (first | exact Below.refl _ _ | assumption | refine Below.alloc ?_ (by (try simp [size_more]) <;> omega) _ | refine Below.setCell ?_ (by (try simp [size_more]) <;> omega) _ | refine below_more ?_ (by (try simp [size_more]) <;> omega) _ | refine below_row ?_ (by (try simp [size_more]) <;> omega) _ | refine Below.drew ?_))⟩; simp [results, Try.results4, go_sem])
end Go.Proofs.Ytbpadfmdjgjjlaa
