/- The walks of package wide, but for its loops. -/
import Derived.Test.YtbpadfmdjgjjlaaNum
set_option linter.unusedSimpArgs false
set_option linter.unusedVariables false
namespace Go.Proofs.Ytbpadfmdjgjjlaa
open Go.RowKit
theorem wide_Mul (a b : Int) (ha : U64 a) (hb : U64 b) (w : World) :
    Calls Try.prog 21 #[.int .u64 a, .int .u64 b] w fun e w' =>
      e = .returned (.agg #[.int .u64 (hiU (a * b)), .int .u64 (loU (a * b))]) ∧ Below w.heap.size w w' := by
  have hm := hide (mul_plain a b ha hb)
  obtain ⟨h1, h2⟩ := ha
  obtain ⟨h3, h4⟩ := hb
  go_enter Try.func21, Try.ntmps21
  go_wp2
  refine bodyPost_ret (v := .agg #[.int .u64 (hiU (a * b)), .int .u64 (loU (a * b))]) ?_ rfl ⟨rfl, ?_⟩
  · simp [results, Try.results21, go_sem]
    exact hm.out
  · (repeat (first | exact Below.refl _ _ | assumption | refine Below.alloc ?_ (by (try simp [size_more]) <;> omega) _ | refine Below.setCell ?_ (by (try simp [size_more]) <;> omega) _ | refine below_more ?_ (by (try simp [size_more]) <;> omega) _ | refine below_row ?_ (by (try simp [size_more]) <;> omega) _ | refine Below.drew ?_))
theorem over_plain (xh xl yh yl : Int) (h1 : U64 xh) (h2 : U64 xl) (h3 : U64 yh) (h4 : U64 yl) (h : IntKind.u64.wrap (xl + yl) < xl) :
    (decide (IntKind.u64.wrap (xh + yh) < xh) || IntKind.u64.wrap (IntKind.u64.wrap (xh + yh) + 1) == 0) = decide (340282366920938463463374607431768211456 ≤ vU xh xl + vU yh yl) := by
  obtain ⟨h11, h12⟩ := h1
  obtain ⟨h21, h22⟩ := h2
  obtain ⟨h31, h32⟩ := h3
  obtain ⟨h41, h42⟩ := h4
  rw [uwrap_of] at h
  rw [uwrap_of, uwrap_of, vU, vU, Bool.eq_iff_iff]
  simp only [Bool.or_eq_true, decide_eq_true_eq, beq_iff_eq]
  omega
theorem wide_Add (xh xl yh yl : Int) (h1 : U64 xh) (h2 : U64 xl) (h3 : U64 yh) (h4 : U64 yl) (w : World) :
    Calls Try.prog 34 #[.agg #[.int .u64 xh, .int .u64 xl], .agg #[.int .u64 yh, .int .u64 yl]] w fun e w' =>
      e = .returned (.tuple #[.agg #[.int .u64 (hiU ((vU xh xl + vU yh yl) % 340282366920938463463374607431768211456)), .int .u64 (loU ((vU xh xl + vU yh yl) % 340282366920938463463374607431768211456))],
        .bool (decide (340282366920938463463374607431768211456 ≤ vU xh xl + vU yh yl))]) ∧ Below w.heap.size w w' := by
  have H := hide (over_plain xh xl yh yl h1 h2 h3 h4)
  obtain ⟨h11, h12⟩ := h1
  obtain ⟨h21, h22⟩ := h2
  obtain ⟨h31, h32⟩ := h3
  obtain ⟨h41, h42⟩ := h4
  go_enter Try.func34, Try.ntmps34
  go_wp2
  all_goals
    refine bodyPost_ret (v := .tuple #[.agg #[.int .u64 (hiU ((vU xh xl + vU yh yl) % 340282366920938463463374607431768211456)), .int .u64 (loU ((vU xh xl + vU yh yl) % 340282366920938463463374607431768211456))],
        .bool (decide (340282366920938463463374607431768211456 ≤ vU xh xl + vU yh yl))]) ?_ rfl ⟨rfl, ?_⟩
    · simp [results, Try.results34, go_sem]
      refine ⟨⟨?_, ?_⟩, ?_⟩
      · simp only [uwrap_of, hiU, loU, vU] at *; omega
      · simp only [uwrap_of, hiU, loU, vU] at *; omega
      · first | exact H.out ‹_› | (simp only [uwrap_of, vU] at *; first | omega | (rw [Bool.eq_iff_iff]; simp only [decide_eq_true_eq]; omega))
    · (repeat (first | exact Below.refl _ _ | assumption | refine Below.alloc ?_ (by (try simp [size_more]) <;> omega) _ | refine Below.setCell ?_ (by (try simp [size_more]) <;> omega) _ | refine below_more ?_ (by (try simp [size_more]) <;> omega) _ | refine below_row ?_ (by (try simp [size_more]) <;> omega) _ | refine Below.drew ?_))
theorem wide_Cmp (xh xl yh yl : Int) (h1 : U64 xh) (h2 : U64 xl) (h3 : U64 yh) (h4 : U64 yl) (w : World) :
    Calls Try.prog 36 #[.agg #[.int .u64 xh, .int .u64 xl], .agg #[.int .u64 yh, .int .u64 yl]] w fun e w' =>
      e = .returned (.int .i64 (cmpI (vU xh xl) (vU yh yl))) ∧ Below w.heap.size w w' := by
  obtain ⟨h11, h12⟩ := h1
  obtain ⟨h21, h22⟩ := h2
  obtain ⟨h31, h32⟩ := h3
  obtain ⟨h41, h42⟩ := h4
  by_cases he : [xh, xl] = [yh, yl]
  · have hq := eqs_yes he
    have hv : vU xh xl = vU yh yl := by simp at he; rw [he.1, he.2]
    clear he
    go_enter Try.func36, Try.ntmps36
    go_wp2
    go_ret
    exact ⟨ret_int (cmpI_eq hv).symm, by (repeat (first | exact Below.refl _ _ | assumption | refine Below.alloc ?_ (by (try simp [size_more]) <;> omega) _ | refine Below.setCell ?_ (by (try simp [size_more]) <;> omega) _ | refine below_more ?_ (by (try simp [size_more]) <;> omega) _ | refine below_row ?_ (by (try simp [size_more]) <;> omega) _ | refine Below.drew ?_))⟩
  · have hq := eqs_no he
    have hne : ¬ (xh = yh ∧ xl = yl) := fun h => he (by rw [h.1, h.2])
    clear he
    go_enter Try.func36, Try.ntmps36
    go_wp2
    all_goals
      go_ret
      refine ⟨ret_int ?_, by (repeat (first | exact Below.refl _ _ | assumption | refine Below.alloc ?_ (by (try simp [size_more]) <;> omega) _ | refine Below.setCell ?_ (by (try simp [size_more]) <;> omega) _ | refine below_more ?_ (by (try simp [size_more]) <;> omega) _ | refine below_row ?_ (by (try simp [size_more]) <;> omega) _ | refine Below.drew ?_))⟩
      first | exact (cmpI_lt (by unfold vU; omega)).symm | exact (cmpI_gt (by unfold vU; omega)).symm
theorem wide_Sub (xh xl yh yl : Int) (h1 : U64 xh) (h2 : U64 xl) (h3 : U64 yh) (h4 : U64 yl) (w : World) :
    Calls Try.prog 35 #[.agg #[.int .u64 xh, .int .u64 xl], .agg #[.int .u64 yh, .int .u64 yl]] w fun e w' =>
      e = .returned (.tuple #[.agg #[.int .u64 (hiU ((vU xh xl - vU yh yl) % 340282366920938463463374607431768211456)), .int .u64 (loU ((vU xh xl - vU yh yl) % 340282366920938463463374607431768211456))],
        .bool (decide (vU xh xl < vU yh yl))]) ∧ Below w.heap.size w w' := by
  have hc := fun w => wide_Cmp xh xl yh yl h1 h2 h3 h4 w
  have HC := hide hc
  clear hc
  obtain ⟨h11, h12⟩ := h1
  obtain ⟨h21, h22⟩ := h2
  obtain ⟨h31, h32⟩ := h3
  obtain ⟨h41, h42⟩ := h4
  go_enter Try.func35, Try.ntmps35
  go_wp2_with fail
  all_goals
    refine region_late (w.heap.size + 1 + 1) 5 2 (by kernel_rfl) (by kernel_rfl) (c0 := #[.int .u64 0, .int .u64 0]) (t := 28) (by simp [blk_at, blk_past, blk_more, blk_drew, go_sem]) rfl ?_
    (repeat (first | (refine wpLate_step rfl (fun K hK => ?_); go_simp; first | (refine hK _ ?_; clear hK K) | (apply Exists.intro; refine ⟨fun _ _ => ?_, hK _ ?_⟩; (go_at_call 36; exact quiet_back (HC.out _)); clear hK K)) | refine wpLate_store rfl rfl rfl rfl rfl rfl (by first | exact row_size | rfl) (by first | exact row_one | kernel_rfl) (by kernel_rfl) ?_)); with_reducible refine wpLate_nil ?_
    intro x
    go_wp2
    refine bodyPost_ret (v := .tuple #[.agg #[.int .u64 (hiU ((vU xh xl - vU yh yl) % 340282366920938463463374607431768211456)), .int .u64 (loU ((vU xh xl - vU yh yl) % 340282366920938463463374607431768211456))],
        .bool (decide (vU xh xl < vU yh yl))]) ?_ rfl ⟨rfl, ?_⟩
    · simp [results, Try.results35, go_sem]
      refine ⟨⟨?_, ?_⟩, ?_⟩
      · simp only [uwrap_of, hiU, loU, vU] at *; omega
      · simp only [uwrap_of, hiU, loU, vU] at *; omega
      · exact cmpI_neg _ _
    · (repeat (first | exact Below.refl _ _ | assumption | refine Below.alloc ?_ (by (try simp [size_more]) <;> omega) _ | refine Below.setCell ?_ (by (try simp [size_more]) <;> omega) _ | refine below_more ?_ (by (try simp [size_more]) <;> omega) _ | refine below_row ?_ (by (try simp [size_more]) <;> omega) _ | refine Below.drew ?_))
theorem wide_Shr (h l n : Int) (hh : U64 h) (hl : U64 l) (hn : I64 n) (w : World) :
    Calls Try.prog 32 #[.agg #[.int .u64 h, .int .u64 l], .int .i64 n] w fun e w' =>
      e = .returned (.agg #[.int .u64 (hiU (vU h l / 2 ^ n.toNat)), .int .u64 (loU (vU h l / 2 ^ n.toNat))]) ∧ Below w.heap.size w w' := by
  have hh' := hide hh
  have hl' := hide hl
  obtain ⟨h1, h2⟩ := hh
  obtain ⟨h3, h4⟩ := hl
  obtain ⟨h5, h6⟩ := hn
  go_enter Try.func32, Try.ntmps32
  go_wp2
  all_goals
    refine bodyPost_ret (v := .agg #[.int .u64 (hiU (vU h l / 2 ^ n.toNat)), .int .u64 (loU (vU h l / 2 ^ n.toNat))]) ?_ rfl ⟨rfl, ?_⟩
    · simp [results, Try.results32, go_sem]
      first
        | (rw [show n.toNat = 0 by omega, Int.pow_zero, Int.ediv_one, hiU_v hl'.out, loU_v hl'.out]; exact ⟨rfl, rfl⟩)
        | (rw [show (n - 64).toNat = n.toNat - 64 by omega, (shr_far h l n.toNat (by omega) hh'.out hl'.out).1, (shr_far h l n.toNat (by omega) hh'.out hl'.out).2]; exact ⟨rfl, rfl⟩)
        | (rw [show (64 - n).toNat = 64 - n.toNat by omega, shr_lo h l n.toNat (by omega) (by omega) hh'.out hl'.out]; exact ⟨shr_hi h l n.toNat (by omega) hl'.out, rfl⟩)
    · (repeat (first | exact Below.refl _ _ | assumption | refine Below.alloc ?_ (by (try simp [size_more]) <;> omega) _ | refine Below.setCell ?_ (by (try simp [size_more]) <;> omega) _ | refine below_more ?_ (by (try simp [size_more]) <;> omega) _ | refine below_row ?_ (by (try simp [size_more]) <;> omega) _ | refine Below.drew ?_))
theorem wide_Shl (h l n : Int) (hh : U64 h) (hl : U64 l) (hn : I64 n) (w : World) :
    Calls Try.prog 31 #[.agg #[.int .u64 h, .int .u64 l], .int .i64 n] w fun e w' =>
      e = .returned (.agg #[.int .u64 (hiU (vU h l * 2 ^ n.toNat % 340282366920938463463374607431768211456)), .int .u64 (loU (vU h l * 2 ^ n.toNat % 340282366920938463463374607431768211456))]) ∧ Below w.heap.size w w' := by
  have hh' := hide hh
  have hl' := hide hl
  have h128 := hide (vU_128 hh hl)
  obtain ⟨h1, h2⟩ := hh
  obtain ⟨h3, h4⟩ := hl
  obtain ⟨h5, h6⟩ := hn
  go_enter Try.func31, Try.ntmps31
  go_wp2
  all_goals
    refine bodyPost_ret (v := .agg #[.int .u64 (hiU (vU h l * 2 ^ n.toNat % 340282366920938463463374607431768211456)), .int .u64 (loU (vU h l * 2 ^ n.toNat % 340282366920938463463374607431768211456))]) ?_ rfl ⟨rfl, ?_⟩
    · simp [results, Try.results31, go_sem]
      first
        | (rw [show n.toNat = 0 by omega, Int.pow_zero, Int.mul_one, Int.emod_eq_of_lt h128.out.1 (by have := h128.out.2; omega), hiU_v hl'.out, loU_v hl'.out]; exact ⟨rfl, rfl⟩)
        | (rw [show (n - 64).toNat = n.toNat - 64 by omega, (shl_far h l n.toNat (by omega)).1, (shl_far h l n.toNat (by omega)).2]; exact ⟨rfl, rfl⟩)
        | (rw [show (64 - n).toNat = 64 - n.toNat by omega, shl_hi h l n.toNat (by omega) (by omega) hh'.out hl'.out]; exact ⟨rfl, shl_lo h l n.toNat⟩)
    · (repeat (first | exact Below.refl _ _ | assumption | refine Below.alloc ?_ (by (try simp [size_more]) <;> omega) _ | refine Below.setCell ?_ (by (try simp [size_more]) <;> omega) _ | refine below_more ?_ (by (try simp [size_more]) <;> omega) _ | refine below_row ?_ (by (try simp [size_more]) <;> omega) _ | refine Below.drew ?_))
end Go.Proofs.Ytbpadfmdjgjjlaa
