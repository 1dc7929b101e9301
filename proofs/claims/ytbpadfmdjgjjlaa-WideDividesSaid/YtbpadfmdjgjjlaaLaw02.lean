/- The laws of layer 2: each returns true. -/
import Derived.Test.YtbpadfmdjgjjlaaRef02
set_option linter.unusedSimpArgs false
set_option linter.unusedVariables false
namespace Go.Proofs.Ytbpadfmdjgjjlaa
open Go.RowKit
theorem mul_U128 {a b : Int} (ha : U64 a) (hb : U64 b) : U128 (a * b) := by
  obtain ⟨a1, a2⟩ := ha
  obtain ⟨b1, b2⟩ := hb
  refine ⟨Int.mul_nonneg a1 b1, Int.le_trans (Int.mul_le_mul a2 b2 b1 (by omega)) (by omega)⟩
theorem bitsX (X : Int) (hX : U128 X) (w : World) :
    Calls Try.prog 20 #[.agg #[.int .u64 (hiU X), .int .u64 (loU X)]] w fun e w' =>
      e = .returned (.agg (Row .i64 128 (bitF X))) ∧ Below w.heap.size w w' := by
  have h := law02_bits (hiU X) (loU X) (hiU_64 hX) (loU_64 X) w
  rw [vU_hilo] at h
  exact h
theorem anchor_div (w : World) :
    Calls Try.prog 23 #[.agg #[.int .u64 1, .int .u64 0], .int .u64 3] w fun e w' =>
      e = .returned (.tuple #[.agg #[.int .u64 0, .int .u64 6148914691236517205], .int .u64 1, .int .i64 0]) ∧ Below w.heap.size w w' := by
  have h := wide_Div 1 0 3 ⟨by omega, by omega⟩ ⟨by omega, by omega⟩ ⟨by omega, by omega⟩ (by omega) w
  rw [show hiU (vU 1 0 / 3) = 0 by rfl, show loU (vU 1 0 / 3) = 6148914691236517205 by rfl, show vU 1 0 % 3 = 1 by rfl] at h
  exact h
theorem anchor_root (w : World) :
    Calls Try.prog 28 #[.agg #[.int .u64 1, .int .u64 0]] w fun e w' =>
      e = .returned (.int .u64 4294967296) ∧ Below w.heap.size w w' := by
  refine (wide_Root 1 0 ⟨by omega, by omega⟩ ⟨by omega, by omega⟩ w).mono ?_
  rintro e w' ⟨⟨rfl, hr, h0⟩, hb⟩
  refine ⟨?_, hb⟩
  rw [hr.uniq (s := 4294967296) ⟨by omega, by unfold vU; omega, by unfold vU; omega⟩]
theorem law02_anchor (w : World) :
    Calls Try.prog 19 #[] w fun e w' => e = .returned (.bool true) ∧ Below w.heap.size w w' := by
  have HD := hide (fun w => anchor_div w)
  have HR := hide (fun w => anchor_root w)
  have he : eqs [0, 6148914691236517205] [0, 6148914691236517205] = true := eqs_yes rfl
  go_enter Try.func19, Try.ntmps19
  go_wp2_with (first | (go_at_call 23; with_reducible refine (HD.out _).mono ?_; rintro e w1 ⟨rfl, hbw⟩; obtain ⟨xw, rfl⟩ := of_below hbw; clear hbw) | (go_at_call 28; with_reducible refine (HR.out _).mono ?_; rintro e w1 ⟨rfl, hbw⟩; obtain ⟨xw, rfl⟩ := of_below hbw; clear hbw))
  (refine bodyPost_ret (v := .bool true) ?_ rfl ⟨rfl, by (repeat (first | exact Below.refl _ _ | assumption | refine Below.alloc ?_ (by (try simp [size_more]) <;> omega) _ | refine Below.setCell ?_ (by (try simp [size_more]) <;> omega) _ | refine below_more ?_ (by (try simp [size_more]) <;> omega) _ | refine below_row ?_ (by (try simp [size_more]) <;> omega) _ | refine Below.drew ?_))⟩; simp [results, Try.results19, go_sem])
theorem law02_WideProducts (a b : Int) (ha : U64 a) (hb : U64 b) (w : World) :
    Calls Try.prog 3 #[.int .u64 a, .int .u64 b] w fun e w' => e = .returned (.bool true) ∧ Below w.heap.size w w' := by
  have HAn := hide (fun w => law02_anchor w)
  have HM := hide (fun w => wide_Mul a b ha hb w)
  have HB := hide (fun w => bitsX (a * b) (mul_U128 ha hb) w)
  have HR := hide (fun w => ref02_Mul a b ha hb w)
  clear ha hb
  go_enter Try.func3, Try.ntmps3
  go_wp2_with (first | (go_at_call 19; with_reducible refine (HAn.out _).mono ?_; rintro e w1 ⟨rfl, hbw⟩; obtain ⟨xw, rfl⟩ := of_below hbw; clear hbw) | (go_at_call 21; with_reducible refine (HM.out _).mono ?_; rintro e w1 ⟨rfl, hbw⟩; obtain ⟨xw, rfl⟩ := of_below hbw; clear hbw) | (go_at_call 20; with_reducible refine (HB.out _).mono ?_; rintro e w1 ⟨rfl, hbw⟩; obtain ⟨xw, rfl⟩ := of_below hbw; clear hbw) | (go_at_call 22; with_reducible refine (HR.out _).mono ?_; rintro e w1 ⟨rfl, hbw⟩; obtain ⟨xw, rfl⟩ := of_below hbw; clear hbw))
  (refine bodyPost_ret (v := .bool true) ?_ rfl ⟨rfl, by (repeat (first | exact Below.refl _ _ | assumption | refine Below.alloc ?_ (by (try simp [size_more]) <;> omega) _ | refine Below.setCell ?_ (by (try simp [size_more]) <;> omega) _ | refine below_more ?_ (by (try simp [size_more]) <;> omega) _ | refine below_row ?_ (by (try simp [size_more]) <;> omega) _ | refine Below.drew ?_))⟩; simp [results, Try.results3, go_sem])
theorem succ_U64 {r : Int} (h : U64 r) (hne : r ≠ 18446744073709551615) : U64 (r + 1) := ⟨by have := h.1; omega, by have := h.2; omega⟩
set_option maxHeartbeats 1000000 in
theorem law02_WideRoots (h l : Int) (hh : U64 h) (hl : U64 l) (w : World) :
    Calls Try.prog 5 #[.agg #[.int .u64 h, .int .u64 l]] w fun e w' => e = .returned (.bool true) ∧ Below w.heap.size w w' := by
  have HAn := hide (fun w => law02_anchor w)
  have HRt := hide (fun w => wide_Root h l hh hl w)
  have HB := hide (fun w => law02_bits h l hh hl w)
  have h128 := hide (vU_128 hh hl)
  clear hh hl
  go_enter Try.func5, Try.ntmps5
  go_wp2_with (first | (go_at_call 19; with_reducible refine (HAn.out _).mono ?_; rintro e w1 ⟨rfl, hbw⟩; obtain ⟨xw, rfl⟩ := of_below hbw; clear hbw) | (go_at_call 28; refine (HRt.out _).mono ?_; rintro e w1 ⟨⟨rfl, hr, hr64⟩, hbw⟩; obtain ⟨xw, rfl⟩ := of_below hbw; clear hbw))
  generalize rootI (vU h l) = r at *
  obtain ⟨hr0, hr1, hr2⟩ := hr
  have HM := hide (fun w => ref02_Mul r r hr64 hr64 w)
  have HC := hide (fun w => ref02_Cmp (r * r) (vU h l) (mul_U128 hr64 hr64) h128.out w)
  have hc : decide (0 < cmpI (r * r) (vU h l)) = false := by
    rw [decide_eq_false_iff_not, cmpI_pos]; omega
  clear hr1
  refine region_all (by kernel_rfl) (by kernel_rfl) ?_; (try simp only [List.take_succ_cons, List.take_zero, List.drop_succ_cons, List.drop_zero]); (repeat (refine wpCalm_step (fun K hK => ?_); go_simp; first | (refine hK _ ?_; clear hK K) | (apply Exists.intro; refine ⟨fun _ => ?_, hK _ ?_⟩; (first | (go_at_call 22; with_reducible exact quiet_back (HM.out _)) | (go_at_call 20; with_reducible exact quiet_back (HB.out _)) | (go_at_call 29; with_reducible exact quiet_back (HC.out _))); clear hK K))); with_reducible refine wpCalm_nil ?_; intro x1
  go_wp2
  by_cases hlast : r = 18446744073709551615
  · have heq : (r == 18446744073709551615) = true := by simp [hlast]
    clear hlast hr2
    refine region_all (by kernel_rfl) (by kernel_rfl) ?_; (try simp only [List.take_succ_cons, List.take_zero, List.drop_succ_cons, List.drop_zero]); (repeat (refine wpCalm_step (fun K hK => ?_); go_simp; first | (refine hK _ ?_; clear hK K) | (apply Exists.intro; refine ⟨fun _ => ?_, hK _ ?_⟩; (fail); clear hK K))); with_reducible refine wpCalm_nil ?_; intro x2
    go_wp2
    (refine bodyPost_ret (v := .bool true) ?_ rfl ⟨rfl, by (repeat (first | exact Below.refl _ _ | assumption | refine Below.alloc ?_ (by (try simp [size_more]) <;> omega) _ | refine Below.setCell ?_ (by (try simp [size_more]) <;> omega) _ | refine below_more ?_ (by (try simp [size_more]) <;> omega) _ | refine below_row ?_ (by (try simp [size_more]) <;> omega) _ | refine Below.drew ?_))⟩; simp [results, Try.results5, go_sem])
  · have hs64 := succ_U64 hr64 hlast
    have hne : (r == 18446744073709551615) = false := by simp [hlast]
    have hw : IntKind.u64.wrap (r + 1) = r + 1 := by rw [uwrap_of]; have := hs64.1; have := hs64.2; omega
    have HM2 := hide (fun w => ref02_Mul (r + 1) (r + 1) hs64 hs64 w)
    have HC2 := hide (fun w => ref02_Cmp ((r + 1) * (r + 1)) (vU h l) (mul_U128 hs64 hs64) h128.out w)
    have hc2 : decide (0 < cmpI ((r + 1) * (r + 1)) (vU h l)) = true := by
      rw [decide_eq_true_iff, cmpI_pos]; omega
    clear hr2
    refine region_all (by kernel_rfl) (by kernel_rfl) ?_; (try simp only [List.take_succ_cons, List.take_zero, List.drop_succ_cons, List.drop_zero]); (repeat (refine wpCalm_step (fun K hK => ?_); go_simp; first | (refine hK _ ?_; clear hK K) | (apply Exists.intro; refine ⟨fun _ => ?_, hK _ ?_⟩; (first | (go_at_call 22; with_reducible exact quiet_back (HM2.out _)) | (go_at_call 20; with_reducible exact quiet_back (HB.out _)) | (go_at_call 29; with_reducible exact quiet_back (HC2.out _))); clear hK K))); with_reducible refine wpCalm_nil ?_; intro x2
    go_wp2
    (refine bodyPost_ret (v := .bool true) ?_ rfl ⟨rfl, by (repeat (first | exact Below.refl _ _ | assumption | refine Below.alloc ?_ (by (try simp [size_more]) <;> omega) _ | refine Below.setCell ?_ (by (try simp [size_more]) <;> omega) _ | refine below_more ?_ (by (try simp [size_more]) <;> omega) _ | refine below_row ?_ (by (try simp [size_more]) <;> omega) _ | refine Below.drew ?_))⟩; simp [results, Try.results5, go_sem])
theorem root_mul (a : Int) (ha : U64 a) (w : World) :
    Calls Try.prog 28 #[.agg #[.int .u64 (hiU (a * a)), .int .u64 (loU (a * a))]] w fun e w' =>
      e = .returned (.int .u64 a) ∧ Below w.heap.size w w' := by
  refine (wide_Root (hiU (a * a)) (loU (a * a)) (hiU_64 (mul_U128 ha ha)) (loU_64 (a * a)) w).mono ?_
  rintro e w' ⟨⟨rfl, hr, h0⟩, hb⟩
  refine ⟨?_, hb⟩
  rw [vU_hilo] at hr ⊢
  rw [hr.uniq (s := a) ⟨ha.1, Int.le_refl _, ?_⟩]
  have := ha.1
  rw [Int.add_mul, Int.mul_add]
  omega
theorem div_mul (a b : Int) (ha : U64 a) (hb : U64 b) (h0 : 0 < b) (w : World) :
    Calls Try.prog 23 #[.agg #[.int .u64 (hiU (a * b)), .int .u64 (loU (a * b))], .int .u64 b] w fun e w' =>
      e = .returned (.tuple #[.agg #[.int .u64 0, .int .u64 a], .int .u64 0, .int .i64 0]) ∧ Below w.heap.size w w' := by
  have h := wide_Div (hiU (a * b)) (loU (a * b)) b (hiU_64 (mul_U128 ha hb)) (loU_64 (a * b)) hb h0 w
  rw [vU_hilo, Int.mul_ediv_cancel a (by omega), Int.mul_emod_left, show hiU a = 0 by have := ha.1; have := ha.2; unfold hiU; omega, show loU a = a by have := ha.1; have := ha.2; unfold loU; omega] at h
  exact h
set_option maxHeartbeats 1000000 in
theorem law02_WideBack (a b : Int) (ha : U64 a) (hb : U64 b) (w : World) :
    Calls Try.prog 6 #[.int .u64 a, .int .u64 b] w fun e w' => e = .returned (.bool true) ∧ Below w.heap.size w w' := by
  have HAn := hide (fun w => law02_anchor w)
  have HM := hide (fun w => wide_Mul a b ha hb w)
  have HM2 := hide (fun w => wide_Mul a a ha ha w)
  have HM3 : Hid (∀ w, Calls Try.prog 21 #[.int .u64 b, .int .u64 a] w fun e w' =>
      e = .returned (.agg #[.int .u64 (hiU (a * b)), .int .u64 (loU (a * b))]) ∧ Below w.heap.size w w') := hide fun w => by
    have h := wide_Mul b a hb ha w
    rw [Int.mul_comm b a] at h
    exact h
  have HRt := hide (fun w => root_mul a ha w)
  have hpe := eqs_yes (l := [hiU (a * b), loU (a * b)]) rfl
  have hp0 : b = 0 → eqs [hiU (a * b), loU (a * b)] [0, 0] = true := fun h => by rw [h, Int.mul_zero]; rfl
  have hqe := eqs_yes (l := [0, a]) rfl
  have haa : (a == a) = true := by simp
  by_cases h0 : b = 0
  · have hp0' := hp0 h0
    have hb0 : (b == 0) = true := by simp [h0]
    clear hp0 h0 ha hb
    go_enter Try.func6, Try.ntmps6
    go_wp2_with (first | (go_at_call 19; with_reducible refine (HAn.out _).mono ?_; rintro e w1 ⟨rfl, hbw⟩; obtain ⟨xw, rfl⟩ := of_below hbw; clear hbw) | (go_at_call 21; with_reducible refine (HM.out _).mono ?_; rintro e w1 ⟨rfl, hbw⟩; obtain ⟨xw, rfl⟩ := of_below hbw; clear hbw))
    refine region_all (by kernel_rfl) (by kernel_rfl) ?_; (try simp only [List.take_succ_cons, List.take_zero, List.drop_succ_cons, List.drop_zero]); (repeat (refine wpCalm_step (fun K hK => ?_); go_simp; first | (refine hK _ ?_; clear hK K) | (apply Exists.intro; refine ⟨fun _ => ?_, hK _ ?_⟩; (first | (go_at_call 21; with_reducible exact quiet_back (HM2.out _)) | (go_at_call 21; with_reducible exact quiet_back (HM3.out _)) | (go_at_call 28; with_reducible exact quiet_back (HRt.out _))); clear hK K))); with_reducible refine wpCalm_nil ?_; intro x1
    go_wp2
    (refine bodyPost_ret (v := .bool true) ?_ rfl ⟨rfl, by (repeat (first | exact Below.refl _ _ | assumption | refine Below.alloc ?_ (by (try simp [size_more]) <;> omega) _ | refine Below.setCell ?_ (by (try simp [size_more]) <;> omega) _ | refine below_more ?_ (by (try simp [size_more]) <;> omega) _ | refine below_row ?_ (by (try simp [size_more]) <;> omega) _ | refine Below.drew ?_))⟩; simp [results, Try.results6, go_sem])
  · have hb0 : (b == 0) = false := by simp [h0]
    have HD := hide (fun w => div_mul a b ha hb (by have := hb.1; omega) w)
    clear hp0 h0 ha hb
    go_enter Try.func6, Try.ntmps6
    go_wp2_with (first | (go_at_call 19; with_reducible refine (HAn.out _).mono ?_; rintro e w1 ⟨rfl, hbw⟩; obtain ⟨xw, rfl⟩ := of_below hbw; clear hbw) | (go_at_call 21; with_reducible refine (HM.out _).mono ?_; rintro e w1 ⟨rfl, hbw⟩; obtain ⟨xw, rfl⟩ := of_below hbw; clear hbw))
    refine region_all (by kernel_rfl) (by kernel_rfl) ?_; (try simp only [List.take_succ_cons, List.take_zero, List.drop_succ_cons, List.drop_zero]); (repeat (refine wpCalm_step (fun K hK => ?_); go_simp; first | (refine hK _ ?_; clear hK K) | (apply Exists.intro; refine ⟨fun _ => ?_, hK _ ?_⟩; (first | (go_at_call 21; with_reducible exact quiet_back (HM2.out _)) | (go_at_call 21; with_reducible exact quiet_back (HM3.out _)) | (go_at_call 28; with_reducible exact quiet_back (HRt.out _))); clear hK K))); with_reducible refine wpCalm_nil ?_; intro x1
    go_wp2_with (first | (go_at_call 23; with_reducible refine (HD.out _).mono ?_; rintro e w1 ⟨rfl, hbw⟩; obtain ⟨xw, rfl⟩ := of_below hbw; clear hbw))
    (refine bodyPost_ret (v := .bool true) ?_ rfl ⟨rfl, by (repeat (first | exact Below.refl _ _ | assumption | refine Below.alloc ?_ (by (try simp [size_more]) <;> omega) _ | refine Below.setCell ?_ (by (try simp [size_more]) <;> omega) _ | refine below_more ?_ (by (try simp [size_more]) <;> omega) _ | refine below_row ?_ (by (try simp [size_more]) <;> omega) _ | refine Below.drew ?_))⟩; simp [results, Try.results6, go_sem])
end Go.Proofs.Ytbpadfmdjgjjlaa
