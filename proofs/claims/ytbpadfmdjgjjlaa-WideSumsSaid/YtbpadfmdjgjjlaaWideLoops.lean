/- The walks of package wide: its loops. -/
import Derived.Test.YtbpadfmdjgjjlaaWide
set_option linter.unusedSimpArgs false
set_option linter.unusedVariables false
namespace Go.Proofs.Ytbpadfmdjgjjlaa
open Go.RowKit
theorem shl_one (r : Int) (h : 0 ≤ r ∧ r ≤ 170141183460469231731687303715884105727) (w : World) :
    Calls Try.prog 31 #[.agg #[.int .u64 (hiU r), .int .u64 (loU r)], .int .i64 1] w fun e w' =>
      e = .returned (.agg #[.int .u64 (hiU (2 * r)), .int .u64 (loU (2 * r))]) ∧ Below w.heap.size w w' := by
  have hc := wide_Shl (hiU r) (loU r) 1 (hiU_64 ⟨h.1, by omega⟩) (loU_64 r) ⟨by omega, by omega⟩ w
  rw [vU_hilo, show r * 2 ^ (1 : Int).toNat % 340282366920938463463374607431768211456 = 2 * r by
    rw [show (2 : Int) ^ (1 : Int).toNat = 2 from rfl]; omega] at hc
  exact hc
theorem cmp_lo (r d : Int) (h : U128 r) (hd : U64 d) (w : World) :
    Calls Try.prog 36 #[.agg #[.int .u64 (hiU r), .int .u64 (loU r)], .agg #[.int .u64 0, .int .u64 d]] w fun e w' =>
      e = .returned (.int .i64 (cmpI r d)) ∧ Below w.heap.size w w' := by
  have hc := wide_Cmp (hiU r) (loU r) 0 d (hiU_64 h) (loU_64 r) ⟨by omega, by omega⟩ hd w
  rw [vU_hilo, show vU 0 d = d by unfold vU; omega] at hc
  exact hc
theorem sub_lo (r d : Int) (h : U128 r) (hd : U64 d) (hdr : d ≤ r) (w : World) :
    Calls Try.prog 35 #[.agg #[.int .u64 (hiU r), .int .u64 (loU r)], .agg #[.int .u64 0, .int .u64 d]] w fun e w' =>
      e = .returned (.tuple #[.agg #[.int .u64 (hiU (r - d)), .int .u64 (loU (r - d))], .bool false]) ∧ Below w.heap.size w w' := by
  have hc := wide_Sub (hiU r) (loU r) 0 d (hiU_64 h) (loU_64 r) ⟨by omega, by omega⟩ hd w
  have h1 := h.1; have h2 := h.2; have h3 := hd.1
  rw [vU_hilo, show vU 0 d = d by unfold vU; omega, show (r - d) % 340282366920938463463374607431768211456 = r - d by omega, show decide (r < d) = false by simp; omega] at hc
  exact hc
theorem or_one (q : Int) : bits .or .u64 (loU (2 * q)) 1 = loU (2 * q + 1) := by
  rw [or_join (loU (2 * q)) 1 1 (loU_64 _).1 (loU_64 _).2 (by unfold loU; omega) (by omega) (by omega) (by omega)]
  unfold loU; omega
theorem and_one (x : Int) (h : U64 x) : bits .and .u64 x 1 = x % 2 := by
  rw [u64_and x 1 h.1 (by have := h.2; omega) (by omega) (by omega)]
  show ((x.toNat &&& 1 : Nat) : Int) = _
  rw [nat_mask1]; have := h.1; omega
theorem or_bit (r b : Int) (hb : b = 0 ∨ b = 1) : bits .or .u64 (loU (2 * r)) b = loU (2 * r + b) := by
  rw [or_join (loU (2 * r)) b 1 (loU_64 _).1 (loU_64 _).2 (by unfold loU; omega) (by omega) (by omega) (by omega)]
  unfold loU; omega
theorem hiU_bit (r b : Int) (hb : b = 0 ∨ b = 1) : hiU (2 * r) = hiU (2 * r + b) := by unfold hiU; omega
/-- One step of a division, bit by bit. -/
theorem div_step (X d : Int) (k : Nat) (hd : 0 < d) :
    (2 * (X / 2 ^ (k + 1) % d) + X / 2 ^ k % 2 < d → X / 2 ^ k % d = 2 * (X / 2 ^ (k + 1) % d) + X / 2 ^ k % 2 ∧ X / 2 ^ k / d = 2 * (X / 2 ^ (k + 1) / d)) ∧
    (d ≤ 2 * (X / 2 ^ (k + 1) % d) + X / 2 ^ k % 2 → X / 2 ^ k % d = 2 * (X / 2 ^ (k + 1) % d) + X / 2 ^ k % 2 - d ∧ X / 2 ^ k / d = 2 * (X / 2 ^ (k + 1) / d) + 1) := by
  have e : X / 2 ^ (k + 1) = X / 2 ^ k / 2 := by
    rw [Int.pow_succ, Int.ediv_ediv_of_nonneg (Int.le_of_lt (pow_pos' k))]
  rw [e]
  generalize X / 2 ^ k = Y
  have h1 := Int.emod_add_ediv_mul (Y / 2) d
  have h2 := Int.emod_nonneg (Y / 2) (show d ≠ 0 by omega)
  have h3 := Int.emod_lt_of_pos (Y / 2) hd
  have hY : Y = 2 * (Y / 2) + Y % 2 := by omega
  generalize Y / 2 % d = r at *
  generalize hq : Y / 2 / d = q at *
  have hb : Y % 2 = 0 ∨ Y % 2 = 1 := by omega
  have hYq : Y = (2 * r + Y % 2) + d * (2 * q) := by
    have : d * (2 * q) = 2 * (q * d) := by rw [Int.mul_left_comm, Int.mul_comm d q]
    omega
  constructor
  · intro h
    constructor
    · conv => lhs; rw [hYq]
      rw [Int.add_mul_emod_self_left, Int.emod_eq_of_lt (by omega) h]
    · conv => lhs; rw [hYq]
      rw [Int.add_mul_ediv_left _ _ (by omega), Int.ediv_eq_zero_of_lt (by omega) h]; omega
  · intro h
    have hYq' : Y = (2 * r + Y % 2 - d) + d * (2 * q + 1) := by rw [Int.mul_add]; omega
    constructor
    · conv => lhs; rw [hYq']
      rw [Int.add_mul_emod_self_left, Int.emod_eq_of_lt (by omega) (by omega)]
    · conv => lhs; rw [hYq']
      rw [Int.add_mul_ediv_left _ _ (by omega), Int.ediv_eq_zero_of_lt (by omega) (by omega)]; omega
theorem wide_Div0 (h l : Int) (hh : U64 h) (hl : U64 l) (w : World) :
    Calls Try.prog 23 #[.agg #[.int .u64 h, .int .u64 l], .int .u64 0] w fun e w' =>
      e = .returned (.tuple #[.agg #[.int .u64 0, .int .u64 0], .int .u64 0, .int .i64 21]) ∧ Below w.heap.size w w' := by
  go_enter Try.func23, Try.ntmps23
  go_wp2
  refine bodyPost_ret (v := .tuple #[.agg #[.int .u64 0, .int .u64 0], .int .u64 0, .int .i64 21]) ?_ rfl ⟨rfl, ?_⟩
  · simp [results, Try.results23, go_sem]
  · (repeat (first | exact Below.refl _ _ | assumption | refine Below.alloc ?_ (by (try simp [size_more]) <;> omega) _ | refine Below.setCell ?_ (by (try simp [size_more]) <;> omega) _ | refine below_more ?_ (by (try simp [size_more]) <;> omega) _ | refine below_row ?_ (by (try simp [size_more]) <;> omega) _ | refine Below.drew ?_))
theorem shr_nat (h l : Int) (j : Nat) (hh : U64 h) (hl : U64 l) (hj : j ≤ 1000) (w : World) :
    Calls Try.prog 32 #[.agg #[.int .u64 h, .int .u64 l], .int .i64 (j : Int)] w fun e w' =>
      e = .returned (.agg #[.int .u64 (hiU (vU h l / 2 ^ j)), .int .u64 (loU (vU h l / 2 ^ j))]) ∧ Below w.heap.size w w' := by
  have hc := wide_Shr h l j hh hl ⟨by omega, by omega⟩ w
  rw [Int.toNat_natCast] at hc
  exact hc
theorem q_bound (X d : Int) (j : Nat) (hX : U128 X) (hd : 0 < d) : 0 ≤ X / 2 ^ (j + 1) / d ∧ X / 2 ^ (j + 1) / d ≤ 170141183460469231731687303715884105727 := by
  obtain ⟨h1, h2⟩ := hX
  have hp := pow_pos' j
  have h3 : 0 ≤ X / 2 ^ (j + 1) := Int.ediv_nonneg h1 (Int.le_of_lt (pow_pos' (j + 1)))
  have h4 : X / 2 ^ (j + 1) = X / 2 / 2 ^ j := by rw [Int.pow_succ, Int.mul_comm, ← Int.ediv_ediv_of_nonneg (by omega)]
  have h5 : X / 2 / 2 ^ j ≤ X / 2 := Int.ediv_le_self _ (by omega)
  have h6 : X / 2 ^ (j + 1) / d ≤ X / 2 ^ (j + 1) := Int.ediv_le_self _ h3
  exact ⟨Int.ediv_nonneg h3 (by omega), by omega⟩
theorem shr_U128 (X : Int) (j : Nat) (hX : U128 X) : U128 (X / 2 ^ j) := by
  obtain ⟨h1, h2⟩ := hX
  have hp := pow_pos' j
  have := Int.ediv_le_self (2 ^ j) h1
  exact ⟨Int.ediv_nonneg h1 (by omega), by omega⟩
set_option maxHeartbeats 2000000 in
theorem wide_Div (h l d : Int) (hh : U64 h) (hl : U64 l) (hd : U64 d) (hd0 : 0 < d) (w : World) :
    Calls Try.prog 23 #[.agg #[.int .u64 h, .int .u64 l], .int .u64 d] w fun e w' =>
      e = .returned (.tuple #[.agg #[.int .u64 (hiU (vU h l / d)), .int .u64 (loU (vU h l / d))], .int .u64 (vU h l % d), .int .i64 0]) ∧ Below w.heap.size w w' := by
  have hX := hide (vU_128 hh hl)
  have hh' := hide hh
  have hl' := hide hl
  have hd' := hide hd
  obtain ⟨hd1, hd2⟩ := hd
  clear hh hl
  have hne : (d == 0) = false := by simp; omega
  go_enter Try.func23, Try.ntmps23
  go_wp2
  go_loopw [9] (fun i wr => ∃ k : Nat, k ≤ 128 ∧ i = .int .i64 ((k : Int) - 1) ∧
      Later ((((w.alloc (.cells #[.int .u64 h, .int .u64 l] 28)).alloc (.cells #[.int .u64 0, .int .u64 0] 28)).alloc (.cells #[.int .u64 (hiU (vU h l / 2 ^ k / d)), .int .u64 (loU (vU h l / 2 ^ k / d))] 28)).alloc
        (.cells #[.int .u64 (hiU (vU h l / 2 ^ k % d)), .int .u64 (loU (vU h l / 2 ^ k % d))] 28)) wr) (fun i _ => (intOf i + 1).toNat)
  case atStart =>
    have e : vU h l / 2 ^ 128 = 0 := Int.ediv_eq_zero_of_lt hX.out.1 (by have := hX.out.2; omega)
    refine ⟨128, by omega, by go_num, ?_⟩
    rw [e, Int.zero_ediv, Int.zero_emod]
    exact later_refl _
  case round =>
    obtain ⟨k, hk, rfl, x, rfl⟩ := hrel
    obtain rfl | ⟨j, rfl⟩ : k = 0 ∨ ∃ j, k = j + 1 := by
      cases k with
      | zero => exact .inl rfl
      | succ j => exact .inr ⟨j, rfl⟩
    · rw [Int.pow_zero, Int.ediv_one]
      go_wp2
      refine region_late (w.heap.size + 1) 3 2 (by kernel_rfl) (by kernel_rfl) (c0 := #[.int .u64 0, .int .u64 0]) (t := 28) (by simp [blk_at, blk_past, blk_more, blk_drew, go_sem]) rfl ?_
      (repeat (first | (refine wpLate_step rfl (fun K hK => ?_); go_simp; first | (refine hK _ ?_; clear hK K) | (apply Exists.intro; refine ⟨fun _ _ => ?_, hK _ ?_⟩; (fail); clear hK K)) | refine wpLate_store rfl rfl rfl rfl rfl rfl (by first | exact row_size | rfl) (by first | exact row_one | kernel_rfl) (by kernel_rfl) ?_)); with_reducible refine wpLate_nil ?_
      intro x
      go_wp2
      refine bodyPost_ret (v := .tuple #[.agg #[.int .u64 (hiU (vU h l / d)), .int .u64 (loU (vU h l / d))], .int .u64 (vU h l % d), .int .i64 0]) ?_ rfl ⟨rfl, ?_⟩
      · simp [results, Try.results23, go_sem]
        unfold loU
        have h1 := Int.emod_lt_of_pos (vU h l) hd0
        have h2 := Int.emod_nonneg (vU h l) (show d ≠ 0 by omega)
        omega
      · (repeat (first | exact Below.refl _ _ | assumption | refine Below.alloc ?_ (by (try simp [size_more]) <;> omega) _ | refine Below.setCell ?_ (by (try simp [size_more]) <;> omega) _ | refine below_more ?_ (by (try simp [size_more]) <;> omega) _ | refine below_row ?_ (by (try simp [size_more]) <;> omega) _ | refine Below.drew ?_))
    · have hst := div_step (vU h l) d j hd0
      have hqb := q_bound (vU h l) d j hX.out hd0
      have hr1 := Int.emod_lt_of_pos (vU h l / 2 ^ (j + 1)) hd0
      have hr0 := Int.emod_nonneg (vU h l / 2 ^ (j + 1)) (show d ≠ 0 by omega)
      have hs : ∀ w, Calls Try.prog 32 #[.agg #[.int .u64 h, .int .u64 l], .int .i64 (j : Int)] w fun e w' =>
        e = .returned (.agg #[.int .u64 (hiU (vU h l / 2 ^ j)), .int .u64 (loU (vU h l / 2 ^ j))]) ∧ Below w.heap.size w w' := fun w => shr_nat h l j hh'.out hl'.out (by omega) w
      have hand := and_one (loU (vU h l / 2 ^ j)) (loU_64 _)
      have hlo : loU (vU h l / 2 ^ j) % 2 = vU h l / 2 ^ j % 2 := by unfold loU; omega
      rw [hlo] at hand
      have hb : vU h l / 2 ^ j % 2 = 0 ∨ vU h l / 2 ^ j % 2 = 1 := by omega
      have hm : ∀ q r : Int, vU h l / 2 ^ j / d = q → vU h l / 2 ^ j % d = r → Hid (vU h l / 2 ^ j / d = q ∧ vU h l / 2 ^ j % d = r) := fun q r a b => ⟨a, b⟩
      generalize vU h l / 2 ^ (j + 1) % d = r at *
      generalize vU h l / 2 ^ (j + 1) / d = q at *
      generalize vU h l / 2 ^ j % 2 = b at *
      have or1 := or_bit r b hb
      have hi1 := hiU_bit r b hb
      have or2 := or_one q
      have hi2 := hiU_bit q 1 (.inr rfl)
      generalize hr1e : 2 * r + b = r1 at *
      have hr1b : 0 ≤ r1 ∧ r1 ≤ 36893488147419103231 := by omega
      have hS1 := fun w => shl_one r ⟨by omega, by omega⟩ w
      have hS2 := fun w => shl_one q ⟨by omega, by omega⟩ w
      have hC1 := fun w => cmp_lo r1 d ⟨by omega, by omega⟩ hd'.out w
      have HS := hide hs
      have HS1 := hide hS1
      have HS2 := hide hS2
      have HC1 := hide hC1
      clear hs hS1 hS2 hC1 hlo hr1e
      go_wp2_with (go_at_call 31; refine (HS1.out _).mono ?_; rintro e w1 ⟨rfl, hbw⟩; obtain ⟨x1, rfl⟩ := of_below hbw; clear hbw)
      refine region_tail 9 (by kernel_rfl) (by kernel_rfl) ?_
      (try simp only [List.take_succ_cons, List.take_zero, List.drop_succ_cons, List.drop_zero]); (repeat (refine wpCalm_step (fun K hK => ?_); go_simp; first | (refine hK _ ?_; clear hK K) | (apply Exists.intro; refine ⟨fun _ => ?_, hK _ ?_⟩; (go_at_call 32; exact quiet_back (HS.out _)); clear hK K))); with_reducible refine wpCalm_nil ?_
      intro x2
      by_cases hdr : d ≤ r1
      · have hcmp : 0 ≤ cmpI r1 d := by
          have := cmpI_neg r1 d
          omega
        have HSub := hide (fun w => sub_lo r1 d ⟨by omega, by omega⟩ hd'.out hdr w)
        have HM := hm (2 * q + 1) (r1 - d) (hst.2 hdr).2 (hst.2 hdr).1
        clear hm hst
        go_wp2_with fail
        refine (HS2.out _).mono ?_
        rintro e w1 ⟨rfl, hbw⟩
        obtain ⟨x3, rfl⟩ := of_below hbw
        clear hbw
        go_wp2_with fail
        refine (HC1.out _).mono ?_
        rintro e w1 ⟨rfl, hbw⟩
        obtain ⟨x4, rfl⟩ := of_below hbw
        clear hbw
        go_wp2_with fail
        refine (HSub.out _).mono ?_
        rintro e w1 ⟨rfl, hbw⟩
        obtain ⟨x5, rfl⟩ := of_below hbw
        clear hbw
        go_wp2_with fail
        go_roundw
        case rel =>
          refine ⟨j, by omega, by go_num, ?_⟩
          rw [HM.out.1, HM.out.2]
          exact (later_refl _).more _
        case measure => simp [intOf] <;> omega
      · have hcmp : cmpI r1 d < 0 := by
          have := cmpI_neg r1 d
          omega
        have HM := hm (2 * q) r1 (hst.1 (by omega)).2 (hst.1 (by omega)).1
        clear hm hst hi2 or2
        go_wp2_with fail
        refine (HS2.out _).mono ?_
        rintro e w1 ⟨rfl, hbw⟩
        obtain ⟨x3, rfl⟩ := of_below hbw
        clear hbw
        go_wp2_with fail
        refine (HC1.out _).mono ?_
        rintro e w1 ⟨rfl, hbw⟩
        obtain ⟨x4, rfl⟩ := of_below hbw
        clear hbw
        go_wp2_with fail
        go_roundw
        case rel =>
          refine ⟨j, by omega, by go_num, ?_⟩
          rw [HM.out.1, HM.out.2]
          exact (later_refl _).more _
        case measure => simp [intOf] <;> omega
/-! ### Root -/
def IsRoot (X r : Int) : Prop := 0 ≤ r ∧ r * r ≤ X ∧ X < (r + 1) * (r + 1)
theorem IsRoot.le {X Y r s : Int} (h : IsRoot X r) (k : IsRoot Y s) (hXY : X ≤ Y) : r ≤ s := by
  obtain ⟨h0, h1, h2⟩ := h
  obtain ⟨k0, k1, k2⟩ := k
  apply Classical.byContradiction
  intro hn
  have : (s + 1) * (s + 1) ≤ r * r := Int.mul_le_mul (by omega) (by omega) (by omega) h0
  omega
theorem IsRoot.uniq {X r s : Int} (h : IsRoot X r) (k : IsRoot X s) : r = s := Int.le_antisymm (h.le k (Int.le_refl _)) (k.le h (Int.le_refl _))
noncomputable def rootI (X : Int) : Int := Classical.epsilon (IsRoot X)
theorem rootI_of {X r : Int} (h : IsRoot X r) : rootI X = r := (Classical.epsilon_spec (p := IsRoot X) ⟨r, h⟩).uniq h
/-- What holds ahead of bit i. -/
def RootAt (X r : Int) (k : Nat) : Prop := 0 ≤ r ∧ r % 2 ^ k = 0 ∧ r + 2 ^ k ≤ 18446744073709551616 ∧ r * r ≤ X ∧ X < (r + 2 ^ k) * (r + 2 ^ k)
theorem RootAt.step {X r : Int} {j : Nat} (h : RootAt X r (j + 1)) :
    (¬ (r + 2 ^ j) * (r + 2 ^ j) ≤ X → RootAt X r j) ∧ ((r + 2 ^ j) * (r + 2 ^ j) ≤ X → RootAt X (r + 2 ^ j) j) := by
  obtain ⟨h0, h1, h2, h3, h4⟩ := h
  have hp := pow_pos' j
  unfold RootAt
  rw [Int.pow_succ] at h1 h2 h4
  generalize (2 : Int) ^ j = P at *
  have hm : r % P = 0 := by
    have := Int.emod_emod_of_dvd r (show P ∣ P * 2 from ⟨2, rfl⟩)
    rw [h1] at this; simpa using this.symm
  constructor
  · intro hn
    exact ⟨h0, hm, by omega, h3, by omega⟩
  · intro hn
    refine ⟨by omega, ?_, by omega, hn, ?_⟩
    · rw [Int.add_emod, hm]; simp
    · have e : r + P + P = r + P * 2 := by omega
      rw [e]; exact h4
theorem root_or (r : Int) (j : Nat) (hj : j < 64) (h0 : 0 ≤ r) (h1 : r % 2 ^ (j + 1) = 0) (h2 : r + 2 ^ (j + 1) ≤ 18446744073709551616) : bits .or .u64 r (2 ^ j) = r + 2 ^ j := by
  have hp := pow_pos' j
  have hpp := Int.pow_succ (2 : Int) j
  exact or_join r (2 ^ j) (j + 1) h0 (by omega) h1 (by omega) (by omega) (by omega)
theorem cmp_mul (n h l : Int) (hn : U64 n) (hh : U64 h) (hl : U64 l) (w : World) :
    Calls Try.prog 36 #[.agg #[.int .u64 (hiU (n * n)), .int .u64 (loU (n * n))], .agg #[.int .u64 h, .int .u64 l]] w fun e w' =>
      e = .returned (.int .i64 (cmpI (n * n) (vU h l))) ∧ Below w.heap.size w w' := by
  have hnn : U128 (n * n) := by
    obtain ⟨a, b⟩ := hn
    refine ⟨Int.mul_nonneg a a, ?_⟩
    have : n * n ≤ 18446744073709551615 * 18446744073709551615 := Int.mul_le_mul b b a (by omega)
    omega
  have hc := wide_Cmp (hiU (n * n)) (loU (n * n)) h l (hiU_64 hnn) (loU_64 _) hh hl w
  rw [vU_hilo] at hc
  exact hc
set_option maxHeartbeats 1000000 in
theorem wide_Root (h l : Int) (hh : U64 h) (hl : U64 l) (w : World) :
    Calls Try.prog 28 #[.agg #[.int .u64 h, .int .u64 l]] w fun e w' =>
      (e = .returned (.int .u64 (rootI (vU h l))) ∧ IsRoot (vU h l) (rootI (vU h l)) ∧ U64 (rootI (vU h l))) ∧ Below w.heap.size w w' := by
  have hX := hide (vU_128 hh hl)
  have hh' := hide hh
  have hl' := hide hl
  clear hh hl
  go_enter Try.func28, Try.ntmps28
  go_wp2
  go_loopw [3, 4] (fun c i wr => ∃ (k : Nat) (r : Int), k ≤ 64 ∧ i = .int .i64 ((k : Int) - 1) ∧ c = .int .u64 r ∧ RootAt (vU h l) r k ∧ Later (w.alloc (.cells #[.int .u64 h, .int .u64 l] 28)) wr) (fun _ i _ => (intOf i + 1).toNat)
  case atStart =>
    refine ⟨64, 0, by omega, by go_num, rfl, ⟨by omega, by simp, by omega, by simpa using hX.out.1, ?_⟩, later_refl _⟩
    have := hX.out.2
    omega
  case round =>
    obtain ⟨k, r, hk, rfl, rfl, hR, x, rfl⟩ := hrel
    have HR := hide hR
    clear hR
    obtain rfl | ⟨j, rfl⟩ : k = 0 ∨ ∃ j, k = j + 1 := by
      cases k with
      | zero => exact .inl rfl
      | succ j => exact .inr ⟨j, rfl⟩
    · go_wp2
      go_ret
      obtain ⟨h0, _, h2, h3, h4⟩ := HR.out
      rw [Int.pow_zero] at h2 h4
      have hi : IsRoot (vU h l) r := ⟨h0, h3, h4⟩
      rw [rootI_of hi]
      exact ⟨⟨rfl, hi, ⟨h0, by omega⟩⟩, by (repeat (first | exact Below.refl _ _ | assumption | refine Below.alloc ?_ (by (try simp [size_more]) <;> omega) _ | refine Below.setCell ?_ (by (try simp [size_more]) <;> omega) _ | refine below_more ?_ (by (try simp [size_more]) <;> omega) _ | refine below_row ?_ (by (try simp [size_more]) <;> omega) _ | refine Below.drew ?_))⟩
    · obtain ⟨h0, h1, h2, h3, h4⟩ := HR.out
      have hst := HR.out.step
      have hor := root_or r j (by omega) h0 h1 h2
      have hp := pow_pos' j
      have hpp := Int.pow_succ (2 : Int) j
      have hn : 0 ≤ r + 2 ^ j ∧ r + 2 ^ j ≤ 18446744073709551615 := by omega
      have hsh : IntKind.u64.wrap (1 * 2 ^ min ((j : Int).toNat) 64) = 2 ^ j := by
        rw [Int.toNat_natCast, Nat.min_eq_left (by omega), Int.one_mul, uwrap_of, Int.emod_eq_of_lt (by omega) (by omega)]
      clear h1 h2 h3 h4 hpp
      have hM := hide (fun w => wide_Mul (r + 2 ^ j) (r + 2 ^ j) hn hn w)
      have hC := hide (fun w => cmp_mul (r + 2 ^ j) h l hn hh'.out hl'.out w)
      by_cases hle : (r + 2 ^ j) * (r + 2 ^ j) ≤ vU h l
      · have hcmp : cmpI ((r + 2 ^ j) * (r + 2 ^ j)) (vU h l) ≤ 0 := by
          have := cmpI_pos ((r + 2 ^ j) * (r + 2 ^ j)) (vU h l)
          omega
        have HR2 := hide (hst.2 hle)
        clear hst hle
        go_wp2
        refine region_all (by kernel_rfl) (by kernel_rfl) ?_
        (try simp only [List.take_succ_cons, List.take_zero, List.drop_succ_cons, List.drop_zero]); (repeat (refine wpCalm_step (fun K hK => ?_); go_simp; first | (refine hK _ ?_; clear hK K) | (apply Exists.intro; refine ⟨fun _ => ?_, hK _ ?_⟩; (first | (go_at_call 21; exact quiet_back (hM.out _)) | (go_at_call 36; exact quiet_back (hC.out _))); clear hK K))); with_reducible refine wpCalm_nil ?_
        intro x2
        go_wp2
        go_roundw
        case rel => exact ⟨j, _, by omega, by go_num, rfl, HR2.out, (later_refl _).more _⟩
        case measure => simp [intOf] <;> omega
      · have hcmp : 0 < cmpI ((r + 2 ^ j) * (r + 2 ^ j)) (vU h l) := by
          have := cmpI_pos ((r + 2 ^ j) * (r + 2 ^ j)) (vU h l)
          omega
        have HR2 := hide (hst.1 hle)
        clear hst hle
        go_wp2
        refine region_all (by kernel_rfl) (by kernel_rfl) ?_
        (try simp only [List.take_succ_cons, List.take_zero, List.drop_succ_cons, List.drop_zero]); (repeat (refine wpCalm_step (fun K hK => ?_); go_simp; first | (refine hK _ ?_; clear hK K) | (apply Exists.intro; refine ⟨fun _ => ?_, hK _ ?_⟩; (first | (go_at_call 21; exact quiet_back (hM.out _)) | (go_at_call 36; exact quiet_back (hC.out _))); clear hK K))); with_reducible refine wpCalm_nil ?_
        intro x2
        go_wp2
        go_roundw
        case rel => exact ⟨j, _, by omega, by go_num, rfl, HR2.out, (later_refl _).more _⟩
        case measure => simp [intOf] <;> omega
/-! ### Len -/
def IsLen (X : Int) (n : Nat) : Prop := n ≤ 128 ∧ X / 2 ^ n = 0 ∧ ∀ j, j < n → X / 2 ^ j ≠ 0
theorem IsLen.uniq {X : Int} {n m : Nat} (h : IsLen X n) (k : IsLen X m) : n = m := by
  apply Classical.byContradiction
  intro hne
  rcases Nat.lt_or_ge n m with hl | hg
  · exact k.2.2 n hl h.2.1
  · exact h.2.2 m (by omega) k.2.1
noncomputable def lenI (X : Int) : Nat := Classical.epsilon (IsLen X)
theorem lenI_of {X : Int} {n : Nat} (h : IsLen X n) : lenI X = n := (Classical.epsilon_spec (p := IsLen X) ⟨n, h⟩).uniq h
theorem hilo_zero (X : Int) (h : U128 X) : (hiU X = 0 ∧ loU X = 0) ↔ X = 0 := by
  unfold hiU loU; omega
theorem shr_one (Y : Int) (hY : U128 Y) (w : World) :
    Calls Try.prog 32 #[.agg #[.int .u64 (hiU Y), .int .u64 (loU Y)], .int .i64 1] w fun e w' =>
      e = .returned (.agg #[.int .u64 (hiU (Y / 2)), .int .u64 (loU (Y / 2))]) ∧ Below w.heap.size w w' := by
  have hc := wide_Shr (hiU Y) (loU Y) 1 (hiU_64 hY) (loU_64 Y) ⟨by omega, by omega⟩ w
  rw [vU_hilo] at hc
  exact hc
set_option maxHeartbeats 1000000 in
theorem wide_LenX (X : Int) (hX0 : U128 X) (w : World) :
    Calls Try.prog 30 #[.agg #[.int .u64 (hiU X), .int .u64 (loU X)]] w fun e w' =>
      (e = .returned (.int .i64 (lenI X)) ∧ IsLen X (lenI X)) ∧ Below w.heap.size w w' := by
  have hX := hide hX0
  clear hX0
  go_enter Try.func30, Try.ntmps30
  go_wp2
  go_loopw [3] (fun i wr => ∃ (k : Nat), k ≤ 128 ∧ i = .int .i64 (k : Int) ∧ Hid (∀ j, j < k → X / 2 ^ j ≠ 0) ∧ Later (w.alloc (.cells #[.int .u64 (hiU (X / 2 ^ k)), .int .u64 (loU (X / 2 ^ k))] 28)) wr) (fun i _ => 128 - (intOf i).toNat)
  case atStart =>
    refine ⟨0, by omega, rfl, hide (fun j hj => absurd hj (by omega)), ?_⟩
    rw [Int.pow_zero, Int.ediv_one]
    exact later_refl _
  case round =>
    obtain ⟨k, hk, rfl, hne, x, rfl⟩ := hrel
    have hY := shr_U128 X k hX.out
    by_cases h0 : X / 2 ^ k = 0
    · have hz := eqs_yes (l := [hiU (X / 2 ^ k), loU (X / 2 ^ k)]) (m := [0, 0]) (by rw [h0]; rfl)
      have hI : IsLen X k := ⟨hk, h0, hne.out⟩
      have HI := hide hI
      have HL := hide (lenI_of hI)
      clear h0 hI
      go_wp2
      go_ret
      rw [HL.out]
      exact ⟨⟨rfl, HI.out⟩, by (repeat (first | exact Below.refl _ _ | assumption | refine Below.alloc ?_ (by (try simp [size_more]) <;> omega) _ | refine Below.setCell ?_ (by (try simp [size_more]) <;> omega) _ | refine below_more ?_ (by (try simp [size_more]) <;> omega) _ | refine below_row ?_ (by (try simp [size_more]) <;> omega) _ | refine Below.drew ?_))⟩
    · have hk' : k < 128 := by
        apply Classical.byContradiction
        intro hge
        have : k = 128 := by omega
        subst this
        exact h0 (Int.ediv_eq_zero_of_lt hX.out.1 (by have := hX.out.2; omega))
      have hz := eqs_no (l := [hiU (X / 2 ^ k), loU (X / 2 ^ k)]) (m := [0, 0]) (fun h => h0 ((hilo_zero _ hY).1 (by simpa using h)))
      have hne' : Hid (∀ j, j < k + 1 → X / 2 ^ j ≠ 0) := hide fun j hj => by
        by_cases hjk : j = k
        · subst hjk; exact h0
        · exact hne.out j (by omega)
      have he : X / 2 ^ k / 2 = X / 2 ^ (k + 1) := by rw [Int.pow_succ, Int.ediv_ediv_of_nonneg (Int.le_of_lt (pow_pos' k))]
      have hS := fun w => shr_one (X / 2 ^ k) hY w
      rw [he] at hS
      have HS := hide hS
      clear hS he h0 hne hY
      go_wp2_with (go_at_call 32; refine (HS.out _).mono ?_; rintro e w1 ⟨rfl, hbw⟩; obtain ⟨x1, rfl⟩ := of_below hbw; clear hbw)
      go_roundw
      case rel => exact ⟨k + 1, by omega, by go_num, hne', (later_refl _).more _⟩
      case measure => simp [intOf]; omega
theorem wide_Len (h l : Int) (hh : U64 h) (hl : U64 l) (w : World) :
    Calls Try.prog 30 #[.agg #[.int .u64 h, .int .u64 l]] w fun e w' =>
      (e = .returned (.int .i64 (lenI (vU h l))) ∧ IsLen (vU h l) (lenI (vU h l))) ∧ Below w.heap.size w w' := by
  have hc := wide_LenX (vU h l) (vU_128 hh hl) w
  rw [hiU_v hl, loU_v hl] at hc
  exact hc
end Go.Proofs.Ytbpadfmdjgjjlaa
