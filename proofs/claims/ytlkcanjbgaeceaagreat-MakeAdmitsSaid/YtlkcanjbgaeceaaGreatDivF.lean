/- The division of the reading. -/
import Derived.Test.YtlkcanjbgaeceaaGreatWideF
import Derived.Test.YtlkcanjbgaeceaaGreatLoopF
set_option linter.unusedSimpArgs false
set_option linter.unusedVariables false
namespace Go.Proofs.YtlkcanjbgaeceaaGreat
theorem or_one (q : Int) : Go.bits .or .u64 (loU (2 * q)) 1 = loU (2 * q + 1) := by
  rw [or_join (loU (2 * q)) 1 1 (loU_64 _).1 (loU_64 _).2 (by unfold loU; omega) (by omega) (by omega) (by omega)]
  unfold loU; omega
theorem and_one (x : Int) (h : U64 x) : Go.bits .and .u64 x 1 = x % 2 := by
  rw [u64_and x 1 h.1 (by have := h.2; omega) (by omega) (by omega)]
  show ((x.toNat &&& 1 : Nat) : Int) = _
  rw [nat_mask1]; have := h.1; omega
theorem or_bit (r b : Int) (hb : b = 0 ∨ b = 1) : Go.bits .or .u64 (loU (2 * r)) b = loU (2 * r + b) := by
  rw [or_join (loU (2 * r)) b 1 (loU_64 _).1 (loU_64 _).2 (by unfold loU; omega) (by omega) (by omega) (by omega)]
  unfold loU; omega
theorem hiU_bit (r b : Int) (hb : b = 0 ∨ b = 1) : hiU (2 * r) = hiU (2 * r + b) := by unfold hiU; omega
theorem div_step (X d : Int) (k : Nat) (hd : 0 < d) :
    (2 * (X / 2 ^ (k + 1) % d) + X / 2 ^ k % 2 < d → X / 2 ^ k % d = 2 * (X / 2 ^ (k + 1) % d) + X / 2 ^ k % 2 ∧ X / 2 ^ k / d = 2 * (X / 2 ^ (k + 1) / d)) ∧
    (d ≤ 2 * (X / 2 ^ (k + 1) % d) + X / 2 ^ k % 2 → X / 2 ^ k % d = 2 * (X / 2 ^ (k + 1) % d) + X / 2 ^ k % 2 - d ∧ X / 2 ^ k / d = 2 * (X / 2 ^ (k + 1) / d) + 1) := by
  have e : X / 2 ^ (k + 1) = X / 2 ^ k / 2 := by
    rw [Int.pow_succ, Int.ediv_ediv_of_nonneg (Int.le_of_lt (pow_pos' k))]
  rw [e]
  generalize X / 2 ^ k = Y
  have h1 := Int.emod_add_ediv_mul (Y / 2) d
  have h2 := Int.emod_nonneg (Y / 2) (show d ≠ 0 by omega)
  have h3 := Int.emod_lt_of_pos (Y / 2) hd
  have hY : Y = 2 * (Y / 2) + Y % 2 := by omega
  generalize Y / 2 % d = r at *
  generalize hq : Y / 2 / d = q at *
  have hb : Y % 2 = 0 ∨ Y % 2 = 1 := by omega
  have hYq : Y = (2 * r + Y % 2) + d * (2 * q) := by
    have : d * (2 * q) = 2 * (q * d) := by rw [Int.mul_left_comm, Int.mul_comm d q]
    omega
  constructor
  · intro h
    constructor
    · conv => lhs; rw [hYq]
      rw [Int.add_mul_emod_self_left, Int.emod_eq_of_lt (by omega) h]
    · conv => lhs; rw [hYq]
      rw [Int.add_mul_ediv_left _ _ (by omega), Int.ediv_eq_zero_of_lt (by omega) h]; omega
  · intro h
    have hYq' : Y = (2 * r + Y % 2 - d) + d * (2 * q + 1) := by rw [Int.mul_add]; omega
    constructor
    · conv => lhs; rw [hYq']
      rw [Int.add_mul_emod_self_left, Int.emod_eq_of_lt (by omega) (by omega)]
    · conv => lhs; rw [hYq']
      rw [Int.add_mul_ediv_left _ _ (by omega), Int.ediv_eq_zero_of_lt (by omega) (by omega)]; omega
theorem q_bound (X d : Int) (j : Nat) (hX : U128 X) (hd : 0 < d) : 0 ≤ X / 2 ^ (j + 1) / d ∧ X / 2 ^ (j + 1) / d ≤ 170141183460469231731687303715884105727 := by
  obtain ⟨h1, h2⟩ := hX
  have hp := pow_pos' j
  have h3 : 0 ≤ X / 2 ^ (j + 1) := Int.ediv_nonneg h1 (Int.le_of_lt (pow_pos' (j + 1)))
  have h4 : X / 2 ^ (j + 1) = X / 2 / 2 ^ j := by rw [Int.pow_succ, Int.mul_comm, ← Int.ediv_ediv_of_nonneg (by omega)]
  have h5 : X / 2 / 2 ^ j ≤ X / 2 := Int.ediv_le_self _ (by omega)
  have h6 : X / 2 ^ (j + 1) / d ≤ X / 2 ^ (j + 1) := Int.ediv_le_self _ h3
  exact ⟨Int.ediv_nonneg h3 (by omega), by omega⟩
theorem shr_U128 (X : Int) (j : Nat) (hX : U128 X) : U128 (X / 2 ^ j) := by
  obtain ⟨h1, h2⟩ := hX
  have hp := pow_pos' j
  have := Int.ediv_le_self (2 ^ j) h1
  exact ⟨Int.ediv_nonneg h1 (by omega), by omega⟩

theorem f_shl1 (r : Int) (h : 0 ≤ r ∧ r ≤ 170141183460469231731687303715884105727) : F_wide_U_Shl (hiU r, loU r) 1 = some (hiU (2 * r), loU (2 * r)) := by
  have hc := f_Shl (hiU r) (loU r) 1 (hiU_64 ⟨h.1, by omega⟩) (loU_64 r) ⟨by omega, by omega⟩
  rw [vU_hilo, show r * 2 ^ (1 : Int).toNat % 340282366920938463463374607431768211456 = 2 * r by
    rw [show (2 : Int) ^ (1 : Int).toNat = 2 from rfl]; omega] at hc
  exact hc
theorem f_cmplo (r d : Int) (h : U128 r) (hd : U64 d) : F_wide_U_Cmp (hiU r, loU r) (0, d) = some (cmpI r d) := by
  have hc := f_Cmp (hiU r) (loU r) 0 d (hiU_64 h) (loU_64 r) ⟨by omega, by omega⟩ hd
  rw [vU_hilo, show vU 0 d = d by unfold vU; omega] at hc
  exact hc
theorem f_sublo (r d : Int) (h : U128 r) (hd : U64 d) (hdr : d ≤ r) : F_wide_U_Sub (hiU r, loU r) (0, d) = some ((hiU (r - d), loU (r - d)), false) := by
  have hc := f_Sub (hiU r) (loU r) 0 d (hiU_64 h) (loU_64 r) ⟨by omega, by omega⟩ hd
  have h1 := h.1; have h2 := h.2; have h3 := hd.1
  rw [vU_hilo, show vU 0 d = d by unfold vU; omega, show (r - d) % 340282366920938463463374607431768211456 = r - d by omega, show decide (r < d) = false by simp; omega] at hc
  exact hc
theorem f_Div (h l d : Int) (hh : U64 h) (hl : U64 l) (hd : U64 d) (hd0 : 0 < d) : F_wide_U_Div (h, l) d = some ((hiU (vU h l / d), loU (vU h l / d)), vU h l % d, 0) := by
  have hX := vU_128 hh hl
  obtain ⟨hd1, hd2⟩ := hd
  have hne : (d == 0) = false := by simp; omega
  unfold F_wide_U_Div
  simp only [hne, cond_false]
  refine bind_loop
    (fun s => ∃ k : Nat, k ≤ 128 ∧ s = (hiU (vU h l / 2 ^ k % d), loU (vU h l / 2 ^ k / d), hiU (vU h l / 2 ^ k / d), loU (vU h l / 2 ^ k % d), (k : Int) - 1))
    (fun s => (s.2.2.2.2 + 1).toNat) (fun x => x = (hiU (vU h l % d), loU (vU h l / d), hiU (vU h l / d), loU (vU h l % d))) ⟨128, by omega, ?_⟩ ?_ ?_
  · have h0 : vU h l / 2 ^ 128 = 0 := Int.ediv_eq_zero_of_lt hX.1 (by have := hX.2; rw [show (2 : Int) ^ 128 = 340282366920938463463374607431768211456 from rfl]; omega)
    rw [h0, Int.zero_emod, Int.zero_ediv]
    rfl
  · rintro s ⟨k, hk, rfl⟩
    cases k with
    | zero =>
      left
      refine ⟨_, ?_, rfl⟩
      rw [show decide ((0 : Int) ≤ ((0 : Nat) : Int) - 1) = false from rfl, cond_false, Int.pow_zero, Int.ediv_one]
    | succ j =>
      right
      have hq := q_bound (vU h l) d j hX hd0
      have hr1 := Int.emod_nonneg (vU h l / 2 ^ (j + 1)) (show d ≠ 0 by omega)
      have hr2 := Int.emod_lt_of_pos (vU h l / 2 ^ (j + 1)) hd0
      have hst := div_step (vU h l) d j hd0
      have hy := shr_U128 (vU h l) j hX
      rw [show (((j + 1 : Nat) : Int) - 1) = (j : Int) by omega]
      simp only []
      rw [show decide ((0 : Int) ≤ (j : Int)) = true by simp, cond_true, f_shl1 _ ⟨hr1, by omega⟩, Option.bind_some, f_Shr h l j hh hl ⟨by omega, by omega⟩, Option.bind_some, f_shl1 _ ⟨hq.1, hq.2⟩, Option.bind_some, Int.toNat_natCast]
      simp only [bits_go _ _ _ _ (.inl rfl), bits_go _ _ _ _ (.inr (.inl rfl))]
      rw [and_one _ (loU_64 _)]
      generalize vU h l / 2 ^ (j + 1) % d = R at *
      generalize vU h l / 2 ^ (j + 1) / d = Q at *
      generalize hY : vU h l / 2 ^ j = Y at *
      have hb : loU Y % 2 = Y % 2 := by unfold loU; omega
      rw [hb]
      have hb01 : Y % 2 = 0 ∨ Y % 2 = 1 := by omega
      rw [or_bit R (Y % 2) hb01, hiU_bit R (Y % 2) hb01]
      rw [f_cmplo _ d ⟨by omega, by omega⟩ ⟨hd1, hd2⟩, Option.bind_some]
      have hw : IntKind.i64.wrap ((j : Int) - 1) = (j : Int) - 1 := by rw [IntKind.wrap_i64]; omega
      rw [hw]
      by_cases hlt : 2 * R + Y % 2 < d
      · obtain ⟨e1, e2⟩ := hst.1 hlt
        rw [cmpI_lt hlt]
        refine ⟨_, rfl, ⟨j, by omega, ?_⟩, ?_⟩
        · rw [hY, e1, e2]
        · simp only []; omega
      · obtain ⟨e1, e2⟩ := hst.2 (by omega)
        have hc : decide (0 ≤ cmpI (2 * R + Y % 2) d) = true := by
          have := cmpI_neg (2 * R + Y % 2) d
          simp; omega
        rw [hc, cond_true, f_sublo _ d ⟨by omega, by omega⟩ ⟨hd1, hd2⟩ (by omega), or_one]
        refine ⟨_, rfl, ⟨j, by omega, ?_⟩, ?_⟩
        · rw [hY, e1, e2]
          have : hiU (2 * Q) = hiU (2 * Q + 1) := by unfold hiU; omega
          simp only [this]
        · simp only []; omega
  · rintro x rfl
    have hr1 := Int.emod_nonneg (vU h l) (show d ≠ 0 by omega)
    have hr2 := Int.emod_lt_of_pos (vU h l) hd0
    have : loU (vU h l % d) = vU h l % d := by unfold loU; omega
    simp only [this]
end Go.Proofs.YtlkcanjbgaeceaaGreat
