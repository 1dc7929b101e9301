/- What the readings of the packages num and wide say, in plain numbers. -/
import Derived.Test.YtlkcanjbgaeceaaGreatFnsZ2
import Derived.Test.YtlkcanjbgaeceaaGreatPlain
set_option linter.unusedSimpArgs false
set_option linter.unusedVariables false
namespace Go.Proofs.YtlkcanjbgaeceaaGreat
theorem bits_go (k : IntKind) (op : BinOp) (x y : Int) (h : op = .and ∨ op = .or ∨ op = .xor) : bits k op x y = Go.bits op k x y := by
  rcases h with rfl | rfl | rfl <;> rfl
theorem fdiv_pow (x : Int) (n : Nat) : x.fdiv (2 ^ n) = x / 2 ^ n := Int.fdiv_eq_ediv_of_nonneg x (Int.le_of_lt (pow_pos' n))
theorem chk_none {ρ : Type} {c : Bool} {k : Option ρ} (h : c = true) : chk none c k = k := by
  subst h; rfl
theorem f_Size (a : Int) (ha : I64 a) : F_num_Size a = some (if a < 0 then -a else a) := by
  obtain ⟨h1, h2⟩ := ha
  unfold F_num_Size
  simp only [cond_eq_ite, decide_eq_true_eq, uwrap_of, IntKind.wrap_i64]
  repeat' split
  all_goals first | (exfalso; omega) | (congr 1; omega)
theorem f_NumAdd (a b : Int) (ha : I64 a) (hb : I64 b) : F_num_Add a b = some (or0 (a + b), in64 (a + b)) := by
  obtain ⟨h1, h2⟩ := ha
  obtain ⟨h3, h4⟩ := hb
  unfold F_num_Add
  by_cases h : -9223372036854775808 ≤ a + b ∧ a + b ≤ 9223372036854775807
  · rw [or0_yes h, in64_yes h]
    simp only [cond_eq_ite, IntKind.wrap_i64, beq_iff_eq, decide_eq_decide, Bool.ite_eq_true_distrib, Bool.not_eq_true', Bool.and_eq_true, beq_eq_false_iff_ne, ne_eq]
    rw [if_neg]
    · congr 2; omega
    · simp; omega
  · rw [or0_no h, in64_no h]
    simp only [cond_eq_ite, IntKind.wrap_i64, beq_iff_eq, decide_eq_decide, Bool.ite_eq_true_distrib, Bool.not_eq_true', Bool.and_eq_true, beq_eq_false_iff_ne, ne_eq]
    rw [if_pos]
    simp; omega
theorem f_NumSub (a b : Int) (ha : I64 a) (hb : I64 b) : F_num_Sub a b = some (or0 (a - b), in64 (a - b)) := by
  obtain ⟨h1, h2⟩ := ha
  obtain ⟨h3, h4⟩ := hb
  unfold F_num_Sub
  by_cases h : -9223372036854775808 ≤ a - b ∧ a - b ≤ 9223372036854775807
  · rw [or0_yes h, in64_yes h]
    simp only [cond_eq_ite, IntKind.wrap_i64, beq_iff_eq, decide_eq_decide, Bool.ite_eq_true_distrib, Bool.not_eq_true', Bool.and_eq_true, beq_eq_false_iff_ne, ne_eq]
    rw [if_neg]
    · congr 2; omega
    · simp; omega
  · rw [or0_no h, in64_no h]
    simp only [cond_eq_ite, IntKind.wrap_i64, beq_iff_eq, decide_eq_decide, Bool.ite_eq_true_distrib, Bool.not_eq_true', Bool.and_eq_true, beq_eq_false_iff_ne, ne_eq]
    rw [if_pos]
    simp; omega
theorem eqT_int (k : IntKind) (a b : Int) : eqT (.int k) a b = decide (a = b) := rfl
theorem eqT_pair (a b : Ty) (x y : (Ty.pair a b).den) : eqT (.pair a b) x y = (eqT a x.1 y.1 && eqT b x.2 y.2) := rfl
theorem eqT_agg (a : Ty) (x y : (Ty.agg a).den) : eqT (.agg a) x y = eqT a x y := rfl
theorem f_Mul (a b : Int) (ha : U64 a) (hb : U64 b) : F_wide_Mul a b = some (hiU (a * b), loU (a * b)) := by
  obtain ⟨h1, h2⟩ := mul_plain a b ha hb
  have e : (2 : Int) ^ 32 = 4294967296 := rfl
  unfold F_wide_Mul
  simp only [bits_go _ _ _ _ (.inl rfl), bits_go _ _ _ _ (.inr (.inl rfl)), fdiv_pow]
  simp only [e, hiU, loU]
  exact congrArg some (Prod.ext h1 h2)
theorem f_Cmp (xh xl yh yl : Int) (h1 : U64 xh) (h2 : U64 xl) (h3 : U64 yh) (h4 : U64 yl) : F_wide_U_Cmp (xh, xl) (yh, yl) = some (cmpI (vU xh xl) (vU yh yl)) := by
  obtain ⟨h11, h12⟩ := h1
  obtain ⟨h21, h22⟩ := h2
  obtain ⟨h31, h32⟩ := h3
  obtain ⟨h41, h42⟩ := h4
  unfold F_wide_U_Cmp cmpI vU
  simp only [eqT_agg, eqT_pair, eqT_int, cond_eq_ite, Bool.or_eq_true, Bool.and_eq_true, beq_iff_eq, decide_eq_true_eq, Bool.ite_eq_true_distrib, Bool.true_eq_false, Bool.false_eq_true, if_true_left, if_false_right, if_true, if_false]
  repeat' split
  all_goals first | rfl | (exfalso; omega)
theorem f_Add (xh xl yh yl : Int) (h1 : U64 xh) (h2 : U64 xl) (h3 : U64 yh) (h4 : U64 yl) : F_wide_U_Add (xh, xl) (yh, yl) =
    some ((hiU ((vU xh xl + vU yh yl) % 340282366920938463463374607431768211456), loU ((vU xh xl + vU yh yl) % 340282366920938463463374607431768211456)), decide (340282366920938463463374607431768211456 ≤ vU xh xl + vU yh yl)) := by
  obtain ⟨h11, h12⟩ := h1
  obtain ⟨h21, h22⟩ := h2
  obtain ⟨h31, h32⟩ := h3
  obtain ⟨h41, h42⟩ := h4
  unfold F_wide_U_Add
  simp only [Bool.cond_true_left, Bool.cond_false_right, uwrap_of, cond_eq_ite, Option.bind_some, decide_eq_true_eq, hiU, loU]
  repeat' split
  all_goals
    simp only [Option.some.injEq, Prod.mk.injEq, Option.bind_some]
    refine ⟨⟨?_, ?_⟩, ?_⟩
    all_goals first | (unfold vU; omega) | (rw [Bool.eq_iff_iff]; simp only [decide_eq_true_eq, Bool.or_eq_true, Bool.and_eq_true, beq_iff_eq, true_iff]; unfold vU; omega)
theorem f_Sub (xh xl yh yl : Int) (h1 : U64 xh) (h2 : U64 xl) (h3 : U64 yh) (h4 : U64 yl) : F_wide_U_Sub (xh, xl) (yh, yl) =
    some ((hiU ((vU xh xl - vU yh yl) % 340282366920938463463374607431768211456), loU ((vU xh xl - vU yh yl) % 340282366920938463463374607431768211456)), decide (vU xh xl < vU yh yl)) := by
  have hc := f_Cmp xh xl yh yl h1 h2 h3 h4
  obtain ⟨h11, h12⟩ := h1
  obtain ⟨h21, h22⟩ := h2
  obtain ⟨h31, h32⟩ := h3
  obtain ⟨h41, h42⟩ := h4
  unfold F_wide_U_Sub
  simp only [hc, uwrap_of, cond_eq_ite, Option.bind_some, decide_eq_true_eq, cmpI_neg]
  simp only [hiU, loU, vU]
  repeat' split
  all_goals
    simp only [Option.some.injEq, Prod.mk.injEq, Option.bind_some]
    refine ⟨⟨?_, ?_⟩, ?_⟩
    all_goals first | omega | trivial
theorem f_Shr (h l n : Int) (hh : U64 h) (hl : U64 l) (hn : I64 n) : F_wide_U_Shr (h, l) n = some (hiU (vU h l / 2 ^ n.toNat), loU (vU h l / 2 ^ n.toNat)) := by
  obtain ⟨h5, h6⟩ := hn
  unfold F_wide_U_Shr
  simp only [cond_eq_ite, decide_eq_true_eq, Option.bind_some]
  split
  · rw [show n.toNat = 0 by omega, Int.pow_zero, Int.ediv_one, hiU_v hl, loU_v hl]
  · have hw : IntKind.u64.wrap n = n := by rw [uwrap_of]; omega
    split
    · have hw2 : IntKind.u64.wrap (IntKind.i64.wrap (n - 64)) = n - 64 := by rw [uwrap_of, IntKind.wrap_i64]; omega
      simp only [hw2, fdiv_pow]
      rw [chk_none (by simp; omega), show min (n - 64).toNat 64 = min (n.toNat - 64) 64 by omega, (shr_far h l n.toNat (by omega) hh hl).1, (shr_far h l n.toNat (by omega) hh hl).2]
    · have hw2 : IntKind.u64.wrap (IntKind.i64.wrap (64 - n)) = 64 - n := by rw [uwrap_of, IntKind.wrap_i64]; omega
      simp only [hw2, hw, fdiv_pow, bits_go _ _ _ _ (.inr (.inl rfl))]
      rw [chk_none (by simp; omega), chk_none (by simp; omega), chk_none (by simp; omega), show min (64 - n).toNat 64 = 64 - n.toNat by omega, show min n.toNat 64 = n.toNat by omega, shr_lo h l n.toNat (by omega) (by omega) hh hl, shr_hi h l n.toNat (by omega) hl]
theorem f_Shl (h l n : Int) (hh : U64 h) (hl : U64 l) (hn : I64 n) : F_wide_U_Shl (h, l) n = some (hiU (vU h l * 2 ^ n.toNat % 340282366920938463463374607431768211456), loU (vU h l * 2 ^ n.toNat % 340282366920938463463374607431768211456)) := by
  obtain ⟨h5, h6⟩ := hn
  have h128 := vU_128 hh hl
  unfold F_wide_U_Shl
  simp only [cond_eq_ite, decide_eq_true_eq, Option.bind_some]
  split
  · rw [show n.toNat = 0 by omega, Int.pow_zero, Int.mul_one, Int.emod_eq_of_lt h128.1 (by have := h128.2; omega), hiU_v hl, loU_v hl]
  · have hw : IntKind.u64.wrap n = n := by rw [uwrap_of]; omega
    split
    · have hw2 : IntKind.u64.wrap (IntKind.i64.wrap (n - 64)) = n - 64 := by rw [uwrap_of, IntKind.wrap_i64]; omega
      simp only [hw2]
      rw [chk_none (by simp; omega), show min (n - 64).toNat 64 = min (n.toNat - 64) 64 by omega, (shl_far h l n.toNat (by omega)).1, (shl_far h l n.toNat (by omega)).2]
    · have hw2 : IntKind.u64.wrap (IntKind.i64.wrap (64 - n)) = 64 - n := by rw [uwrap_of, IntKind.wrap_i64]; omega
      simp only [hw2, hw, fdiv_pow, bits_go _ _ _ _ (.inr (.inl rfl))]
      rw [chk_none (by simp; omega), chk_none (by simp; omega), chk_none (by simp; omega), show min (64 - n).toNat 64 = 64 - n.toNat by omega, show min n.toNat 64 = n.toNat by omega, shl_hi h l n.toNat (by omega) (by omega) hh hl, shl_lo h l n.toNat]
end Go.Proofs.YtlkcanjbgaeceaaGreat
