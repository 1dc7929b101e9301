/- The laws of chapter 13: what their readings say is true. -/
import Derived.Test.YtlkcanjbgaeceaaGreatLaw15G
import Derived.Test.YtlkcanjbgaeceaaGreatFnsZ2
set_option linter.unusedSimpArgs false
set_option linter.unusedVariables false
namespace Go.Proofs.YtlkcanjbgaeceaaGreat
open Go.RowKit
theorem f_within13 (x lo hi : Int) : F_conf_within x lo hi = some (decide (lo ≤ x) && decide (x ≤ hi)) := by
  unfold F_conf_within
  cases decide (lo ≤ x) <;> rfl
theorem ceil_up {a b : Int} (hb : 0 < b) : quoI a b true = upP a b := by
  rw [quo_ceil hb]
  unfold upP
  have h1 := Int.emod_add_ediv_mul a b
  have h2 := Int.emod_nonneg a (show b ≠ 0 by omega)
  have h3 := Int.emod_lt_of_pos a hb
  generalize a % b = r at *
  generalize a / b = q at *
  subst h1
  split
  · have hr : r = 0 := by omega
    subst hr
    apply Int.le_antisymm
    · rw [Int.le_ediv_iff_mul_le hb]; omega
    · have : (0 + q * b + b - 1) / b < q + 1 := by
        rw [Int.ediv_lt_iff_lt_mul hb, Int.add_mul]; omega
      omega
  · apply Int.le_antisymm
    · rw [Int.le_ediv_iff_mul_le hb, Int.add_mul]; omega
    · have : (r + q * b + b - 1) / b < q + 1 + 1 := by
        rw [Int.ediv_lt_iff_lt_mul hb, Int.add_mul, Int.add_mul]; omega
      omega
theorem up_bound {a b : Int} (ha : 0 ≤ a) (hb : 0 < b) : 0 ≤ upP a b ∧ upP a b ≤ a := by
  unfold upP
  have h0 : 0 ≤ a + b - 1 := by omega
  refine ⟨Int.ediv_nonneg h0 (by omega), ?_⟩
  have : (a + b - 1) / b < a + 1 := by
    rw [Int.ediv_lt_iff_lt_mul hb, Int.add_mul]
    have := Int.mul_le_mul_of_nonneg_left (show 1 ≤ b by omega) ha
    omega
  omega
theorem f_pulse (c : Cf) (h1 : 0 < c.1) (h2 : c.1 ≤ 1024) (h3 : 0 ≤ c.2.2.1) (h4 : c.2.2.1 ≤ 8388608) : F_conf_Config_pulse c = some (upP c.2.2.1 c.1) := by
  unfold F_conf_Config_pulse
  have := up_bound h3 h1
  rw [f_Ceil _ _ _ ⟨by omega, by omega⟩ ⟨by omega, by omega⟩ ⟨by omega, by omega⟩, if_neg (by omega), Option.bind_some, ceil_up h1, Int.mul_one]
  unfold sayI
  rw [if_pos (in64_yes (by omega))]
theorem r13_1 (a1 a2 a3 a4 a5 a6 a7 a8 a9 a10 a11 a12 a13 a14 : Int) : F_conf_Config_rules_1 a1 a2 a3 a4 a5 a6 a7 a8 a9 a10 a11 a12 a13 a14 = some ((decide (1 ≤ a1) && decide (a1 ≤ 1024)), a1, a2, a3, a4, a5, a6, a7, a8, a9, a10, a11, a12, a13, a14) := by
  unfold F_conf_Config_rules_1
  rw [f_within13]; rfl
theorem r13_2 (a1 a2 a3 a4 a5 a6 a7 a8 a9 a10 a11 a12 a13 a14 : Int) : F_conf_Config_rules_2 a1 a2 a3 a4 a5 a6 a7 a8 a9 a10 a11 a12 a13 a14 = some (((decide (131072 ≤ a2) && decide (a2 ≤ 8388608)) && (decide (a2 ≤ a3) && decide (a3 ≤ 8388608))), a1, a2, a3, a4, a5, a6, a7, a8, a9, a10, a11, a12, a13, a14) := by
  unfold F_conf_Config_rules_2
  simp only [f_within13, Option.bind_some]
  cases (decide (131072 ≤ a2) && decide (a2 ≤ 8388608)) <;> simp
theorem r13_3 (a1 a2 a3 a4 a5 a6 a7 a8 a9 a10 a11 a12 a13 a14 : Int) : F_conf_Config_rules_3 a1 a2 a3 a4 a5 a6 a7 a8 a9 a10 a11 a12 a13 a14 = some (decide (IntKind.i64.wrap (16 * IntKind.i64.wrap (a3 - a2)) ≤ a2), a1, a2, a3, a4, a5, a6, a7, a8, a9, a10, a11, a12, a13, a14) := by
  unfold F_conf_Config_rules_3
  rfl
theorem r13_4 (a1 a2 a3 a4 a5 a6 a7 a8 a9 a10 a11 a12 a13 a14 : Int) : F_conf_Config_rules_4 a1 a2 a3 a4 a5 a6 a7 a8 a9 a10 a11 a12 a13 a14 = some (((decide (0 ≤ a4) && decide (a4 ≤ 1048576)) && (decide (0 ≤ a5) && decide (a5 ≤ 65536))), a1, a2, a3, a4, a5, a6, a7, a8, a9, a10, a11, a12, a13, a14) := by
  unfold F_conf_Config_rules_4
  simp only [f_within13, Option.bind_some]
  cases (decide (0 ≤ a4) && decide (a4 ≤ 1048576)) <;> simp
theorem r13_5 (a1 a2 a3 a4 a5 a6 a7 a8 a9 a10 a11 a12 a13 a14 : Int) : F_conf_Config_rules_5 a1 a2 a3 a4 a5 a6 a7 a8 a9 a10 a11 a12 a13 a14 = some ((decide (0 ≤ a6) && decide (a6 ≤ 1048576)), a1, a2, a3, a4, a5, a6, a7, a8, a9, a10, a11, a12, a13, a14) := by
  unfold F_conf_Config_rules_5
  rw [f_within13]; rfl
theorem r13_6 (a1 a2 a3 a4 a5 a6 a7 a8 a9 a10 a11 a12 a13 a14 : Int) : F_conf_Config_rules_6 a1 a2 a3 a4 a5 a6 a7 a8 a9 a10 a11 a12 a13 a14 = some (((decide (1 ≤ a7) && decide (a7 ≤ 16777216)) && (decide (1 ≤ a8) && decide (a8 ≤ 1048576))), a1, a2, a3, a4, a5, a6, a7, a8, a9, a10, a11, a12, a13, a14) := by
  unfold F_conf_Config_rules_6
  simp only [f_within13, Option.bind_some]
  cases (decide (1 ≤ a7) && decide (a7 ≤ 16777216)) <;> simp
theorem r13_7 (a1 a2 a3 a4 a5 a6 a7 a8 a9 a10 a11 a12 a13 a14 : Int) : F_conf_Config_rules_7 a1 a2 a3 a4 a5 a6 a7 a8 a9 a10 a11 a12 a13 a14 = some (decide (IntKind.i64.wrap (a7 * a1) ≤ IntKind.i64.wrap (32000 * a2)), a1, a2, a3, a4, a5, a6, a7, a8, a9, a10, a11, a12, a13, a14) := by
  unfold F_conf_Config_rules_7
  rfl
theorem r13_8 (a1 a2 a3 a4 a5 a6 a7 a8 a9 a10 a11 a12 a13 a14 : Int) : F_conf_Config_rules_8 a1 a2 a3 a4 a5 a6 a7 a8 a9 a10 a11 a12 a13 a14 = some ((decide (0 ≤ a9) && decide (a9 ≤ 1048576)), a1, a2, a3, a4, a5, a6, a7, a8, a9, a10, a11, a12, a13, a14) := by
  unfold F_conf_Config_rules_8
  rw [f_within13]; rfl
theorem r13_9 (a1 a2 a3 a4 a5 a6 a7 a8 a9 a10 a11 a12 a13 a14 : Int) : F_conf_Config_rules_9 a1 a2 a3 a4 a5 a6 a7 a8 a9 a10 a11 a12 a13 a14 = some (((decide (1 ≤ a10) && decide (a10 ≤ 1000)) && (decide (1 ≤ a13) && decide (a13 ≤ 1000))), a1, a2, a3, a4, a5, a6, a7, a8, a9, a10, a11, a12, a13, a14) := by
  unfold F_conf_Config_rules_9
  simp only [f_within13, Option.bind_some]
  cases (decide (1 ≤ a10) && decide (a10 ≤ 1000)) <;> simp
theorem r13_11 (a1 a2 a3 a4 a5 a6 a7 a8 a9 a10 a11 a12 a13 a14 : Int) : F_conf_Config_rules_11 a1 a2 a3 a4 a5 a6 a7 a8 a9 a10 a11 a12 a13 a14 = some ((decide (0 ≤ a12) && decide (a12 ≤ 1073741824)), a1, a2, a3, a4, a5, a6, a7, a8, a9, a10, a11, a12, a13, a14) := by
  unfold F_conf_Config_rules_11
  rw [f_within13]; rfl
theorem r13_12 (a1 a2 a3 a4 a5 a6 a7 a8 a9 a10 a11 a12 a13 a14 : Int) : F_conf_Config_rules_12 a1 a2 a3 a4 a5 a6 a7 a8 a9 a10 a11 a12 a13 a14 = some ((decide (1 ≤ a14) && decide (a14 ≤ 1048576)), a1, a2, a3, a4, a5, a6, a7, a8, a9, a10, a11, a12, a13, a14) := by
  unfold F_conf_Config_rules_12
  rw [f_within13]; rfl
theorem r13_10 (a1 a2 a3 a4 a5 a6 a7 a8 a9 a10 a11 a12 a13 a14 : Int) (h1 : 0 < a1) (h2 : a1 ≤ 1024) (h3 : 0 ≤ a3) (h4 : a3 ≤ 8388608) : F_conf_Config_rules_10 a1 a2 a3 a4 a5 a6 a7 a8 a9 a10 a11 a12 a13 a14 = some (decide ((if IntKind.i64.wrap (3 * a4) > upP a3 a1 then IntKind.i64.wrap (3 * a4) else upP a3 a1) ≤ a11) && decide (a11 ≤ 16777216), a1, a2, a3, a4, a5, a6, a7, a8, a9, a10, a11, a12, a13, a14) := by
  unfold F_conf_Config_rules_10
  simp only []
  rw [f_pulse (a1, a2, a3, a4, a5, a6, a7, a8, a9, a10, a11, a12, a13, a14) h1 h2 h3 h4]
  simp only [Option.bind_some, f_within13]
def confR (c : Cf) : Int × Int := if wrongC c = 0 then (0, 0) else (50, wrongC c)
theorem f_confCheck (c : Cf) : F_conf_Config_Check c = some (confR c) := by
  obtain ⟨p, lo, hi, rb, rp, ae, ms, ma, an, st, ss, ro, ti, br⟩ := c
  unfold F_conf_Config_Check F_conf_Config_rules confR wrongC
  simp only [Option.bind_some]
  rw [r13_1, Option.bind_some]
  simp only []
  by_cases h1 : p < 1 ∨ 1024 < p
  · have e : (decide (1 ≤ p) && decide (p ≤ 1024)) = false := by
      rw [Bool.eq_false_iff]
      simp only [ne_eq, Bool.and_eq_true, decide_eq_true_eq]
      omega
    rw [e]
    simp only [if_pos h1, Bool.not_false, cond_true]
    rfl
  have e : (decide (1 ≤ p) && decide (p ≤ 1024)) = true := by
    simp only [Bool.and_eq_true, decide_eq_true_eq]
    omega
  rw [e]
  clear e
  simp only [if_neg h1, Bool.not_true, cond_false]
  rw [r13_2, Option.bind_some]
  simp only []
  by_cases h2 : lo < 131072 ∨ 8388608 < lo ∨ hi < lo ∨ 8388608 < hi
  · have e : ((decide (131072 ≤ lo) && decide (lo ≤ 8388608)) && (decide (lo ≤ hi) && decide (hi ≤ 8388608))) = false := by
      rw [Bool.eq_false_iff]
      simp only [ne_eq, Bool.and_eq_true, decide_eq_true_eq]
      omega
    rw [e]
    simp only [if_pos h2, Bool.not_false, cond_true]
    rfl
  have e : ((decide (131072 ≤ lo) && decide (lo ≤ 8388608)) && (decide (lo ≤ hi) && decide (hi ≤ 8388608))) = true := by
    simp only [Bool.and_eq_true, decide_eq_true_eq]
    omega
  rw [e]
  clear e
  simp only [if_neg h2, Bool.not_true, cond_false]
  have w1 : IntKind.i64.wrap (16 * IntKind.i64.wrap (hi - lo)) = 16 * (hi - lo) := by
    rw [wrap_ok (n := hi - lo) (by omega), wrap_ok (by omega)]
  rw [r13_3, Option.bind_some, w1]
  simp only []
  by_cases h3 : lo < (hi - lo) * 16
  · have e : decide (16 * (hi - lo) ≤ lo) = false := by
      rw [Bool.eq_false_iff]
      simp only [ne_eq, Bool.and_eq_true, decide_eq_true_eq]
      omega
    rw [e]
    simp only [if_pos h3, Bool.not_false, cond_true]
    rfl
  have e : decide (16 * (hi - lo) ≤ lo) = true := by
    simp only [Bool.and_eq_true, decide_eq_true_eq]
    omega
  rw [e]
  clear e
  simp only [if_neg h3, Bool.not_true, cond_false]
  rw [r13_4, Option.bind_some]
  simp only []
  by_cases h4 : rb < 0 ∨ 1048576 < rb ∨ rp < 0 ∨ 65536 < rp
  · have e : ((decide (0 ≤ rb) && decide (rb ≤ 1048576)) && (decide (0 ≤ rp) && decide (rp ≤ 65536))) = false := by
      rw [Bool.eq_false_iff]
      simp only [ne_eq, Bool.and_eq_true, decide_eq_true_eq]
      omega
    rw [e]
    simp only [if_pos h4, Bool.not_false, cond_true]
    rfl
  have e : ((decide (0 ≤ rb) && decide (rb ≤ 1048576)) && (decide (0 ≤ rp) && decide (rp ≤ 65536))) = true := by
    simp only [Bool.and_eq_true, decide_eq_true_eq]
    omega
  rw [e]
  clear e
  simp only [if_neg h4, Bool.not_true, cond_false]
  rw [r13_5, Option.bind_some]
  simp only []
  by_cases h5 : ae < 0 ∨ 1048576 < ae
  · have e : (decide (0 ≤ ae) && decide (ae ≤ 1048576)) = false := by
      rw [Bool.eq_false_iff]
      simp only [ne_eq, Bool.and_eq_true, decide_eq_true_eq]
      omega
    rw [e]
    simp only [if_pos h5, Bool.not_false, cond_true]
    rfl
  have e : (decide (0 ≤ ae) && decide (ae ≤ 1048576)) = true := by
    simp only [Bool.and_eq_true, decide_eq_true_eq]
    omega
  rw [e]
  clear e
  simp only [if_neg h5, Bool.not_true, cond_false]
  rw [r13_6, Option.bind_some]
  simp only []
  by_cases h6 : ms < 1 ∨ 16777216 < ms ∨ ma < 1 ∨ 1048576 < ma
  · have e : ((decide (1 ≤ ms) && decide (ms ≤ 16777216)) && (decide (1 ≤ ma) && decide (ma ≤ 1048576))) = false := by
      rw [Bool.eq_false_iff]
      simp only [ne_eq, Bool.and_eq_true, decide_eq_true_eq]
      omega
    rw [e]
    simp only [if_pos h6, Bool.not_false, cond_true]
    rfl
  have e : ((decide (1 ≤ ms) && decide (ms ≤ 16777216)) && (decide (1 ≤ ma) && decide (ma ≤ 1048576))) = true := by
    simp only [Bool.and_eq_true, decide_eq_true_eq]
    omega
  rw [e]
  clear e
  simp only [if_neg h6, Bool.not_true, cond_false]
  have hm := mul_pq (x := ms) (y := p) (X := 16777216) (Y := 1024) (by omega) (by omega) (by omega) (by omega)
  rw [r13_7, Option.bind_some, wrap_ok (n := ms * p) (by omega), wrap_ok (n := 32000 * lo) (by omega)]
  simp only []
  by_cases h7 : 32000 * lo < ms * p
  · have e : decide (ms * p ≤ 32000 * lo) = false := by
      rw [Bool.eq_false_iff]
      simp only [ne_eq, Bool.and_eq_true, decide_eq_true_eq]
      omega
    rw [e]
    simp only [if_pos h7, Bool.not_false, cond_true]
    rfl
  have e : decide (ms * p ≤ 32000 * lo) = true := by
    simp only [Bool.and_eq_true, decide_eq_true_eq]
    omega
  rw [e]
  clear e
  simp only [if_neg h7, Bool.not_true, cond_false]
  rw [r13_8, Option.bind_some]
  simp only []
  by_cases h8 : an < 0 ∨ 1048576 < an
  · have e : (decide (0 ≤ an) && decide (an ≤ 1048576)) = false := by
      rw [Bool.eq_false_iff]
      simp only [ne_eq, Bool.and_eq_true, decide_eq_true_eq]
      omega
    rw [e]
    simp only [if_pos h8, Bool.not_false, cond_true]
    rfl
  have e : (decide (0 ≤ an) && decide (an ≤ 1048576)) = true := by
    simp only [Bool.and_eq_true, decide_eq_true_eq]
    omega
  rw [e]
  clear e
  simp only [if_neg h8, Bool.not_true, cond_false]
  rw [r13_9, Option.bind_some]
  simp only []
  by_cases h9 : st < 1 ∨ 1000 < st ∨ ti < 1 ∨ 1000 < ti
  · have e : ((decide (1 ≤ st) && decide (st ≤ 1000)) && (decide (1 ≤ ti) && decide (ti ≤ 1000))) = false := by
      rw [Bool.eq_false_iff]
      simp only [ne_eq, Bool.and_eq_true, decide_eq_true_eq]
      omega
    rw [e]
    simp only [if_pos h9, Bool.not_false, cond_true]
    rfl
  have e : ((decide (1 ≤ st) && decide (st ≤ 1000)) && (decide (1 ≤ ti) && decide (ti ≤ 1000))) = true := by
    simp only [Bool.and_eq_true, decide_eq_true_eq]
    omega
  rw [e]
  clear e
  simp only [if_neg h9, Bool.not_true, cond_false]
  have hu := up_bound (a := hi) (b := p) (by omega) (by omega)
  have w3 : IntKind.i64.wrap (3 * rb) = 3 * rb := wrap_ok (by omega)
  rw [r13_10 _ _ _ _ _ _ _ _ _ _ _ _ _ _ (by omega) (by omega) (by omega) (by omega), Option.bind_some, w3]
  simp only []
  by_cases h10 : ss < upP hi p ∨ ss < 3 * rb ∨ 16777216 < ss
  · have e : (decide ((if 3 * rb > upP hi p then 3 * rb else upP hi p) ≤ ss) && decide (ss ≤ 16777216)) = false := by
      rw [Bool.eq_false_iff]
      simp only [ne_eq, Bool.and_eq_true, decide_eq_true_eq]
      split <;> omega
    rw [e]
    simp only [if_pos h10, Bool.not_false, cond_true]
    rfl
  have e : (decide ((if 3 * rb > upP hi p then 3 * rb else upP hi p) ≤ ss) && decide (ss ≤ 16777216)) = true := by
    simp only [Bool.and_eq_true, decide_eq_true_eq]
    split <;> omega
  rw [e]
  clear e
  simp only [if_neg h10, Bool.not_true, cond_false]
  rw [r13_11, Option.bind_some]
  simp only []
  by_cases h11 : ro < 0 ∨ 1073741824 < ro
  · have e : (decide (0 ≤ ro) && decide (ro ≤ 1073741824)) = false := by
      rw [Bool.eq_false_iff]
      simp only [ne_eq, Bool.and_eq_true, decide_eq_true_eq]
      omega
    rw [e]
    simp only [if_pos h11, Bool.not_false, cond_true]
    rfl
  have e : (decide (0 ≤ ro) && decide (ro ≤ 1073741824)) = true := by
    simp only [Bool.and_eq_true, decide_eq_true_eq]
    omega
  rw [e]
  clear e
  simp only [if_neg h11, Bool.not_true, cond_false]
  rw [r13_12, Option.bind_some]
  simp only []
  by_cases h12 : br < 1 ∨ 1048576 < br
  · have e : (decide (1 ≤ br) && decide (br ≤ 1048576)) = false := by
      rw [Bool.eq_false_iff]
      simp only [ne_eq, Bool.and_eq_true, decide_eq_true_eq]
      omega
    rw [e]
    simp only [if_pos h12, Bool.not_false, cond_true]
    rfl
  have e : (decide (1 ≤ br) && decide (br ≤ 1048576)) = true := by
    simp only [Bool.and_eq_true, decide_eq_true_eq]
    omega
  rw [e]
  clear e
  simp only [if_neg h12, Bool.not_true, cond_false]
  rfl
end Go.Proofs.YtlkcanjbgaeceaaGreat
