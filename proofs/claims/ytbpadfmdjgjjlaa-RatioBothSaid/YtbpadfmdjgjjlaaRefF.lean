/- What the readings of the reference's long numbers say. -/
import Derived.Test.YtbpadfmdjgjjlaaRatioF
set_option linter.unusedSimpArgs false
set_option linter.unusedVariables false
namespace Go.Proofs.Ytbpadfmdjgjjlaa
abbrev D4 := Int × Int × Int × Int
/-- The digits of a number below 2^128. -/
def dg (m : Int) : D4 := (m % 4294967296, m / 4294967296 % 4294967296, m / 18446744073709551616 % 4294967296, m / 79228162514264337593543950336 % 4294967296)
def numD (d : D4) : Int := d.1 + 4294967296 * d.2.1 + 18446744073709551616 * d.2.2.1 + 79228162514264337593543950336 * d.2.2.2
def isD (d : D4) : Prop := (0 ≤ d.1 ∧ d.1 < 4294967296) ∧ (0 ≤ d.2.1 ∧ d.2.1 < 4294967296) ∧ (0 ≤ d.2.2.1 ∧ d.2.2.1 < 4294967296) ∧ (0 ≤ d.2.2.2 ∧ d.2.2.2 < 4294967296)
theorem dg_of (d : D4) (h : isD d) : d = dg (numD d) := by
  obtain ⟨a, b, c, e⟩ := d
  obtain ⟨h1, h2, h3, h4⟩ := h
  simp only at h1 h2 h3 h4
  unfold dg numD
  simp only [Prod.mk.injEq]
  refine ⟨?_, ?_, ?_, ?_⟩ <;> omega
theorem dg_isD (m : Int) : isD (dg m) := by
  unfold dg isD
  simp only
  refine ⟨⟨?_, ?_⟩, ⟨?_, ?_⟩, ⟨?_, ?_⟩, ?_, ?_⟩ <;> omega
theorem num_dg {m : Int} (h : U128 m) : numD (dg m) = m := by
  obtain ⟨h1, h2⟩ := h
  unfold dg numD
  simp only
  omega
theorem numD_128 {d : D4} (h : isD d) : U128 (numD d) := by
  obtain ⟨h1, h2, h3, h4⟩ := h
  unfold numD U128
  omega
def sgI (a : Int) : Int := if a < 0 then -1 else 1
theorem f_RefSize (a : Int) (ha : I64 a) : F_ref01_Size a = some (szI a) := by
  obtain ⟨h1, h2⟩ := ha
  unfold F_ref01_Size szI
  by_cases h : 0 ≤ a
  · rw [decide_eq_true h, cond_true, uwrap_of, if_neg (by omega)]
    congr 1; omega
  · rw [decide_eq_false h, cond_false, if_pos (by omega)]
    simp only [uwrap_of, IntKind.wrap_i64]
    congr 1; omega
theorem f_Of (a : Int) (ha : I64 a) : F_ref01_Of a = some (sgI a, dg (szI a)) := by
  have hs := szI_64 ha
  unfold F_ref01_Of
  rw [f_RefSize a ha, Option.bind_some]
  simp only [uwrap_of]
  rw [Int.tmod_eq_emod_of_nonneg hs.1, Int.tdiv_eq_ediv_of_nonneg hs.1]
  have e : dg (szI a) = (szI a % 4294967296, szI a / 4294967296 % 18446744073709551616, 0, 0) := by
    unfold dg
    simp only [Prod.mk.injEq, true_and]
    refine ⟨?_, ?_, ?_⟩ <;> omega
  rw [e]
  unfold sgI
  by_cases h : a < 0
  · rw [decide_eq_true h, if_pos h]; rfl
  · rw [decide_eq_false h, if_neg h]; rfl
theorem f_Minor (s : Int) (d : D4) (h : s = 1 ∨ s = -1) : F_ref01_Minor (s, d) = some (-s, d) := by
  unfold F_ref01_Minor
  rcases h with rfl | rfl <;> rfl
theorem f_Plus (a b : D4) (ha : isD a) (hb : isD b) (hs : numD a + numD b < 340282366920938463463374607431768211456) : F_ref01_Plus a b = some (dg (numD a + numD b)) := by
  obtain ⟨a0, a1, a2, a3⟩ := a
  obtain ⟨b0, b1, b2, b3⟩ := b
  obtain ⟨h1, h2, h3, h4⟩ := ha
  obtain ⟨k1, k2, k3, k4⟩ := hb
  simp only at h1 h2 h3 h4 k1 k2 k3 k4
  unfold F_ref01_Plus
  simp only [uwrap_of]
  rw [Int.tmod_eq_emod_of_nonneg (by omega), Int.tmod_eq_emod_of_nonneg (by omega), Int.tmod_eq_emod_of_nonneg (by omega), Int.tmod_eq_emod_of_nonneg (by omega)]
  rw [Int.tdiv_eq_ediv_of_nonneg (by omega), Int.tdiv_eq_ediv_of_nonneg (by omega), Int.tdiv_eq_ediv_of_nonneg (by omega)]
  have main : ∀ d : D4, isD d → numD d = numD (a0, a1, a2, a3) + numD (b0, b1, b2, b3) → some d = some (dg (numD (a0, a1, a2, a3) + numD (b0, b1, b2, b3))) := fun d hd e => by rw [← e, ← dg_of d hd]
  unfold numD at hs
  simp only at hs
  refine main _ ?_ ?_
  · unfold isD
    simp only
    refine ⟨⟨?_, ?_⟩, ⟨?_, ?_⟩, ⟨?_, ?_⟩, ?_, ?_⟩ <;> omega
  · unfold numD
    simp only
    omega
theorem f_Less (a b : D4) (ha : isD a) (hb : isD b) : F_ref01_Less a b = some (decide (numD a < numD b)) := by
  obtain ⟨a0, a1, a2, a3⟩ := a
  obtain ⟨b0, b1, b2, b3⟩ := b
  obtain ⟨h1, h2, h3, h4⟩ := ha
  obtain ⟨k1, k2, k3, k4⟩ := hb
  simp only at h1 h2 h3 h4 k1 k2 k3 k4
  unfold F_ref01_Less
  have e : ∀ p : Prop, ∀ _ : Decidable p, ∀ c : Bool, (c = true ↔ p) → some c = some (decide p) := fun p _ c h => by
    congr 1
    rw [Bool.eq_iff_iff, h, decide_eq_true_eq]
  by_cases g3 : a3 = b3
  · subst g3
    by_cases g2 : a2 = b2
    · subst g2
      by_cases g1 : a1 = b1
      · subst g1
        by_cases g0 : a0 = b0
        · subst g0
          simp only [bne_self_eq_false, cond_false]
          exact e _ _ _ (by simp)
        · have : (a0 != b0) = true := by simpa using g0
          simp only [bne_self_eq_false, cond_false, this, cond_true]
          exact e _ _ _ (by unfold numD; simp only [decide_eq_true_eq]; omega)
      · have : (a1 != b1) = true := by simpa using g1
        simp only [bne_self_eq_false, cond_false, this, cond_true]
        exact e _ _ _ (by unfold numD; simp only [decide_eq_true_eq]; omega)
    · have : (a2 != b2) = true := by simpa using g2
      simp only [bne_self_eq_false, cond_false, this, cond_true]
      exact e _ _ _ (by unfold numD; simp only [decide_eq_true_eq]; omega)
  · have : (a3 != b3) = true := by simpa using g3
    simp only [this, cond_true]
    exact e _ _ _ (by unfold numD; simp only [decide_eq_true_eq]; omega)
theorem minus_digit (a b c : Int) (ha : 0 ≤ a ∧ a < 4294967296) (hb : 0 ≤ b ∧ b < 4294967296) (hc : c = 0 ∨ c = 1) :
    ∃ d c', ((((a + 4294967296) % 18446744073709551616 - b) % 18446744073709551616 - c) % 18446744073709551616).tmod 4294967296 = d ∧
      (1 - ((((a + 4294967296) % 18446744073709551616 - b) % 18446744073709551616 - c) % 18446744073709551616).tdiv 4294967296 % 18446744073709551616) % 18446744073709551616 = c' ∧ (c' = 0 ∨ c' = 1) ∧ (0 ≤ d ∧ d < 4294967296) ∧ d = a - b - c + 4294967296 * c' := by
  have e : (((a + 4294967296) % 18446744073709551616 - b) % 18446744073709551616 - c) % 18446744073709551616 = a + 4294967296 - b - c := by omega
  rw [e, Int.tmod_eq_emod_of_nonneg (by omega), Int.tdiv_eq_ediv_of_nonneg (by omega)]
  refine ⟨_, _, rfl, rfl, ?_, ?_, ?_⟩ <;> omega
theorem f_Minus (a b : D4) (ha : isD a) (hb : isD b) (hle : numD b ≤ numD a) : F_ref01_Minus a b = some (dg (numD a - numD b)) := by
  obtain ⟨a0, a1, a2, a3⟩ := a
  obtain ⟨b0, b1, b2, b3⟩ := b
  obtain ⟨h1, h2, h3, h4⟩ := ha
  obtain ⟨k1, k2, k3, k4⟩ := hb
  simp only at h1 h2 h3 h4 k1 k2 k3 k4
  unfold F_ref01_Minus
  simp only [uwrap_of]
  obtain ⟨d0, c0, p0, q0, r0, s0, t0⟩ := minus_digit a0 b0 0 h1 k1 (.inl rfl)
  rw [q0, p0]
  obtain ⟨d1, c1, p1, q1, r1, s1, t1⟩ := minus_digit a1 b1 c0 h2 k2 r0
  rw [q1, p1]
  obtain ⟨d2, c2, p2, q2, r2, s2, t2⟩ := minus_digit a2 b2 c1 h3 k3 r1
  rw [q2, p2]
  obtain ⟨d3, c3, p3, q3, r3, s3, t3⟩ := minus_digit a3 b3 c2 h4 k4 r2
  rw [p3]
  have main : ∀ d : D4, isD d → numD d = numD (a0, a1, a2, a3) - numD (b0, b1, b2, b3) → some d = some (dg (numD (a0, a1, a2, a3) - numD (b0, b1, b2, b3))) := fun d hd e => by rw [← e, ← dg_of d hd]
  unfold numD at hle
  simp only at hle
  refine main _ ⟨s0, s1, s2, s3⟩ ?_
  unfold numD
  simp only
  omega
theorem times_plain (a0 a1 b0 b1 : Int) (h0 : 0 ≤ a0 ∧ a0 ≤ 4294967295) (h1 : 0 ≤ a1 ∧ a1 ≤ 4294967295) (k0 : 0 ≤ b0 ∧ b0 ≤ 4294967295) (k1 : 0 ≤ b1 ∧ b1 ≤ 4294967295) :
    let p := (a0 * b0 % 18446744073709551616 + 0) % 18446744073709551616
    let q := (p + 0) % 18446744073709551616
    let d0 := q.tmod 4294967296
    let c0 := q.tdiv 4294967296 % 18446744073709551616
    let q1 := ((a0 * b1 % 18446744073709551616 + 0) % 18446744073709551616 + c0) % 18446744073709551616
    let e1 := q1.tmod 4294967296
    let e2 := (0 + q1.tdiv 4294967296 % 18446744073709551616) % 18446744073709551616
    let q2 := ((a1 * b0 % 18446744073709551616 + e1) % 18446744073709551616 + 0) % 18446744073709551616
    let d1 := q2.tmod 4294967296
    let c2 := q2.tdiv 4294967296 % 18446744073709551616
    let q3 := ((a1 * b1 % 18446744073709551616 + e2) % 18446744073709551616 + c2) % 18446744073709551616
    let d2 := q3.tmod 4294967296
    let d3 := (0 + q3.tdiv 4294967296 % 18446744073709551616) % 18446744073709551616
    isD (d0, d1, d2, d3) ∧ numD (d0, d1, d2, d3) = a0 * b0 + 4294967296 * (a0 * b1) + 4294967296 * (a1 * b0) + 18446744073709551616 * (a1 * b1) := by
  have m1 := mul_bound h0.1 h0.2 k0.1 k0.2
  have m2 := mul_bound h0.1 h0.2 k1.1 k1.2
  have m3 := mul_bound h1.1 h1.2 k0.1 k0.2
  have m4 := mul_bound h1.1 h1.2 k1.1 k1.2
  have hb : a0 * b0 + 4294967296 * (a0 * b1) + 4294967296 * (a1 * b0) + 18446744073709551616 * (a1 * b1) < 340282366920938463463374607431768211456 := by omega
  generalize a0 * b0 = A at *
  generalize a0 * b1 = B at *
  generalize a1 * b0 = C at *
  generalize a1 * b1 = D at *
  intro p q d0 c0 q1 e1 e2 q2 d1 c2 q3 d2 d3
  have t : ∀ x : Int, 0 ≤ x → x.tmod 4294967296 = x % 4294967296 ∧ x.tdiv 4294967296 = x / 4294967296 := fun x hx => ⟨Int.tmod_eq_emod_of_nonneg hx, Int.tdiv_eq_ediv_of_nonneg hx⟩
  have hq : q = A := by show ((A % 18446744073709551616 + 0) % 18446744073709551616 + 0) % 18446744073709551616 = A; omega
  have hd0 : d0 = A % 4294967296 := by show q.tmod 4294967296 = _; rw [hq, (t A m1.1).1]
  have hc0 : c0 = A / 4294967296 := by show q.tdiv 4294967296 % _ = _; rw [hq, (t A m1.1).2]; omega
  have hq1 : q1 = B + A / 4294967296 := by show ((B % 18446744073709551616 + 0) % 18446744073709551616 + c0) % 18446744073709551616 = _; rw [hc0]; omega
  have he1 : e1 = q1 % 4294967296 := (t q1 (by omega)).1
  have he2 : e2 = q1 / 4294967296 := by show (0 + q1.tdiv 4294967296 % _) % _ = _; rw [(t q1 (by omega)).2]; omega
  have hq2 : q2 = C + e1 := by show ((C % 18446744073709551616 + e1) % 18446744073709551616 + 0) % 18446744073709551616 = _; omega
  have hd1 : d1 = q2 % 4294967296 := (t q2 (by omega)).1
  have hc2 : c2 = q2 / 4294967296 := by show q2.tdiv 4294967296 % _ = _; rw [(t q2 (by omega)).2]; omega
  have hq3 : q3 = D + e2 + c2 := by show ((D % 18446744073709551616 + e2) % 18446744073709551616 + c2) % 18446744073709551616 = _; omega
  have hd2 : d2 = q3 % 4294967296 := (t q3 (by omega)).1
  have hd3 : d3 = q3 / 4294967296 := by show (0 + q3.tdiv 4294967296 % _) % _ = _; rw [(t q3 (by omega)).2]; omega
  clear_value p q d0 c0 q1 e1 e2 q2 d1 c2 q3 d2 d3
  subst hd0 hc0 hq1 he1 he2 hq2 hd1 hc2 hq3 hd2 hd3
  unfold isD numD
  simp only
  refine ⟨⟨⟨?_, ?_⟩, ⟨?_, ?_⟩, ⟨?_, ?_⟩, ?_, ?_⟩, ?_⟩ <;> omega
theorem f_Times01 (a b : Int) (ha : I64 a) (hb : I64 b) : F_ref01_Times a b = some (sgI a * sgI b, dg (szI a * szI b)) := by
  have hA := szI_64 ha
  have hB := szI_64 hb
  have e1 : IntKind.i64.wrap (sgI a * sgI b) = sgI a * sgI b := by unfold sgI; split <;> split <;> rfl
  unfold F_ref01_Times
  rw [f_Of a ha, f_Of b hb]
  simp only [Option.bind_some, uwrap_of, e1]
  obtain ⟨h1, h2⟩ := times_plain (szI a % 4294967296) (szI a / 4294967296 % 4294967296) (szI b % 4294967296) (szI b / 4294967296 % 4294967296) (by omega) (by omega) (by omega) (by omega)
  have hv : szI a % 4294967296 * (szI b % 4294967296) + 4294967296 * (szI a % 4294967296 * (szI b / 4294967296 % 4294967296)) + 4294967296 * (szI a / 4294967296 % 4294967296 * (szI b % 4294967296)) +
      18446744073709551616 * (szI a / 4294967296 % 4294967296 * (szI b / 4294967296 % 4294967296)) = szI a * szI b := by
    have x1 : szI a = szI a % 4294967296 + 4294967296 * (szI a / 4294967296 % 4294967296) := by omega
    have x2 : szI b = szI b % 4294967296 + 4294967296 * (szI b / 4294967296 % 4294967296) := by omega
    conv => rhs; rw [x1, x2]
    generalize szI a % 4294967296 = p
    generalize szI a / 4294967296 % 4294967296 = q
    generalize szI b % 4294967296 = r
    generalize szI b / 4294967296 % 4294967296 = s
    rw [Int.add_mul, Int.mul_add, Int.mul_add, Int.mul_left_comm p, Int.mul_assoc, Int.mul_assoc, Int.mul_left_comm q]
    omega
  rw [hv] at h2
  refine congrArg some (Prod.ext rfl ?_)
  rw [← h2]
  exact dg_of _ h1
/-- Sums of two long numbers, with their signs. -/
theorem f_Sum (s t x y : Int) (hs : s = 1 ∨ s = -1) (ht : t = 1 ∨ t = -1) (hx : U128 x) (hy : U128 y) (hxy : s = t → x + y < 340282366920938463463374607431768211456) :
    F_ref01_Sum (s, dg x) (t, dg y) = some (if s = t then (s, dg (x + y)) else if x < y then (t, dg (y - x)) else (s, dg (x - y))) := by
  have nx := num_dg hx
  have ny := num_dg hy
  unfold F_ref01_Sum
  by_cases h : s = t
  · subst h
    have hp := f_Plus (dg x) (dg y) (dg_isD x) (dg_isD y) (by rw [nx, ny]; exact hxy rfl)
    rw [nx, ny] at hp
    simp only [beq_self_eq_true, cond_true, if_true, hp, Option.bind_some]
  · have hne : (s == t) = false := by simpa using h
    have hl := f_Less (dg x) (dg y) (dg_isD x) (dg_isD y)
    rw [nx, ny] at hl
    simp only [hne, cond_false, if_neg h, hl, Option.bind_some]
    by_cases hlt : x < y
    · have hm := f_Minus (dg y) (dg x) (dg_isD y) (dg_isD x) (by rw [nx, ny]; omega)
      rw [nx, ny] at hm
      rw [decide_eq_true hlt, cond_true, if_pos hlt, hm, Option.bind_some]
    · have hm := f_Minus (dg x) (dg y) (dg_isD x) (dg_isD y) (by rw [nx, ny]; omega)
      rw [nx, ny] at hm
      rw [decide_eq_false hlt, cond_false, if_neg hlt, hm, Option.bind_some]
end Go.Proofs.Ytbpadfmdjgjjlaa
