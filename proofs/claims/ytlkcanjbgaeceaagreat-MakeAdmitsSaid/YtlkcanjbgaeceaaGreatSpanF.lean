/- What the readings of spans say. -/
import Derived.Test.YtlkcanjbgaeceaaGreatRatioF
import Derived.Test.YtlkcanjbgaeceaaGreatEngRow
set_option linter.unusedSimpArgs false
set_option linter.unusedVariables false
namespace Go.Proofs.YtlkcanjbgaeceaaGreat
open Go.RowKit
theorem f_Right (s : Int × Int) : F_span_Span_Right s = some (decide (s.1 ≤ s.2)) := rfl
theorem f_Times (s : Int × Int) (k b : Int) (h1 : I64 s.1) (h2 : I64 s.2) (hk : I64 k) (hb : I64 b) : F_span_Span_Times s k b = some (
    if s.2 < s.1 ∨ b < 1 then ((0, 0), 10) else
      let lo := quoI (k * (if k < 0 then s.2 else s.1)) b false
      let hi := quoI (k * (if k < 0 then s.1 else s.2)) b true
      if in64 lo = true ∧ in64 hi = true then ((lo, hi), 0) else ((0, 0), 20)) := by
  unfold F_span_Span_Times
  rw [f_Right, Option.bind_some]
  by_cases h : s.2 < s.1 ∨ b < 1
  · rw [if_pos h]
    rcases h with h | h
    · have : decide (s.1 ≤ s.2) = false := by simp; omega
      rw [this]; rfl
    · have : decide (b < 1) = true := by simp; omega
      rw [this]
      cases decide (s.1 ≤ s.2) <;> rfl
  · rw [if_neg h]
    have e1 : decide (s.1 ≤ s.2) = true := by simp; omega
    have e2 : decide (b < 1) = false := by simp; omega
    rw [e1, e2]
    simp only [Bool.not_true, cond_false]
    have main : ∀ lo hi : Int, I64 lo → I64 hi →
        ((F_ratio_Floor k lo b).bind fun t33 => bif t33.2 != 0 then some (((0 : Int), (0 : Int)), t33.2) else (F_ratio_Ceil k hi b).bind fun t44 => bif t44.2 != 0 then some (((0 : Int), (0 : Int)), t44.2) else some ((t33.1, t44.1), (0 : Int))) =
        some (if in64 (quoI (k * lo) b false) = true ∧ in64 (quoI (k * hi) b true) = true then ((quoI (k * lo) b false, quoI (k * hi) b true), 0) else ((0, 0), 20)) := by
      intro lo hi hlo hhi
      rw [f_Floor k lo b hk hlo hb, Option.bind_some, f_Ceil k hi b hk hhi hb, if_neg (by omega), if_neg (by omega)]
      unfold sayI
      by_cases g1 : in64 (quoI (k * lo) b false) = true <;> by_cases g2 : in64 (quoI (k * hi) b true) = true <;> simp [g1, g2]
    by_cases hk0 : k < 0
    · have : decide (k < 0) = true := by simpa using hk0
      rw [this]
      simp only [cond_true, Option.bind_some, if_pos hk0]
      exact main s.2 s.1 h2 h1
    · have : decide (k < 0) = false := by simpa using hk0
      rw [this]
      simp only [cond_false, Option.bind_some, if_neg hk0]
      exact main s.1 s.2 h1 h2
def loM (s t : Int × Int) : Int := if t.1 > s.1 then t.1 else s.1
def hiM (s t : Int × Int) : Int := if t.2 < s.2 then t.2 else s.2
theorem f_Meet (s t : Int × Int) : F_span_Span_Meet s t = some (if hiM s t < loM s t then ((0, 0), false) else ((loM s t, hiM s t), true)) := by
  show (F_span_both (loM s t) true (hiM s t) true).bind _ = _
  unfold F_span_both
  by_cases h : hiM s t < loM s t
  · rw [if_pos h, show decide (hiM s t < loM s t) = true by simpa using h]; rfl
  · rw [if_neg h, show decide (hiM s t < loM s t) = false by simpa using h]; rfl
theorem f_At (x : Int) : F_span_At x = some (x, x) := rfl
theorem f_Hull (s t : Int × Int) : ∃ h, F_span_Span_Hull s t = some h ∧ ((s.2 < s.1 ∧ h = t) ∨ (s.1 ≤ s.2 ∧ t.2 < t.1 ∧ h = s) ∨ (s.1 ≤ s.2 ∧ t.1 ≤ t.2 ∧ h.1 ≤ s.1 ∧ h.1 ≤ t.1 ∧ s.2 ≤ h.2 ∧ t.2 ≤ h.2)) := by
  unfold F_span_Span_Hull
  rw [f_Right, f_Right, Option.bind_some]
  by_cases h1 : s.1 ≤ s.2
  · rw [decide_eq_true h1]
    by_cases h2 : t.1 ≤ t.2
    · rw [decide_eq_true h2]
      refine ⟨_, rfl, .inr (.inr ⟨h1, h2, ?_⟩)⟩
      simp only []
      refine ⟨?_, ?_, ?_, ?_⟩ <;> split <;> omega
    · rw [decide_eq_false h2]
      exact ⟨_, rfl, .inr (.inl ⟨h1, by omega, rfl⟩)⟩
  · rw [decide_eq_false h1]
    exact ⟨_, rfl, .inl ⟨by omega, rfl⟩⟩
theorem quo_floor {n c : Int} (hc : 0 < c) : quoI n c false = n / c := by
  unfold quoI szI
  simp only [if_neg (show ¬ c < 0 by omega)]
  rfl
theorem quo_ceil {n c : Int} (hc : 0 < c) : quoI n c true = if n - n / c * c = 0 then n / c else n / c + 1 := by
  have e : szI c = c := by unfold szI; rw [if_neg (by omega)]
  unfold quoI
  simp only [if_neg (show ¬ c < 0 by omega), e, if_true]
  rw [div_neg_split n c hc]
  have h1 := Int.emod_add_ediv_mul n c
  have h2 := Int.emod_nonneg n (show c ≠ 0 by omega)
  split <;> split <;> omega
def endsOf (right : Bool) (lo hi : Int) : (Int × Int) × Bool := if right = true ∧ in64 lo = true ∧ in64 hi = true ∧ lo ≤ hi then ((lo, hi), true) else ((0, 0), false)
theorem both_ends (x y : Int) : F_span_both (or0 x) (in64 x) (or0 y) (in64 y) = some (endsOf true x y) := by
  unfold F_span_both endsOf or0
  by_cases g1 : in64 x = true <;> by_cases g2 : in64 y = true
  · by_cases g3 : y < x
    · have : ¬ x ≤ y := by omega
      simp [g1, g2, g3, this]
    · have : x ≤ y := by omega
      simp [g1, g2, g3, this]
  · simp [g1, g2]
  · simp [g1, g2]
  · simp [g1, g2]
theorem ends_false (x y : Int) : endsOf false x y = ((0, 0), false) := by unfold endsOf; simp
theorem f_SGrow (s : Int × Int) (far : Int) (h1 : I64 s.1) (h2 : I64 s.2) (h3 : I64 far) : F_span_Span_Grow s far = some (endsOf (decide (s.1 ≤ s.2)) (s.1 - far) (s.2 + far)) := by
  unfold F_span_Span_Grow
  rw [f_Right, f_NumSub _ _ h1 h3, f_NumAdd _ _ h2 h3]
  simp only [Option.bind_some, both_ends]
  cases decide (s.1 ≤ s.2) <;> first | rfl | simp [ends_false]
theorem f_SAround (x far : Int) (h1 : I64 x) (h3 : I64 far) : F_span_Around x far = some (endsOf true (x - far) (x + far)) := by
  unfold F_span_Around
  rw [f_At, Option.bind_some, f_SGrow (x, x) far h1 h1 h3, Option.bind_some]
  simp
end Go.Proofs.YtlkcanjbgaeceaaGreat
