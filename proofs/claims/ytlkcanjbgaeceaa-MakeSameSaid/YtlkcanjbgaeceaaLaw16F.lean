/- The laws of chapter 16: what their readings say is true. -/
import Derived.Test.YtlkcanjbgaeceaaSpanF
set_option linter.unusedSimpArgs false
set_option linter.unusedVariables false
namespace Go.Proofs.Ytlkcanjbgaeceaa
open Go.RowKit
theorem mul_in {x y X Y : Int} (h1 : -X ≤ x) (h2 : x ≤ X) (h3 : 0 ≤ y) (h4 : y ≤ Y) (hX : 0 ≤ X) : -(X * Y) ≤ x * y ∧ x * y ≤ X * Y := by
  have a1 : x * y ≤ X * y := Int.mul_le_mul_of_nonneg_right h2 h3
  have a2 : X * y ≤ X * Y := Int.mul_le_mul_of_nonneg_left h4 hX
  have a3 : -X * y ≤ x * y := Int.mul_le_mul_of_nonneg_right h1 h3
  rw [Int.neg_mul] at a3
  omega
theorem wrap_id {n : Int} (h : -9223372036854775808 ≤ n ∧ n ≤ 9223372036854775807) : IntKind.i64.wrap n = n := by rw [IntKind.wrap_i64]; omega
theorem div_in {a b : Int} (ha : I64 a) (hb : 0 < b) : I64 (a / b) := by
  obtain ⟨h1, h2⟩ := ha
  have k1 : a / b * b ≤ a := Int.ediv_mul_le a (by omega)
  have k2 := Int.lt_ediv_add_one_mul_self a hb
  constructor
  · apply Classical.byContradiction
    intro hn
    have h4 : (a / b + 1) * b ≤ -9223372036854775808 * b := Int.mul_le_mul_of_nonneg_right (by omega) (by omega)
    omega
  · apply Classical.byContradiction
    intro hn
    have : 9223372036854775808 * b ≤ a / b * b := Int.mul_le_mul_of_nonneg_right (by omega) (by omega)
    omega
def upI (a b : Int) : Int := -((-a) / b)
def loC (c a : Int) : Int := if a < c then c else a
def hiC (c b : Int) : Int := if c < b then c else b
theorem loC_spec (c a : Int) : c ≤ loC c a ∧ a ≤ loC c a ∧ (loC c a = c ∨ loC c a = a) := by unfold loC; split <;> omega
theorem hiC_spec (c b : Int) : hiC c b ≤ c ∧ hiC c b ≤ b ∧ (hiC c b = c ∨ hiC c b = b) := by unfold hiC; split <;> omega
def meetC (circ : Int × Int) (a b : Int) : (Int × Int) × Bool := if hiC circ.2 b < loC circ.1 a then (circ, false) else ((loC circ.1 a, hiC circ.2 b), true)
theorem meet_in (circ : Int × Int) (a b : Int) (h : circ.1 ≤ circ.2) : circ.1 ≤ (meetC circ a b).1.1 ∧ (meetC circ a b).1.2 ≤ circ.2 ∧ (meetC circ a b).1.1 ≤ (meetC circ a b).1.2 := by
  have h1 := loC_spec circ.1 a
  have h2 := hiC_spec circ.2 b
  unfold meetC
  generalize loC circ.1 a = lo at *
  generalize hiC circ.2 b = hi at *
  by_cases g : hi < lo
  · rw [if_pos g]; exact ⟨Int.le_refl _, Int.le_refl _, h⟩
  · rw [if_neg g]; exact ⟨h1.1, h2.1, by simp only; omega⟩
theorem meet_mono (circ : Int × Int) (a b a' b' : Int) (ha : a ≤ a') (hb : b' ≤ b) (e1 : (meetC circ a b).2 = true) (e2 : (meetC circ a' b').2 = true) : (meetC circ a b).1.1 ≤ (meetC circ a' b').1.1 ∧ (meetC circ a' b').1.2 ≤ (meetC circ a b).1.2 := by
  have h1 := loC_spec circ.1 a
  have h2 := hiC_spec circ.2 b
  have h3 := loC_spec circ.1 a'
  have h4 := hiC_spec circ.2 b'
  unfold meetC at *
  generalize loC circ.1 a = lo at *
  generalize hiC circ.2 b = hi at *
  generalize loC circ.1 a' = lo' at *
  generalize hiC circ.2 b' = hi' at *
  by_cases g : hi < lo
  · rw [if_pos g] at e1; cases e1
  · by_cases g' : hi' < lo'
    · rw [if_pos g'] at e2; cases e2
    · rw [if_neg g, if_neg g']; exact ⟨by simp only; omega, by simp only; omega⟩
theorem meet_true (circ : Int × Int) (a b own : Int) (h1 : circ.1 ≤ own) (h2 : own ≤ circ.2) (ha : a ≤ own) (hb : own ≤ b) : (meetC circ a b).1.1 ≤ own ∧ own ≤ (meetC circ a b).1.2 := by
  have h3 := loC_spec circ.1 a
  have h4 := hiC_spec circ.2 b
  unfold meetC
  generalize loC circ.1 a = lo at *
  generalize hiC circ.2 b = hi at *
  by_cases g : hi < lo
  · rw [if_pos g]; exact ⟨h1, h2⟩
  · rw [if_neg g]; exact ⟨by simp only; omega, by simp only; omega⟩
def wayN (way : Int × Int) (n : Int) : Int × Int := if n < 0 then (-way.2, -way.1) else way
def absN (n : Int) : Int := if n < 0 then -n else n
/-- What is learned. -/
def learnI (circ way : Int × Int) (p n : Int) : (Int × Int) × Bool :=
  if absN n < 2 ∨ (wayN way n).1 ≤ 0 then (circ, false) else meetC circ ((wayN way n).1 * p / (absN n + 1)) (upI ((wayN way n).2 * p) (absN n - 1))
def May (circ way : Int × Int) (p n : Int) : Prop :=
  1 ≤ circ.1 ∧ circ.1 ≤ circ.2 ∧ circ.2 ≤ 8388608 ∧ -17592186044416 ≤ way.1 ∧ way.1 ≤ way.2 ∧ way.2 ≤ 17592186044416 ∧ 1 ≤ p ∧ p ≤ 1024 ∧ -1099511627776 ≤ n ∧ n ≤ 1099511627776
instance (circ way : Int × Int) (p n : Int) : Decidable (May circ way p n) := by unfold May; infer_instance
theorem learn_in (circ way : Int × Int) (p n : Int) (h : circ.1 ≤ circ.2) : circ.1 ≤ (learnI circ way p n).1.1 ∧ (learnI circ way p n).1.2 ≤ circ.2 ∧ (learnI circ way p n).1.1 ≤ (learnI circ way p n).1.2 := by
  unfold learnI
  split
  · exact ⟨Int.le_refl _, Int.le_refl _, h⟩
  · exact meet_in _ _ _ h
theorem learn_back (circ way : Int × Int) (p n : Int) : learnI circ (-way.2, -way.1) p (-n) = learnI circ way p n := by
  unfold learnI
  by_cases hn : n = 0
  · subst hn
    have : absN 0 < 2 := by decide
    rw [if_pos (.inl (by decide)), if_pos (.inl this)]
  · have e1 : wayN (-way.2, -way.1) (-n) = wayN way n := by
      unfold wayN
      by_cases h : n < 0
      · rw [if_pos h, if_neg (by omega)]
      · rw [if_neg h, if_pos (by omega), Int.neg_neg, Int.neg_neg]
    have e2 : absN (-n) = absN n := by unfold absN; split <;> split <;> omega
    rw [e1, e2]
theorem learn_more (circ way better : Int × Int) (p n : Int) (hp : 0 ≤ p) (h1 : way.1 ≤ better.1) (h2 : better.2 ≤ way.2) (e1 : (learnI circ way p n).2 = true) (e2 : (learnI circ better p n).2 = true) :
    (learnI circ way p n).1.1 ≤ (learnI circ better p n).1.1 ∧ (learnI circ better p n).1.2 ≤ (learnI circ way p n).1.2 := by
  have hw : (wayN way n).1 ≤ (wayN better n).1 ∧ (wayN better n).2 ≤ (wayN way n).2 := by
    unfold wayN
    split <;> (try dsimp only) <;> omega
  unfold learnI at *
  generalize wayN way n = w at *
  generalize wayN better n = u at *
  generalize absN n = k at *
  by_cases g1 : k < 2 ∨ w.1 ≤ 0
  · rw [if_pos g1] at e1; cases e1
  · by_cases g2 : k < 2 ∨ u.1 ≤ 0
    · rw [if_pos g2] at e2; cases e2
    · rw [if_neg g1] at e1 ⊢
      rw [if_neg g2] at e2 ⊢
      have m1 : w.1 * p ≤ u.1 * p := Int.mul_le_mul_of_nonneg_right hw.1 hp
      have m2 : u.2 * p ≤ w.2 * p := Int.mul_le_mul_of_nonneg_right hw.2 hp
      have d1 : w.1 * p / (k + 1) ≤ u.1 * p / (k + 1) := Int.ediv_le_ediv (by omega) m1
      have d2 : upI (u.2 * p) (k - 1) ≤ upI (w.2 * p) (k - 1) := by
        unfold upI
        have := Int.ediv_le_ediv (c := k - 1) (a := -(w.2 * p)) (b := -(u.2 * p)) (by omega) (by omega)
        omega
      exact meet_mono _ _ _ _ _ d1 d2 e1 e2
theorem learn_true (circ way : Int × Int) (p n own went : Int) (hp : 1 ≤ p) (h1 : circ.1 ≤ own) (h2 : own ≤ circ.2) (h3 : way.1 ≤ went) (h4 : went ≤ way.2) (h5 : -own < n * own - went * p) (h6 : n * own - went * p < own) :
    (learnI circ way p n).1.1 ≤ own ∧ own ≤ (learnI circ way p n).1.2 := by
  have main : ∀ (w : Int × Int) (k g : Int), w.1 ≤ g → g ≤ w.2 → -own < k * own - g * p → k * own - g * p < own → ¬ (k < 2 ∨ w.1 ≤ 0) → w.1 * p / (k + 1) ≤ own ∧ own ≤ upI (w.2 * p) (k - 1) := by
    intro w k g g1 g2 g3 g4 g5
    have m1 : w.1 * p ≤ g * p := Int.mul_le_mul_of_nonneg_right g1 (by omega)
    have m2 : g * p ≤ w.2 * p := Int.mul_le_mul_of_nonneg_right g2 (by omega)
    have e1 : own * (k + 1) = k * own + own := by rw [Int.mul_add, Int.mul_one, Int.mul_comm]
    have e2 : -own * (k - 1) = -(k * own) + own := by rw [Int.mul_sub, Int.mul_one, Int.neg_mul, Int.mul_comm]; omega
    constructor
    · have : w.1 * p / (k + 1) < own + 1 := Int.ediv_lt_of_lt_mul (by omega) (by rw [Int.add_mul, e1]; omega)
      omega
    · unfold upI
      have : -(w.2 * p) / (k - 1) < -own + 1 := Int.ediv_lt_of_lt_mul (by omega) (by rw [Int.add_mul, e2]; omega)
      omega
  have hw : ∃ g, (wayN way n).1 ≤ g ∧ g ≤ (wayN way n).2 ∧ -own < absN n * own - g * p ∧ absN n * own - g * p < own := by
    unfold wayN absN
    by_cases hn : n < 0
    · simp only [if_pos hn]
      refine ⟨-went, by omega, by omega, ?_, ?_⟩ <;> rw [Int.neg_mul, Int.neg_mul] <;> omega
    · simp only [if_neg hn]
      exact ⟨went, h3, h4, h5, h6⟩
  unfold learnI
  generalize wayN way n = w at *
  generalize absN n = k at *
  obtain ⟨g, g1, g2, g3, g4⟩ := hw
  by_cases hc : k < 2 ∨ w.1 ≤ 0
  · rw [if_pos hc]; exact ⟨h1, h2⟩
  · rw [if_neg hc]
    obtain ⟨k1, k2⟩ := main w k g g1 g2 g3 g4 hc
    exact meet_true _ _ _ _ h1 h2 k1 k2
section
variable (w : World)
end
end Go.Proofs.Ytlkcanjbgaeceaa
