/- What the readings of spans say. -/
import Derived.Test.YtomkodhihiloiaaDoorRatioF
import Derived.Test.YtomkodhihiloiaaDoorEngRow
set_option linter.unusedSimpArgs false
set_option linter.unusedVariables false
namespace Go.Proofs.YtomkodhihiloiaaDoor
open Go.RowKit
def loM (s t : Int × Int) : Int := if t.1 > s.1 then t.1 else s.1
def hiM (s t : Int × Int) : Int := if t.2 < s.2 then t.2 else s.2
def inB (s t : Int × Int) : Bool := decide (s.2 < s.1 ∨ (t.1 ≤ s.1 ∧ s.2 ≤ t.2))
theorem eqT_self_span (x : Int × Int) : eqT (.agg (.pair (.int .i64) (.int .i64))) x x = true := by
  rw [eqT_agg, eqT_pair, eqT_int, eqT_int]; simp
def isIn (s : Int × Int) (x : Int) : Bool := bif decide (s.1 ≤ x) then decide (x ≤ s.2) else false
theorem isIn_iff {s : Int × Int} {x : Int} : isIn s x = true ↔ s.1 ≤ x ∧ x ≤ s.2 := by
  unfold isIn
  by_cases h : s.1 ≤ x <;> simp [h]
theorem quo_floor {n c : Int} (hc : 0 < c) : quoI n c false = n / c := by
  unfold quoI szI
  simp only [if_neg (show ¬ c < 0 by omega)]
  rfl
theorem quo_ceil {n c : Int} (hc : 0 < c) : quoI n c true = if n - n / c * c = 0 then n / c else n / c + 1 := by
  have e : szI c = c := by unfold szI; rw [if_neg (by omega)]
  unfold quoI
  simp only [if_neg (show ¬ c < 0 by omega), e, if_true]
  rw [div_neg_split n c hc]
  have h1 := Int.emod_add_ediv_mul n c
  have h2 := Int.emod_nonneg n (show c ≠ 0 by omega)
  split <;> split <;> omega
/-- What a sum of spans is to be. -/
def endsOf (right : Bool) (lo hi : Int) : (Int × Int) × Bool := if right = true ∧ in64 lo = true ∧ in64 hi = true ∧ lo ≤ hi then ((lo, hi), true) else ((0, 0), false)
theorem ends_false (x y : Int) : endsOf false x y = ((0, 0), false) := by unfold endsOf; simp
end Go.Proofs.YtomkodhihiloiaaDoor
