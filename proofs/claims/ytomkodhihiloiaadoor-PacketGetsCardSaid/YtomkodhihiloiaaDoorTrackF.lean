/- What the readings of tracks say. -/
import Derived.Test.YtomkodhihiloiaaDoorGradeF
set_option linter.unusedSimpArgs false
set_option linter.unusedVariables false
namespace Go.Proofs.YtomkodhihiloiaaDoor
open Go.RowKit
abbrev Sg := Int × (List (Int × Int) × List Int)
abbrev Gp := Int × (Int × (Int × (Int × Int)))
abbrev Tk := List Sg × List Gp
def sg0 : Sg := (0, [], [])
def gp0 : Gp := (0, 0, 0, 0, 0)
def wayB (n : Nat) (l : List Int) (i : Nat) : Bool := decide (0 ≤ l.getD i 0) && decide (l.getD i 0 < n) && (decide (i = 0) || decide (l.getD (i - 1) 0 < l.getD i 0))
def segB (n : Nat) (s : Sg) : Bool := decide (1 ≤ s.1) && decide (s.1 ≤ 1099511627776) && gradeB s.2.1 s.1 && decide (s.2.2.length ≤ 2) && (List.range s.2.2.length).all (wayB n s.2.2)
def grpB (t : Tk) (i : Nat) (g : Gp) : Bool :=
  decide (1 ≤ g.1) && decide (g.1 ≤ 65535) && (decide (i = 0) || decide ((t.2.getD (i - 1) gp0).1 < g.1)) && decide (0 ≤ g.2.1) && decide (g.2.1 < t.1.length) &&
  (decide (0 ≤ g.2.2.1) && decide (g.2.2.1 ≤ (t.1.getD g.2.1.toNat sg0).1) && decide (0 ≤ g.2.2.2.1) && decide (g.2.2.2.1 ≤ 1048576) && decide (0 ≤ g.2.2.2.2) && decide (g.2.2.2.2 ≤ 16777216))
def big : Nat := 9223372036854775806
theorem not_lt_dec {a b : Int} : decide (a ≤ b) = !decide (b < a) := by rw [Bool.eq_iff_iff]; simp
theorem not_le_dec {a b : Int} : decide (a < b) = !decide (b ≤ a) := by rw [Bool.eq_iff_iff]; simp
/-- The first of n that isn't so. -/
def firstN (b : Nat → Bool) (n : Nat) : Option Nat := (List.range n).findSome? fun i => bif b i then none else some i
def checkI (t : Tk) : Int × Int :=
  if t.1.length = 0 ∨ 200 < t.1.length ∨ 400 < t.2.length then (13, 0) else
    match firstN (fun i => segB t.1.length (t.1.getD i sg0)) t.1.length with
    | some i => (11, i)
    | none => match firstN (fun i => grpB t i (t.2.getD i gp0)) t.2.length with
      | some i => (16, i)
      | none => (0, 0)
theorem findSome_map {α β : Type} (n : Nat) (b : Nat → Bool) (g : Nat → β) : ((List.range n).findSome? fun i => bif b i then none else some (g i)) = (firstN b n).map g := by
  unfold firstN
  induction List.range n with
  | nil => rfl
  | cons i l ih =>
    rw [List.findSome?_cons, List.findSome?_cons]
    cases b i
    · rfl
    · exact ih
theorem firstN_none {b : Nat → Bool} {n : Nat} : firstN b n = none ↔ ∀ i, i < n → b i = true := by
  unfold firstN
  rw [find_none]
  constructor
  · intro h i hi
    have := h i hi
    cases hb : b i with
    | true => rfl
    | false => rw [hb] at this; cases this
  · intro h i hi
    rw [h i hi]; rfl
def Sizes (t : Tk) : Prop := t.1.length ≤ big ∧ t.2.length ≤ big ∧ ∀ s ∈ t.1, s.2.1.length ≤ big ∧ s.2.2.length ≤ big
/-- How long all rows of a track may be. -/
def Rows (t : Tk) : Prop := t.1.length ≤ 140737488351232 ∧ t.2.length ≤ 140737488351232 ∧ ∀ s ∈ t.1, s.2.1.length ≤ 140737488351232 ∧ s.2.2.length ≤ 140737488351232
theorem rows_fits {t : Tk} (h : Fits (.agg (.pair (.slice (.agg (.pair (.int .i64) (.pair (.slice (.agg (.pair (.int .i64) (.int .i64)))) (.slice (.int .i64)))))) (.slice (.agg (.pair (.int .i64) (.pair (.int .i64) (.pair (.int .i64) (.pair (.int .i64) (.int .i64))))))))) t) : Rows t :=
  ⟨h.1.1, h.2.1, fun s hs => ⟨(h.1.2 s hs).2.1.1, (h.1.2 s hs).2.2.1⟩⟩
end Go.Proofs.YtomkodhihiloiaaDoor
