/- Tracks as the document has them: what their readings say. -/
import Derived.Test.YtlkcanjbgaeceaaTrackF
set_option linter.unusedSimpArgs false
set_option linter.unusedVariables false
namespace Go.Proofs.Ytlkcanjbgaeceaa
open Go.RowKit
/-- A loop of n rounds whose states are known. -/
theorem loop_run {S X : Type} {f : S → Option (S ⊕ X)} (n : Nat) (st : Nat → S) (x : X) (h : ∀ i, i < n → f (st i) = some (.inl (st (i + 1)))) (he : f (st n) = some (.inr x)) : loopO f (st 0) = some x := by
  have key : ∀ k j : Nat, j + k = n → loopN f (k + 1) (st j) = some x := by
    intro k
    induction k with
    | zero => intro j hj; obtain rfl : j = n := by omega
              rw [loopN, he]
    | succ k ih => intro j hj; rw [loopN, h j (by omega)]; exact ih (j + 1) (by omega)
  exact loopO_of (key n 0 (by omega))
theorem take_succ_getD {α : Type} {l : List α} {i : Nat} {d : α} (h : i < l.length) : l.take i ++ [l.getD i d] = l.take (i + 1) := by
  rw [getD_lt h, List.take_add_one, List.getElem?_eq_getElem h]; rfl
theorem loop_find_st {S X : Type} {f : S → Option (S ⊕ X)} (n : Nat) (st : Nat → S) (step : Nat → Option X) (xe : X) {s0 : S} (h0 : st 0 = s0)
    (h : ∀ i : Nat, i < n → (∀ j, j < i → step j = none) → f (st i) = some (match step i with | some x => .inr x | none => .inl (st (i + 1)))) (he : f (st n) = some (.inr xe)) :
    loopO f s0 = some (((List.range n).findSome? step).getD xe) := by
  subst h0
  have key : ∀ (k j : Nat), j + k = n → (∀ i, i < j → step i = none) → loopN f (k + 1) (st j) = some (((List.range' j k).findSome? step).getD xe) := by
    intro k
    induction k with
    | zero =>
      intro j hj _
      have : j = n := by omega
      subst this
      simp [loopN, he]
    | succ k ih =>
      intro j hj hn
      rw [loopN, h j (by omega) hn, range'_findSome_cons]
      cases hs : step j with
      | some x => rfl
      | none =>
        have := ih (j + 1) (by omega) (fun i hi => by rcases Nat.lt_succ_iff_lt_or_eq.1 hi with hi | rfl; exact hn i hi; exact hs)
        rw [← this]
  have := loopO_of (key n 0 (by omega) (fun i hi => by omega))
  rw [List.range_eq_range']
  exact this
theorem bif_none {α : Type} (b : Bool) (x : α) : (bif b then none else some x : Option α) = if b = true then none else some x := by cases b <;> rfl
/-- The group ahead's Id, or 0. -/
def lastI (t : Tk) (i : Nat) : Int := if i = 0 then 0 else (t.2.getD (i - 1) gp0).1
end Go.Proofs.Ytlkcanjbgaeceaa
