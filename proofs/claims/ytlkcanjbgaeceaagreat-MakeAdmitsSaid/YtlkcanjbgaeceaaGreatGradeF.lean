/- What the readings of grades and tracks say. -/
import Derived.Test.YtlkcanjbgaeceaaGreatConfF
import Derived.Test.YtlkcanjbgaeceaaGreatFnsZ2
set_option linter.unusedSimpArgs false
set_option linter.unusedVariables false
namespace Go.Proofs.YtlkcanjbgaeceaaGreat
open Go.RowKit
section
variable {X : Type} {f : Int → Option (Int ⊕ X)}
theorem range'_findSome_cons {step : Nat → Option X} (j k : Nat) : (List.range' j (k + 1)).findSome? step = match step j with | some x => some x | none => (List.range' (j + 1) k).findSome? step := by
  rw [List.range'_succ, List.findSome?_cons]
  cases step j <;> rfl
def stepOut {X : Type} (j : Int) (o : Option X) : Int ⊕ X := match o with
  | some x => .inr x
  | none => .inl j
theorem loop_find (n : Nat) (step : Nat → Option X) (xe : X) (h : ∀ i : Nat, i < n → f i = some (stepOut ((i : Int) + 1) (step i))) (he : f n = some (.inr xe)) :
    loopO f 0 = some (((List.range n).findSome? step).getD xe) := by
  have key : ∀ (k j : Nat), j + k = n → loopN f (k + 1) (j : Int) = some (((List.range' j k).findSome? step).getD xe) := by
    intro k
    induction k with
    | zero =>
      intro j hj
      have : j = n := by omega
      subst this
      simp [loopN, he]
    | succ k ih =>
      intro j hj
      rw [loopN, h j (by omega), range'_findSome_cons]
      unfold stepOut
      cases step j with
      | some x => rfl
      | none =>
        have := ih (j + 1) (by omega)
        rw [← this]
        rfl
  have := loopO_of (key n 0 (by omega))
  rw [List.range_eq_range']
  exact this
theorem find_none {n : Nat} {step : Nat → Option X} : (List.range n).findSome? step = none ↔ ∀ i, i < n → step i = none := by
  rw [List.findSome?_eq_none_iff]
  exact ⟨fun h i hi => h i (List.mem_range.2 hi), fun h i hi => h i (List.mem_range.1 hi)⟩
end
theorem getD_lt {α : Type} {l : List α} {i : Nat} {d : α} (h : i < l.length) : l.getD i d = l[i] := by simp [List.getD, h]
def pieceB (l : List (Int × Int)) (len : Int) (i : Nat) : Bool :=
  decide (-1048576 ≤ (l.getD i (0, 0)).2) && decide ((l.getD i (0, 0)).2 ≤ 1048576) && decide ((l.getD i (0, 0)).1 < len) && (decide (i = 0) || decide ((l.getD (i - 1) (0, 0)).1 < (l.getD i (0, 0)).1))
def gradeB (l : List (Int × Int)) (len : Int) : Bool := decide (1 ≤ l.length) && decide (l.length ≤ 64) && decide ((l.getD 0 (0, 0)).1 = 0) && (List.range l.length).all (pieceB l len)
theorem all_find {α : Type} {n : Nat} {b : Nat → Bool} {x y : α} : ((List.range n).findSome? fun i => bif b i then none else some x).getD y = bif (List.range n).all b then y else x := by
  cases h : (List.range n).all b with
  | true =>
    have : ((List.range n).findSome? fun i => bif b i then none else some x) = none := find_none.2 fun i hi => by
      rw [List.all_eq_true.1 h i (List.mem_range.2 hi)]; rfl
    rw [this]; rfl
  | false =>
    cases hf : ((List.range n).findSome? fun i => bif b i then none else some x) with
    | none =>
      have : (List.range n).all b = true := by
        rw [List.all_eq_true]
        intro i hi
        have := find_none.1 hf i (List.mem_range.1 hi)
        cases hb : b i with
        | true => rfl
        | false => rw [hb] at this; cases this
      rw [this] at h; cases h
    | some z =>
      obtain ⟨i, _, hi⟩ := List.exists_of_findSome?_eq_some hf
      cases hb : b i with
      | true => rw [hb] at hi; cases hi
      | false => rw [hb] at hi; cases hi; rfl
theorem piece0 {α : Type} (x : Int × Int) (len : Int) (q : Bool) (A B : α) : (bif (bif (bif (bif decide (x.2 < -1048576) then true else decide (1048576 < x.2)) then true else decide (len ≤ x.1)) then true else q) then A else B) =
    bif (decide (-1048576 ≤ x.2) && decide (x.2 ≤ 1048576) && decide (x.1 < len) && !q) then B else A := by
  have e1 : decide (-1048576 ≤ x.2) = !decide (x.2 < -1048576) := by rw [Bool.eq_iff_iff]; simp
  have e2 : decide (x.2 ≤ 1048576) = !decide (1048576 < x.2) := by rw [Bool.eq_iff_iff]; simp
  have e3 : decide (x.1 < len) = !decide (len ≤ x.1) := by rw [Bool.eq_iff_iff]; simp
  rw [e1, e2, e3]
  cases decide (x.2 < -1048576) <;> cases decide (1048576 < x.2) <;> cases decide (len ≤ x.1) <;> cases q <;> rfl
theorem f_gradeCheck (l : List (Int × Int)) (len : Int) (hl : l.length ≤ 9223372036854775806) : F_grade_Check l len = some (bif gradeB l len then 0 else 11) := by
  unfold F_grade_Check gradeB
  by_cases h0 : l.length = 0
  · simp [h0, chk]
  by_cases h1 : 64 < l.length
  · have e1 : ((l.length : Int) == 0) = false := by simpa using h0
    have e2 : decide ((64 : Int) < l.length) = true := by simp; omega
    have e3 : decide ((0 : Int) < l.length) = true := by simp; omega
    have e4 : decide (l.length ≤ 64) = false := by simp; omega
    simp [e1, e2, e3, e4, chk]
  have e1 : ((l.length : Int) == 0) = false := by simpa using h0
  have e2 : decide ((64 : Int) < l.length) = false := by simp; omega
  have e3 : decide ((0 : Int) < l.length) = true := by simp; omega
  have e4 : decide (l.length ≤ 64) = true := by simp; omega
  have e5 : decide (1 ≤ l.length) = true := by simp; omega
  rw [e1, e2, e3, e4, e5]
  simp only [cond_false, Bool.true_and, Bool.and_self, Bool.true_or, chk_yes]
  by_cases h2 : (l.getD 0 (0, 0)).1 = 0
  · have e6 : ((l.getD (0 : Int).toNat ((0 : Int), (0 : Int))).1 != 0) = false := by simpa using h2
    have e7 : decide ((l.getD 0 ((0 : Int), (0 : Int))).1 = 0) = true := by simpa using h2
    rw [e6, e7]
    simp only [cond_false, Bool.true_and]
    rw [loop_find l.length (fun i => bif pieceB l len i then none else some (.inl 11)) (.inr ())]
    · rw [all_find]
      cases (List.range l.length).all (pieceB l len) <;> rfl
    · intro i hi
      rw [decide_eq_true (show (i : Int) < l.length by omega), decide_eq_true (show (0 : Int) ≤ i by omega)]
      simp only [cond_true, Bool.and_self, chk_yes]
      rw [Int.toNat_natCast]
      have ew : IntKind.i64.wrap ((i : Int) - 1) = i - 1 := wrap_ok (by omega)
      have ew2 : IntKind.i64.wrap ((i : Int) + 1) = i + 1 := wrap_ok (by omega)
      rw [ew, ew2]
      rw [piece0]
      have fin : ∀ b c : Bool, b = c → (bif b then some (Sum.inl ((i : Int) + 1)) else some (Sum.inr (Sum.inl (11 : Int)))) = some (stepOut ((i : Int) + 1) (bif c then none else some (Sum.inl (11 : Int)) : Option (Int ⊕ Unit))) := by
        rintro b c rfl; cases b <;> rfl
      by_cases hi0 : i = 0
      · have e0 : decide ((0 : Int) < (i : Int)) = false := by simp [hi0]
        have e1 : pieceB l len i = (decide (-1048576 ≤ (l.getD i (0, 0)).2) && decide ((l.getD i (0, 0)).2 ≤ 1048576) && decide ((l.getD i (0, 0)).1 < len) && !(bif false then decide ((l.getD i (0, 0)).1 ≤ (l.getD ((i : Int) - 1).toNat (0, 0)).1) else false)) := by
          unfold pieceB; rw [decide_eq_true hi0]; rfl
        rw [e0, chk_yes (by simp)]
        exact fin _ _ e1.symm
      · have e0 : decide ((0 : Int) < (i : Int)) = true := by simp; omega
        have et : ((i : Int) - 1).toNat = i - 1 := by omega
        have e2 : decide ((l.getD (i - 1) (0, 0)).1 < (l.getD i (0, 0)).1) = !decide ((l.getD i (0, 0)).1 ≤ (l.getD (i - 1) (0, 0)).1) := by rw [Bool.eq_iff_iff]; simp
        have e1 : pieceB l len i = (decide (-1048576 ≤ (l.getD i (0, 0)).2) && decide ((l.getD i (0, 0)).2 ≤ 1048576) && decide ((l.getD i (0, 0)).1 < len) && !(bif true then decide ((l.getD i (0, 0)).1 ≤ (l.getD ((i : Int) - 1).toNat (0, 0)).1) else false)) := by
          unfold pieceB; rw [decide_eq_false hi0, et, e2]; rfl
        rw [e0, decide_eq_true (show (0 : Int) ≤ (i : Int) - 1 by omega), decide_eq_true (show (i : Int) - 1 < l.length by omega), chk_yes (by simp)]
        exact fin _ _ e1.symm
    · simp
  · have e6 : ((l.getD (0 : Int).toNat ((0 : Int), (0 : Int))).1 != 0) = true := by simpa using h2
    have e7 : decide ((l.getD 0 ((0 : Int), (0 : Int))).1 = 0) = false := by simpa using h2
    rw [e6, e7]; rfl
end Go.Proofs.YtlkcanjbgaeceaaGreat
