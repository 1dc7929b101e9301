/- AdmitCut, AdmitFaultless: what their readings say is true. -/
import Derived.Test.YtlkcanjbgaeceaaGreatAdmitK
set_option linter.unusedSimpArgs false
set_option linter.unusedVariables false
namespace Go.Proofs.YtlkcanjbgaeceaaGreat
open Go.RowKit
structure Admits (c : Cf) (t : Tk) (s : Scr) : Prop where
  fits : (fitsR c t).1 = 0
  route : routeB t s.1 = true
  on : onB (startI t s.1 s.1.length) s.2.1 s.2.2.2.2.2.1 = true
  speeds : speedsB c.2.2.2.2.2.2.1 c.2.2.2.2.2.2.2.1 s.2.2.1 s.2.2.2.2.2.1 = true
  wheels : (wheelB c.2.1 c.2.2.1 s.2.2.2.1.1 s.2.2.2.2.1.1 && wheelB c.2.1 c.2.2.1 s.2.2.2.1.2 s.2.2.2.2.1.2) = true
  numbers : numbersB c.2.2.2.2.2.1 s.2.2.2.2.2.1 = true
  sens : ∀ k, k < s.2.2.2.2.2.1.length → sensK c s.2.2.2.2.2.1 (countsL c.1 s.2.2.2.1.1 s.2.2.2.2.1.1 (fun t => t.2.1.1) s.2.2.2.2.2.1) (countsL c.1 s.2.2.2.1.2 s.2.2.2.2.1.2 (fun t => t.2.1.2) s.2.2.2.2.2.1) k = true
  reads : ∀ k, k < s.2.2.2.2.2.2.length → readK t s.1 c.2.2.2.2.2.2.2.2.1 s.2.1 (placesL s.2.1 s.2.2.2.2.2.1) s.2.2.2.2.2.1.length s.2.2.2.2.2.2 k = true
  junk : ∀ k, k < s.2.2.2.2.2.1.length → junkAt (k : Int) (s.2.2.2.2.2.1.getD k tk0) = true
theorem rule_of {b : Bool} {k x : Int} (hk : k ≠ 0) (h : (bif !b then k else x) = 0) : b = true ∧ x = 0 := by
  cases b with
  | true => exact ⟨rfl, h⟩
  | false => exact absurd h hk
theorem admit_iff {c : Cf} {t : Tk} {s : Scr} : admitI c t s = 0 ↔ Admits c t s := by
  unfold admitI
  constructor
  · intro h
    obtain ⟨h1, h⟩ := rule_of (k := 1) (b := !((fitsR c t).1 != 0)) (by decide) (by rw [Bool.not_not]; exact h)
    obtain ⟨h2, h⟩ := rule_of (k := 2) (by decide) h
    obtain ⟨h3, h⟩ := rule_of (k := 3) (by decide) h
    obtain ⟨h4, h⟩ := rule_of (k := 4) (by decide) h
    obtain ⟨h5, h⟩ := rule_of (k := 5) (by decide) h
    obtain ⟨h6, h⟩ := rule_of (k := 6) (by decide) h
    obtain ⟨h7, h⟩ := rule_of (k := 7) (by decide) h
    obtain ⟨h8, h⟩ := rule_of (k := 8) (by decide) h
    obtain ⟨h9, h⟩ := rule_of (k := 9) (by decide) h
    refine ⟨by simpa using h1, h2, h3, h4, h5, h6, fun k hk => List.all_eq_true.1 h7 k (List.mem_range.2 hk), fun k hk => List.all_eq_true.1 h8 k (List.mem_range.2 hk), fun k hk => ?_⟩
    unfold junkB at h9
    exact List.all_eq_true.1 h9 k (List.mem_range.2 hk)
  · rintro ⟨h1, h2, h3, h4, h5, h6, h7, h8, h9⟩
    have e : ((fitsR c t).1 != 0) = false := by simp [h1]
    have e7 : (List.range s.2.2.2.2.2.1.length).all (sensK c s.2.2.2.2.2.1 (countsL c.1 s.2.2.2.1.1 s.2.2.2.2.1.1 (fun t => t.2.1.1) s.2.2.2.2.2.1) (countsL c.1 s.2.2.2.1.2 s.2.2.2.2.1.2 (fun t => t.2.1.2) s.2.2.2.2.2.1)) = true := List.all_eq_true.2 fun k hk => h7 k (List.mem_range.1 hk)
    have e8 : (List.range s.2.2.2.2.2.2.length).all (readK t s.1 c.2.2.2.2.2.2.2.2.1 s.2.1 (placesL s.2.1 s.2.2.2.2.2.1) s.2.2.2.2.2.1.length s.2.2.2.2.2.2) = true := List.all_eq_true.2 fun k hk => h8 k (List.mem_range.1 hk)
    have e9 : junkB s.2.2.2.2.2.1 = true := List.all_eq_true.2 fun k hk => h9 k (List.mem_range.1 hk)
    rw [e, h2, h3, h4, h5, h6, e7, e8, e9]
    rfl
theorem map_getD {α : Type} {f : Nat → α} {n i : Nat} {d : α} (h : i < n) : ((List.range n).map f).getD i d = f i := by
  rw [getD_lt (by simpa using h)]
  simp
theorem pos_same {st : Int} {a b : List Tick} {n : Nat} (h : ∀ i, i < n → (a.getD i tk0).1 = (b.getD i tk0).1) : ∀ i, i ≤ n → posI st a i = posI st b i := by
  intro i
  induction i with
  | zero => intro _; rfl
  | succ i ih => intro hi; simp only [posI]; rw [ih (by omega), h i (by omega)]
theorem turn_same {p ph : Int} {slip : Tick → Int} {a b : List Tick} {n : Nat} (h : ∀ i, i < n → a.getD i tk0 = b.getD i tk0) : ∀ i, i ≤ n → turnI p ph slip a i = turnI p ph slip b i := by
  intro i
  induction i with
  | zero => intro _; rfl
  | succ i ih => intro hi; simp only [turnI]; rw [ih (by omega), h i (by omega)]
end Go.Proofs.YtlkcanjbgaeceaaGreat
