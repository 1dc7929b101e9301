/- MakeSame: the law. -/
import Derived.Test.YtlkcanjbgaeceaaLaw29F
set_option linter.unusedSimpArgs false
set_option linter.unusedVariables false
namespace Go.Proofs.Ytlkcanjbgaeceaa
open Go.RowKit
theorem eqW2 (x : Int × Int) : eqT (.agg (.pair (.int .i64) (.int .i64))) x x = true := by simp [eqT]
theorem eqW4 (x : Rd) : eqT (.agg (.pair (.int .i64) (.pair (.int .i64) (.pair (.int .i64) (.int .i64))))) x x = true := by simp [eqT]
theorem eqL4 (x : Bool × (Bool × (Bool × Bool))) : eqT (.agg (.pair .bool (.pair .bool (.pair .bool .bool)))) x x = true := by simp [eqT]
theorem neI (x : Int) : (x != x) = false := by simp
theorem loop_int {X : Type} {f : Int → Option (Int ⊕ X)} (n : Nat) (x : X) (h : ∀ i : Nat, i < n → f (i : Int) = some (.inl ((i : Int) + 1))) (he : f (n : Int) = some (.inr x)) : loopO f 0 = some x :=
  loop_run n (fun i => (i : Int)) x (fun i hi => by rw [h i hi]; simp) he
theorem f_MakeSame (c : Cf) (t : Tk) (seed n : Int) (hR : Rows t) : F_law29_MakeSame c t seed n = some true := by
  unfold F_law29_MakeSame
  rw [f_anchor29, Option.bind_some]
  simp only [Bool.not_true, cond_false]
  cases (bif (bif decide ((50 : Int) < t.1.length) then true else decide ((100 : Int) < t.2.length)) then true else (bif decide ((100 : Int) < n) then decide (n ≤ 4096) else false)) with
  | true => rfl
  | false =>
    obtain ⟨s, b, e, l1, l2, l3⟩ := make_some c t seed n hR
    simp only [cond_false]
    rw [e]
    simp only [Option.bind_some]
    generalize s.2.2.2.2.2.1 = tk at *
    generalize s.2.2.2.2.2.2 = rd at *
    rw [neI, neI, neI, neI, eqW2]
    simp only [beq_self_eq_true, Bool.not_true, cond_false]
    rw [loop_int tk.length (.inr ())]
    · simp only [Option.bind_some]
      rw [loop_int rd.length (.inr ())]
      · rfl
      · intro i hi
        rw [decide_eq_true (show (i : Int) < rd.length by omega), decide_eq_true (show (0 : Int) ≤ i by omega), Int.toNat_natCast, wrap_ok (n := (i : Int) + 1) (by omega), eqW4]
        rfl
      · simp
    · intro i hi
      rw [decide_eq_true (show (i : Int) < tk.length by omega), decide_eq_true (show (0 : Int) ≤ i by omega), Int.toNat_natCast, wrap_ok (n := (i : Int) + 1) (by omega), tk_def, neI, neI, neI, neI, eqW2, eqL4]
      simp only [beq_self_eq_true, Bool.not_true, cond_false, cond_true, Bool.and_self, chk_yes]
    · simp
end Go.Proofs.Ytlkcanjbgaeceaa
