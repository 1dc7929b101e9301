/- More laws of chapter 04. -/
import Derived.Test.YtbpadfmdjgjjlaaLaw04F
set_option linter.unusedSimpArgs false
set_option linter.unusedVariables false
namespace Go.Proofs.Ytbpadfmdjgjjlaa
open Go.RowKit
def isIn (s : Int × Int) (x : Int) : Bool := bif decide (s.1 ≤ x) then decide (x ≤ s.2) else false
theorem isIn_iff {s : Int × Int} {x : Int} : isIn s x = true ↔ s.1 ≤ x ∧ x ≤ s.2 := by
  unfold isIn
  by_cases h : s.1 ≤ x <;> simp [h]
theorem f_Has (s : Int × Int) (x : Int) : F_span_Span_Has s x = some (isIn s x) := rfl
theorem f_At (x : Int) : F_span_At x = some (x, x) := rfl
theorem f_Hull (s t : Int × Int) : ∃ h, F_span_Span_Hull s t = some h ∧ ((s.2 < s.1 ∧ h = t) ∨ (s.1 ≤ s.2 ∧ t.2 < t.1 ∧ h = s) ∨ (s.1 ≤ s.2 ∧ t.1 ≤ t.2 ∧ h.1 ≤ s.1 ∧ h.1 ≤ t.1 ∧ s.2 ≤ h.2 ∧ t.2 ≤ h.2)) := by
  unfold F_span_Span_Hull
  rw [f_Right, f_Right, Option.bind_some]
  by_cases h1 : s.1 ≤ s.2
  · rw [decide_eq_true h1]
    by_cases h2 : t.1 ≤ t.2
    · rw [decide_eq_true h2]
      refine ⟨_, rfl, .inr (.inr ⟨h1, h2, ?_⟩)⟩
      simp only []
      refine ⟨?_, ?_, ?_, ?_⟩ <;> split <;> omega
    · rw [decide_eq_false h2]
      exact ⟨_, rfl, .inr (.inl ⟨h1, by omega, rfl⟩)⟩
  · rw [decide_eq_false h1]
    exact ⟨_, rfl, .inl ⟨by omega, rfl⟩⟩
theorem f_SpanHas (s t : Int × Int) (x : Int) : F_law04_SpanHas s t x = some true := by
  obtain ⟨hu, e1, e2⟩ := f_Hull s t
  have g1 : s.1 ≤ loM s t ∧ t.1 ≤ loM s t ∧ (loM s t = s.1 ∨ loM s t = t.1) := by unfold loM; split <;> omega
  have g2 : hiM s t ≤ s.2 ∧ hiM s t ≤ t.2 ∧ (hiM s t = s.2 ∨ hiM s t = t.2) := by unfold hiM; split <;> omega
  have hIn : inB s t = (bif decide (s.2 < s.1) then true else (bif decide (t.1 ≤ s.1) then decide (s.2 ≤ t.2) else false)) := by
    unfold inB
    by_cases k1 : s.2 < s.1 <;> by_cases k2 : t.1 ≤ s.1 <;> by_cases k3 : s.2 ≤ t.2 <;> simp [k1, k2, k3]
  have hT : inB s t = true → isIn s x = true → isIn t x = true := by
    intro h1 h2
    unfold inB at h1
    simp only [decide_eq_true_eq] at h1
    rw [isIn_iff] at h2 ⊢
    omega
  have hH : isIn s x = true ∨ isIn t x = true → isIn hu x = true := by
    rw [isIn_iff, isIn_iff, isIn_iff]
    rcases e2 with ⟨k, rfl⟩ | ⟨k, k', rfl⟩ | k <;> omega
  have hM : isIn (loM s t, hiM s t) x = true ↔ isIn s x = true ∧ isIn t x = true := by
    rw [isIn_iff, isIn_iff, isIn_iff]
    simp only []
    omega
  have hM2 : hiM s t < loM s t → ¬ (isIn s x = true ∧ isIn t x = true) := by
    rw [isIn_iff, isIn_iff]
    omega
  unfold F_law04_SpanHas
  rw [f_anchor04]
  simp only [f_Meet, f_In, f_Right, f_Has, f_At, Option.bind_some, e1, eqT_self_span]
  rw [← hIn]
  have hs : (bif decide (s.1 ≤ x) then decide (x ≤ s.2) else false) = isIn s x := rfl
  have ht : (bif decide (t.1 ≤ x) then decide (x ≤ t.2) else false) = isIn t x := rfl
  rw [hs, ht]
  generalize decide (s.1 ≤ s.2) = C at *
  generalize inB s t = D at *
  generalize isIn s x = A at *
  generalize isIn t x = B at *
  generalize isIn hu x = H at *
  by_cases h : hiM s t < loM s t
  · have := hM2 h
    rw [if_pos h]
    cases A <;> cases B <;> cases C <;> cases D <;> cases H <;> first | (simp [eqT_self_span]; done) | (simp at hT hH this; done)
  · rw [if_neg h]
    simp only []
    generalize isIn (loM s t, hiM s t) x = G at *
    cases A <;> cases B <;> cases C <;> cases D <;> cases H <;> cases G <;> first | (simp [eqT_self_span]; done) | (simp at hT hH hM; done)
theorem law04_SpanHas (a b c d e : Int) (ha : I64 a) (hb : I64 b) (hc : I64 c) (hd : I64 d) (he : I64 e) (w : World) :
    Calls Try.prog 17 #[.agg #[.int .i64 a, .int .i64 b], .agg #[.int .i64 c, .int .i64 d], .int .i64 e] w fun e w' => e = .returned (.bool true) ∧ Below w.heap.size w w' :=
  call_true ok_F_law04_SpanHas rfl (x := ((a, b), (c, d), e)) (f_SpanHas _ _ _) rfl w _ ⟨rl_span ha hb, rl_span hc hd, rl_i64 he, trivial⟩
end Go.Proofs.Ytbpadfmdjgjjlaa
