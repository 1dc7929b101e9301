/- The laws of chapter 04 that need little: what their readings say is true. -/
import Derived.Test.YtbpadfmdjgjjlaaRatioF
import Derived.Test.YtbpadfmdjgjjlaaEngRow
set_option linter.unusedSimpArgs false
set_option linter.unusedVariables false
namespace Go.Proofs.Ytbpadfmdjgjjlaa
open Go.RowKit
theorem f_Right (s : Int × Int) : F_span_Span_Right s = some (decide (s.1 ≤ s.2)) := rfl
theorem f_Times (s : Int × Int) (k b : Int) (h1 : I64 s.1) (h2 : I64 s.2) (hk : I64 k) (hb : I64 b) : F_span_Span_Times s k b = some (
    if s.2 < s.1 ∨ b < 1 then ((0, 0), 10) else
      let lo := quoI (k * (if k < 0 then s.2 else s.1)) b false
      let hi := quoI (k * (if k < 0 then s.1 else s.2)) b true
      if in64 lo = true ∧ in64 hi = true then ((lo, hi), 0) else ((0, 0), 20)) := by
  unfold F_span_Span_Times
  rw [f_Right, Option.bind_some]
  by_cases h : s.2 < s.1 ∨ b < 1
  · rw [if_pos h]
    rcases h with h | h
    · have : decide (s.1 ≤ s.2) = false := by simp; omega
      rw [this]; rfl
    · have : decide (b < 1) = true := by simp; omega
      rw [this]
      cases decide (s.1 ≤ s.2) <;> rfl
  · rw [if_neg h]
    have e1 : decide (s.1 ≤ s.2) = true := by simp; omega
    have e2 : decide (b < 1) = false := by simp; omega
    rw [e1, e2]
    simp only [Bool.not_true, cond_false]
    have main : ∀ lo hi : Int, I64 lo → I64 hi →
        ((F_ratio_Floor k lo b).bind fun t33 => bif t33.2 != 0 then some (((0 : Int), (0 : Int)), t33.2) else (F_ratio_Ceil k hi b).bind fun t44 => bif t44.2 != 0 then some (((0 : Int), (0 : Int)), t44.2) else some ((t33.1, t44.1), (0 : Int))) =
        some (if in64 (quoI (k * lo) b false) = true ∧ in64 (quoI (k * hi) b true) = true then ((quoI (k * lo) b false, quoI (k * hi) b true), 0) else ((0, 0), 20)) := by
      intro lo hi hlo hhi
      rw [f_Floor k lo b hk hlo hb, Option.bind_some, f_Ceil k hi b hk hhi hb, if_neg (by omega), if_neg (by omega)]
      unfold sayI
      by_cases g1 : in64 (quoI (k * lo) b false) = true <;> by_cases g2 : in64 (quoI (k * hi) b true) = true <;> simp [g1, g2]
    by_cases hk0 : k < 0
    · have : decide (k < 0) = true := by simpa using hk0
      rw [this]
      simp only [cond_true, Option.bind_some, if_pos hk0]
      exact main s.2 s.1 h2 h1
    · have : decide (k < 0) = false := by simpa using hk0
      rw [this]
      simp only [cond_false, Option.bind_some, if_neg hk0]
      exact main s.1 s.2 h1 h2
theorem f_anchor04 : F_law04_anchor () = some true := by
  unfold F_law04_anchor
  rw [f_Times (3, 5) (-3) 2 ⟨by omega, by omega⟩ ⟨by omega, by omega⟩ ⟨by omega, by omega⟩ ⟨by omega, by omega⟩]
  decide +kernel
def loM (s t : Int × Int) : Int := if t.1 > s.1 then t.1 else s.1
def hiM (s t : Int × Int) : Int := if t.2 < s.2 then t.2 else s.2
theorem f_Meet (s t : Int × Int) : F_span_Span_Meet s t = some (if hiM s t < loM s t then ((0, 0), false) else ((loM s t, hiM s t), true)) := by
  show (F_span_both (loM s t) true (hiM s t) true).bind _ = _
  unfold F_span_both
  by_cases h : hiM s t < loM s t
  · rw [if_pos h, show decide (hiM s t < loM s t) = true by simpa using h]; rfl
  · rw [if_neg h, show decide (hiM s t < loM s t) = false by simpa using h]; rfl
def inB (s t : Int × Int) : Bool := decide (s.2 < s.1 ∨ (t.1 ≤ s.1 ∧ s.2 ≤ t.2))
theorem f_In (s t : Int × Int) : F_span_Span_In s t = some (inB s t) := by
  unfold F_span_Span_In inB
  rw [f_Right, Option.bind_some]
  refine congrArg some ?_
  rw [Bool.eq_iff_iff]
  by_cases h1 : s.1 ≤ s.2 <;> by_cases h2 : t.1 ≤ s.1 <;> by_cases h3 : s.2 ≤ t.2 <;> simp [h1, h2, h3] <;> omega
theorem inB_trans {s t u : Int × Int} (h1 : inB s t = true) (h2 : inB t u = true) (h3 : decide (t.1 ≤ t.2) = true) : inB s u = true := by
  unfold inB at *
  simp only [decide_eq_true_eq] at *
  omega
theorem loM_comm (s t : Int × Int) : loM t s = loM s t := by unfold loM; split <;> split <;> omega
theorem hiM_comm (s t : Int × Int) : hiM t s = hiM s t := by unfold hiM; split <;> split <;> omega
theorem eqT_self_span (x : Int × Int) : eqT (.agg (.pair (.int .i64) (.int .i64))) x x = true := by
  rw [eqT_agg, eqT_pair, eqT_int, eqT_int]; simp
theorem f_SpanLaws (s t u : Int × Int) : F_law04_SpanLaws s t u = some true := by
  have hT := @inB_trans s t u
  have h3 : s.1 ≤ loM s t ∧ t.1 ≤ loM s t := by unfold loM; split <;> omega
  have h4 : hiM s t ≤ s.2 ∧ hiM s t ≤ t.2 := by unfold hiM; split <;> omega
  unfold F_law04_SpanLaws
  rw [f_anchor04]
  simp only [f_Meet, f_In, f_Right, Option.bind_some, loM_comm s t, hiM_comm s t, eqT_self_span]
  generalize decide (t.1 ≤ t.2) = C at *
  generalize inB s u = D at *
  generalize hA : inB s t = A at *
  generalize inB t u = E at *
  by_cases h : hiM s t < loM s t
  · rw [if_pos h]
    cases A <;> cases E <;> cases C <;> cases D <;> first | rfl | simp at hT
  · rw [if_neg h]
    have e1 : inB (loM s t, hiM s t) s = true := by unfold inB; simp only [decide_eq_true_eq]; omega
    have e2 : inB (loM s t, hiM s t) t = true := by unfold inB; simp only [decide_eq_true_eq]; omega
    simp only [e1, e2]
    cases A <;> cases E <;> cases C <;> cases D <;> first | rfl | simp at hT
theorem law04_SpanLaws (a b c d e f : Int) (ha : I64 a) (hb : I64 b) (hc : I64 c) (hd : I64 d) (he : I64 e) (hf : I64 f) (w : World) :
    Calls Try.prog 15 #[.agg #[.int .i64 a, .int .i64 b], .agg #[.int .i64 c, .int .i64 d], .agg #[.int .i64 e, .int .i64 f]] w fun e w' => e = .returned (.bool true) ∧ Below w.heap.size w w' :=
  call_true ok_F_law04_SpanLaws rfl (x := ((a, b), (c, d), (e, f))) (f_SpanLaws _ _ _) rfl w _ ⟨rl_span ha hb, rl_span hc hd, rl_span he hf, trivial⟩
end Go.Proofs.Ytbpadfmdjgjjlaa
