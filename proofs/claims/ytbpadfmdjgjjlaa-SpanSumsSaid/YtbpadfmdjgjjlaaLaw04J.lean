/- SpanTimes. -/
import Derived.Test.YtbpadfmdjgjjlaaLaw04I
set_option linter.unusedSimpArgs false
set_option linter.unusedVariables false
namespace Go.Proofs.Ytbpadfmdjgjjlaa
open Go.RowKit
theorem quo_floor {n c : Int} (hc : 0 < c) : quoI n c false = n / c := by
  unfold quoI szI
  simp only [if_neg (show ¬ c < 0 by omega)]
  rfl
theorem quo_ceil {n c : Int} (hc : 0 < c) : quoI n c true = if n - n / c * c = 0 then n / c else n / c + 1 := by
  have e : szI c = c := by unfold szI; rw [if_neg (by omega)]
  unfold quoI
  simp only [if_neg (show ¬ c < 0 by omega), e, if_true]
  rw [div_neg_split n c hc]
  have h1 := Int.emod_add_ediv_mul n c
  have h2 := Int.emod_nonneg n (show c ≠ 0 by omega)
  split <;> split <;> omega
theorem f_SpanTimes (s : Int × Int) (k b : Int) (h1 : I64 s.1) (h2 : I64 s.2) (hk : I64 k) (hb : I64 b) : F_law04_SpanTimes s k b = some true := by
  unfold F_law04_SpanTimes
  rw [f_anchor04, Option.bind_some, f_Times s k b h1 h2 hk hb, Option.bind_some]
  simp only [Bool.not_true, cond_false]
  by_cases h : s.2 < s.1 ∨ b < 1
  · rw [if_pos h]
    by_cases g1 : s.2 < s.1 <;> by_cases g2 : b < 1 <;> first | (exfalso; omega) | simp [g1, g2, eqT_self_span]
  · rw [if_neg h]
    have e1 : decide (s.2 < s.1) = false := by simp; omega
    have e2 : decide (b < 1) = false := by simp; omega
    rw [e1, e2]
    simp only [cond_false]
    have hc0 : 0 < b := by omega
    obtain ⟨b1, b2⟩ := id hb
    have main : ∀ lo hi : Int, I64 lo → I64 hi → ∀ (T : (Int × Int) × Int), T = (if in64 (quoI (k * lo) b false) = true ∧ in64 (quoI (k * hi) b true) = true then ((quoI (k * lo) b false, quoI (k * hi) b true), 0) else ((0, 0), 20)) →
        ((F_ref04_Quotient k lo b).bind fun q1 => (F_ref04_Quotient k hi b).bind fun q2 => (F_ref01_Times k hi).bind fun p =>
          Option.bind (bif q2.2 then (F_ref01_Times q2.1 b).bind fun t72 => (F_ref01_Minor t72).bind fun t73 => (F_ref01_Sum p t73).bind fun t74 =>
              Option.bind (bif (!(eqT (.agg (.pair (.int .u64) (.pair (.int .u64) (.pair (.int .u64) (.int .u64))))) t74.2 ((0 : Int), ((0 : Int), ((0 : Int), (0 : Int)))))) then
                Option.bind (bif (q2.1 != (9223372036854775807 : Int)) then some (IntKind.wrap .i64 (q2.1 + (1 : Int))) else some q2.1) fun r => some (r, (q2.1 != (9223372036854775807 : Int)))
              else some (q2.1, q2.2)) fun r => some (r.1, r.2)
            else (F_ref01_Times (-9223372036854775808 : Int) b).bind fun t85 => (F_ref01_Minor p).bind fun t87 => (F_ref01_Sum t85 t87).bind fun t88 =>
              (bif (decide ((0 : Int) < t88.1)) then F_ref01_Of b else some ((0 : Int), ((0 : Int), ((0 : Int), ((0 : Int), (0 : Int)))))).bind fun t96 =>
              (bif (decide ((0 : Int) < t88.1)) then F_ref01_Less t88.2 t96.2 else some false).bind fun t98 =>
              Option.bind (bif (bif (decide ((0 : Int) < t88.1)) then t98 else false) then some ((-9223372036854775808 : Int), true) else some (q2.1, q2.2)) fun r => some (r.1, r.2)) fun r38 =>
          (bif (bif (!q1.2) then true else (!r38.2)) then
            some (bif (T.2 == (20 : Int)) then (eqT (.agg (.pair (.int .i64) (.int .i64))) T.1 ((0 : Int), (0 : Int))) else false)
          else some (bif (bif (T.2 == (0 : Int)) then (T.1.1 == q1.1) else false) then (T.1.2 == r38.1) else false))) = some true := by
      intro lo hi hlo hhi T hT
      rw [f_Quotient k lo b hk hlo hb hc0, f_Quotient k hi b hk hhi hb hc0]
      obtain ⟨p, e3, hp⟩ := n_Times k hi hk hhi
      have hV := prod_bound hk hhi
      rw [e3]
      simp only [Option.bind_some]
      rw [quo_floor hc0, quo_ceil hc0] at hT
      have hm := Int.emod_add_ediv_mul (k * hi) b
      have hm1 := Int.emod_nonneg (k * hi) (show b ≠ 0 by omega)
      have hm2 := Int.emod_lt_of_pos (k * hi) hc0
      generalize k * lo / b = ql at *
      generalize hqh : k * hi / b = qh at *
      generalize k * hi = V at *
      -- what the second part gives
      have second : ∃ r : Int × Bool, (bif (if in64 qh = true then (qh, true) else ((0 : Int), false)).2 then (F_ref01_Times (if in64 qh = true then (qh, true) else ((0 : Int), false)).1 b).bind fun t72 => (F_ref01_Minor t72).bind fun t73 => (F_ref01_Sum p t73).bind fun t74 =>
              Option.bind (bif (!(eqT (.agg (.pair (.int .u64) (.pair (.int .u64) (.pair (.int .u64) (.int .u64))))) t74.2 ((0 : Int), ((0 : Int), ((0 : Int), (0 : Int)))))) then
                Option.bind (bif ((if in64 qh = true then (qh, true) else ((0 : Int), false)).1 != (9223372036854775807 : Int)) then some (IntKind.wrap .i64 ((if in64 qh = true then (qh, true) else ((0 : Int), false)).1 + (1 : Int))) else some (if in64 qh = true then (qh, true) else ((0 : Int), false)).1) fun r => some (r, ((if in64 qh = true then (qh, true) else ((0 : Int), false)).1 != (9223372036854775807 : Int)))
              else some ((if in64 qh = true then (qh, true) else ((0 : Int), false)).1, (if in64 qh = true then (qh, true) else ((0 : Int), false)).2)) fun r => some (r.1, r.2)
            else (F_ref01_Times (-9223372036854775808 : Int) b).bind fun t85 => (F_ref01_Minor p).bind fun t87 => (F_ref01_Sum t85 t87).bind fun t88 =>
              (bif (decide ((0 : Int) < t88.1)) then F_ref01_Of b else some ((0 : Int), ((0 : Int), ((0 : Int), ((0 : Int), (0 : Int)))))).bind fun t96 =>
              (bif (decide ((0 : Int) < t88.1)) then F_ref01_Less t88.2 t96.2 else some false).bind fun t98 =>
              Option.bind (bif (bif (decide ((0 : Int) < t88.1)) then t98 else false) then some ((-9223372036854775808 : Int), true) else some ((if in64 qh = true then (qh, true) else ((0 : Int), false)).1, (if in64 qh = true then (qh, true) else ((0 : Int), false)).2)) fun r => some (r.1, r.2)) = some r ∧
          r.2 = in64 (if V - qh * b = 0 then qh else qh + 1) ∧ (r.2 = true → r.1 = (if V - qh * b = 0 then qh else qh + 1)) := by
        by_cases hq : in64 qh = true
        · have hq' := in64_iff.1 hq
          simp only [if_pos hq, cond_true]
          obtain ⟨m1, f1, g1⟩ := n_Times qh b ⟨hq'.1, hq'.2⟩ hb
          obtain ⟨m2, f2, g2⟩ := n_Minor g1
          have hqb := prod_bound (show I64 qh from ⟨hq'.1, hq'.2⟩) hb
          obtain ⟨m3, f3, g3⟩ := n_Sum hp g2 hV (by omega)
          rw [f1, Option.bind_some, f2, Option.bind_some, f3, Option.bind_some, n_zero g3 (by omega)]
          by_cases hz : V + -(qh * b) = 0
          · rw [decide_eq_true hz, if_pos (by omega)]
            exact ⟨_, rfl, hq.symm, fun _ => rfl⟩
          · rw [decide_eq_false hz, if_neg (by omega)]
            by_cases hx : qh = 9223372036854775807
            · subst hx
              exact ⟨_, rfl, rfl, fun h => by cases h⟩
            · have hx' : (qh != 9223372036854775807) = true := by simpa using hx
              have hw : IntKind.i64.wrap (qh + 1) = qh + 1 := by rw [IntKind.wrap_i64]; omega
              rw [hx', hw, in64_yes (by omega)]
              exact ⟨_, rfl, rfl, fun _ => rfl⟩
        · have hqf : in64 qh = false := by simpa using hq
          have hq' : ¬ (-9223372036854775808 ≤ qh ∧ qh ≤ 9223372036854775807) := fun h => hq (in64_yes h)
          simp only [if_neg hq, cond_false]
          obtain ⟨m1, f1, g1⟩ := n_Times (-9223372036854775808) b ⟨by omega, by omega⟩ hb
          obtain ⟨m2, f2, g2⟩ := n_Minor hp
          obtain ⟨m3, f3, g3⟩ := n_Sum g1 g2 (by omega) (by omega)
          rw [f1, Option.bind_some, f2, Option.bind_some, f3, Option.bind_some]
          have kmin : -9223372036854775808 ≤ qh ↔ -9223372036854775808 * b ≤ V := by rw [← hqh]; exact Int.le_ediv_iff_mul_le hc0
          have kmin1 : -9223372036854775808 - 1 ≤ qh ↔ (-9223372036854775808 - 1) * b ≤ V := by rw [← hqh]; exact Int.le_ediv_iff_mul_le hc0
          rw [Int.sub_mul, Int.one_mul] at kmin1
          obtain ⟨sg, t1, rfl, t3⟩ := g3
          by_cases hlt : V < -9223372036854775808 * b
          · have e5 : szI (-9223372036854775808 * b + -V) = -9223372036854775808 * b - V := by unfold szI; rw [if_neg (by omega)]; omega
            have e6 : szI b = b := by unfold szI; rw [if_neg (by omega)]
            rw [e5] at t3 ⊢
            have hs1 : sg = 1 := by rcases t1 with rfl | rfl <;> omega
            subst hs1
            have hl := f_Less (dg (-9223372036854775808 * b - V)) (dg b) (dg_isD _) (dg_isD _)
            rw [num_dg ⟨by omega, by omega⟩, num_dg ⟨by omega, by omega⟩] at hl
            simp only [show decide ((0 : Int) < 1) = true from rfl, cond_true]
            rw [f_Of b hb, e6, Option.bind_some]
            simp only []
            rw [hl, Option.bind_some]
            by_cases hv : -9223372036854775808 * b - V < b
            · have hq1 : qh = -9223372036854775808 - 1 := by omega
              subst hq1
              rw [decide_eq_true hv, if_neg (by omega)]
              exact ⟨_, rfl, rfl, fun _ => rfl⟩
            · have hnot : ¬ (-9223372036854775808 ≤ (if V - qh * b = 0 then qh else qh + 1) ∧ (if V - qh * b = 0 then qh else qh + 1) ≤ 9223372036854775807) := by
                split
                · omega
                · rename_i hne
                  intro hc'
                  have hq1 : qh = -9223372036854775808 - 1 := by omega
                  subst hq1
                  rw [Int.sub_mul, Int.one_mul] at hne hm
                  omega
              rw [decide_eq_false hv, in64_no hnot]
              exact ⟨_, rfl, rfl, fun h => by cases h⟩
          · have e5 : szI (-9223372036854775808 * b + -V) = V + 9223372036854775808 * b := by
              unfold szI; split <;> omega
            have hv0 : V ≠ -9223372036854775808 * b := by
              intro hv
              have : -9223372036854775808 * b / b = -9223372036854775808 := Int.mul_ediv_cancel _ (by omega)
              rw [← hv, hqh] at this
              omega
            rw [e5] at t3 ⊢
            have hs1 : sg = -1 := by rcases t1 with rfl | rfl <;> omega
            subst hs1
            have hnot : ¬ (-9223372036854775808 ≤ (if V - qh * b = 0 then qh else qh + 1) ∧ (if V - qh * b = 0 then qh else qh + 1) ≤ 9223372036854775807) := by
              split <;> omega
            rw [in64_no hnot]
            exact ⟨_, rfl, rfl, fun h => by cases h⟩
      obtain ⟨r, hr1, hr2, hr3⟩ := second
      rw [hr1, Option.bind_some]
      generalize (if V - qh * b = 0 then qh else qh + 1) = qc at *
      obtain ⟨r1, r2⟩ := r
      simp only at hr2 hr3
      subst hr2
      subst hT
      by_cases g1 : in64 ql = true <;> by_cases g2 : in64 qc = true
      · simp [g1, g2, hr3 g2]
      · simp [g1, g2, eqT_self_span]
      · simp [g1, g2, eqT_self_span]
      · simp [g1, g2, eqT_self_span]
    by_cases hk0 : k < 0
    · rw [decide_eq_true hk0]
      simp only [cond_true, Option.bind_some, if_pos hk0]
      exact main s.2 s.1 h2 h1 _ rfl
    · rw [decide_eq_false hk0]
      simp only [cond_false, Option.bind_some, if_neg hk0]
      exact main s.1 s.2 h1 h2 _ rfl
theorem law04_SpanTimes (a b k c : Int) (ha : I64 a) (hb : I64 b) (hk : I64 k) (hc : I64 c) (w : World) :
    Calls Try.prog 14 #[.agg #[.int .i64 a, .int .i64 b], .int .i64 k, .int .i64 c] w fun e w' => e = .returned (.bool true) ∧ Below w.heap.size w w' :=
  call_true ok_F_law04_SpanTimes rfl (x := ((a, b), k, c)) (f_SpanTimes (a, b) k c ha hb hk hc) rfl w _ ⟨rl_span ha hb, rl_i64 hk, rl_i64 hc, trivial⟩
end Go.Proofs.Ytbpadfmdjgjjlaa
