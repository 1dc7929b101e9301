/- RatioBoth. -/
import Derived.Test.YtbpadfmdjgjjlaaLaw03H
set_option linter.unusedSimpArgs false
set_option linter.unusedVariables false
namespace Go.Proofs.Ytbpadfmdjgjjlaa
open Go.RowKit
/-- The two roundings are one number, or one apart. -/
theorem quo_both (n c : Int) (hc : c ≠ 0) : (quoI n c true = quoI n c false ∧ n - quoI n c false * c = 0) ∨ (quoI n c true = quoI n c false + 1 ∧ n - quoI n c false * c ≠ 0) := by
  have hD : 0 < szI c := by unfold szI; split <;> omega
  unfold quoI
  simp only [if_true, Bool.false_eq_true, if_false]
  rw [div_neg_split _ _ hD]
  by_cases g : c < 0
  · have eC : szI c = -c := by unfold szI; rw [if_pos g]
    simp only [if_pos g, eC]
    have h1 := Int.emod_add_ediv_mul (-n) (-c)
    have h2 := Int.emod_nonneg (-n) (show -c ≠ 0 by omega)
    rw [Int.mul_neg] at h1
    split
    · right; constructor <;> omega
    · left; constructor <;> omega
  · have eC : szI c = c := by unfold szI; rw [if_neg g]
    simp only [if_neg g, eC]
    have h1 := Int.emod_add_ediv_mul n c
    have h2 := Int.emod_nonneg n hc
    split
    · right; constructor <;> omega
    · left; constructor <;> omega
theorem f_RatioBoth (a b c : Int) (ha : I64 a) (hb : I64 b) (hc : I64 c) : F_law03_RatioBoth a b c = some true := by
  unfold F_law03_RatioBoth
  rw [f_anchor03, Option.bind_some, f_Floor a b c ha hb hc, f_Ceil a b c ha hb hc]
  simp only [Bool.not_true, cond_false, Option.bind_some]
  by_cases h0 : c = 0
  · subst h0; rfl
  · rw [if_neg h0, if_neg h0]
    by_cases q1 : in64 (quoI (a * b) c false) = true
    · by_cases q2 : in64 (quoI (a * b) c true) = true
      · have e1 : sayI (quoI (a * b) c false) = (quoI (a * b) c false, 0) := by unfold sayI; rw [if_pos q1]
        have e2 : sayI (quoI (a * b) c true) = (quoI (a * b) c true, 0) := by unfold sayI; rw [if_pos q2]
        have r1 := in64_iff.1 q1
        have r2 := in64_iff.1 q2
        obtain ⟨n, f1, k1⟩ := n_rest a b (quoI (a * b) c false) c ha hb ⟨r1.1, r1.2⟩ hc
        have hV := prod_bound ha hb
        have hQ := prod_bound (show I64 (quoI (a * b) c false) from r1) hc
        have hs := n_sign k1 (by omega)
        have hboth := quo_both (a * b) c h0
        have hneg : quoI (-(a * b)) c true = -quoI (a * b) c false := by rw [quo_up, Int.neg_neg]
        rw [e1, e2]
        simp only [bne_self_eq_false, cond_false, Option.bind_some]
        have hab : -a * b = -(a * b) := Int.neg_mul _ _
        generalize a * b = V at *
        generalize quoI V c false = F at *
        generalize quoI V c true = U at *
        have hsz : (signI (V - F * c) == 0) = decide (V - F * c = 0) := by
          unfold signI
          rw [Bool.eq_iff_iff]
          split
          · simp; omega
          · split <;> simp <;> omega
        have hw : U ≠ F → IntKind.i64.wrap (F + 1) = U := by intro h; rw [IntKind.wrap_i64]; omega
        have hmax : U ≠ F → F ≠ 9223372036854775807 := by intro h; omega
        have h47 : (bif (U != F) then (bif (F == 9223372036854775807) then true else (U != IntKind.i64.wrap (F + 1))) else false) = false := by
          by_cases hu : U = F
          · subst hu; simp
          · have := hmax hu
            simp [hw hu, this]
        rw [h47]
        simp only [Bool.not_false, cond_true, f1, Option.bind_some, hs, hsz]
        have h59 : (!((U == F) == decide (V - F * c = 0))) = false := by
          rcases hboth with ⟨g1, g2⟩ | ⟨g1, g2⟩
          · rw [decide_eq_true g2]; simp [g1]
          · rw [decide_eq_false g2]; simp [g1]; omega
        rw [h59]
        simp only [cond_false]
        by_cases ha0 : a = -9223372036854775808
        · simp [ha0]
        · by_cases hF0 : F = -9223372036854775808
          · simp [hF0]
          · obtain ⟨a1, a2⟩ := ha
            have hwa : IntKind.i64.wrap (0 - a) = -a := by rw [IntKind.wrap_i64]; omega
            have hwF : IntKind.i64.wrap (0 - F) = -F := by rw [IntKind.wrap_i64]; omega
            rw [hwa, hwF, f_Ceil (-a) b c ⟨by omega, by omega⟩ hb hc, if_neg h0, hab, hneg]
            have : sayI (-F) = (-F, 0) := by unfold sayI; rw [in64_yes (by omega), if_pos rfl]
            rw [this]
            simp [ha0, hF0]
      · have e2 : sayI (quoI (a * b) c true) = (0, 20) := by unfold sayI; rw [if_neg q2]
        rw [e2]
        cases ((sayI (quoI (a * b) c false)).2 != 0) <;> rfl
    · have e1 : sayI (quoI (a * b) c false) = (0, 20) := by unfold sayI; rw [if_neg q1]
      rw [e1]
      rfl
theorem law03_RatioBoth (a b c : Int) (ha : I64 a) (hb : I64 b) (hc : I64 c) (w : World) :
    Calls Try.prog 11 #[.int .i64 a, .int .i64 b, .int .i64 c] w fun e w' => e = .returned (.bool true) ∧ Below w.heap.size w w' :=
  call_true ok_F_law03_RatioBoth rfl (x := (a, b, c)) (f_RatioBoth _ _ _ ha hb hc) rfl w _ ⟨rl_i64 ha, rl_i64 hb, rl_i64 hc, trivial⟩
end Go.Proofs.Ytbpadfmdjgjjlaa
