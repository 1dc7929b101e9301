/- Growth and fits: the laws of chapter 13. -/
import Derived.Test.YtlkcanjbgaeceaaGreatLaw13F
import Derived.Test.YtlkcanjbgaeceaaGreatGreat13F
set_option linter.unusedSimpArgs false
set_option linter.unusedVariables false
namespace Go.Proofs.YtlkcanjbgaeceaaGreat
open Go.RowKit
def badB (c : Cf) (t : Tk) (i : Nat) : Bool :=
  decide ((t.2.getD i gp0).2.2.1 < (t.2.getD i gp0).2.2.2.1 + c.2.2.2.2.2.2.2.2.1 + c.2.2.2.2.2.2.1) || decide ((t.1.getD (t.2.getD i gp0).2.1.toNat sg0).1 - (t.2.getD i gp0).2.2.1 < (t.2.getD i gp0).2.2.2.1 + c.2.2.2.2.2.2.2.2.1 + c.2.2.2.2.2.2.1)
def fitsR (c : Cf) (t : Tk) : Int × Int := if wrongC c ≠ 0 then (50, 0) else if (checkI t).1 ≠ 0 then (51, 0) else
  match (List.range t.2.length).findSome? fun i => bif !badB c t i then none else some i with
  | some i => (11, (i : Int))
  | none => (0, 0)
theorem grp_facts {t : Tk} {i : Nat} (h1 : t.1.length ≤ 200) (h4 : ∀ i, i < t.1.length → segB t.1.length (t.1.getD i sg0) = true) (h5 : grpB t i (t.2.getD i gp0) = true) :
    0 ≤ (t.2.getD i gp0).2.1 ∧ (t.2.getD i gp0).2.1 < t.1.length ∧ 0 ≤ (t.2.getD i gp0).2.2.1 ∧ (t.2.getD i gp0).2.2.1 ≤ (t.1.getD (t.2.getD i gp0).2.1.toNat sg0).1 ∧ (t.1.getD (t.2.getD i gp0).2.1.toNat sg0).1 ≤ 1099511627776 ∧
      0 ≤ (t.2.getD i gp0).2.2.2.1 ∧ (t.2.getD i gp0).2.2.2.1 ≤ 1048576 ∧ 0 ≤ (t.2.getD i gp0).2.2.2.2 ∧ (t.2.getD i gp0).2.2.2.2 ≤ 16777216 ∧ 1 ≤ (t.2.getD i gp0).1 ∧ (t.2.getD i gp0).1 ≤ 65535 := by
  unfold grpB at h5
  simp only [Bool.and_eq_true, Bool.or_eq_true, decide_eq_true_eq] at h5
  have hs := h4 (t.2.getD i gp0).2.1.toNat (by omega)
  unfold segB at hs
  simp only [Bool.and_eq_true, decide_eq_true_eq] at hs
  omega
theorem check_ok' {t : Tk} (h : (checkI t).1 = 0) : 1 ≤ t.1.length ∧ t.1.length ≤ 200 ∧ t.2.length ≤ 400 ∧ (∀ i, i < t.1.length → segB t.1.length (t.1.getD i sg0) = true) ∧ ∀ i, i < t.2.length → grpB t i (t.2.getD i gp0) = true := by
  unfold checkI at h
  by_cases h1 : t.1.length = 0 ∨ 200 < t.1.length ∨ 400 < t.2.length
  · rw [if_pos h1] at h; exact absurd h (by decide)
  · rw [if_neg h1] at h
    cases h2 : firstN (fun i => segB t.1.length (t.1.getD i sg0)) t.1.length with
    | some i => rw [h2] at h; have h' : (11 : Int) = 0 := h; omega
    | none =>
      rw [h2] at h
      cases h3 : firstN (fun i => grpB t i (t.2.getD i gp0)) t.2.length with
      | some i => rw [h3] at h; have h' : (16 : Int) = 0 := h; omega
      | none => exact ⟨by omega, by omega, by omega, firstN_none.1 h2, firstN_none.1 h3⟩
theorem f_Fits (c : Cf) (t : Tk) (hs : t.1.length ≤ 200 → ∀ s ∈ t.1, s.2.1.length ≤ big ∧ s.2.2.length ≤ big) : F_conf_Config_Fits c t = some (fitsR c t) := by
  unfold F_conf_Config_Fits fitsR
  rw [f_confCheck, Option.bind_some]
  by_cases hw : wrongC c = 0
  · have e0 : ((confR c).1 != 0) = false := by unfold confR; simp [hw]
    rw [e0, if_neg (by simp [hw]), f_Check t hs]
    simp only [cond_false, Option.bind_some]
    by_cases hc : (checkI t).1 = 0
    · obtain ⟨k1, k2, k3, k4, k5⟩ := check_ok' hc
      have e1 : ((checkI t).1 != 0) = false := by simp [hc]
      rw [e1, if_neg (by simp [hc])]
      simp only [cond_false]
      rw [loop_find t.2.length (fun i => bif !badB c t i then none else some (.inl ((i : Int), 11))) (.inr ())]
      · rw [findSome_map (α := Unit)]
        cases h6 : firstN (fun i => !badB c t i) t.2.length with
        | none => unfold firstN at h6; rw [h6]; rfl
        | some i => unfold firstN at h6; rw [h6]; rfl
      · intro i hi
        rw [decide_eq_true (show (i : Int) < t.2.length by omega), decide_eq_true (show (0 : Int) ≤ i by omega), Int.toNat_natCast, wrap_ok (n := (i : Int) + 1) (by omega)]
        have hdef : t.2.getD i ((0 : Int), ((0 : Int), ((0 : Int), ((0 : Int), (0 : Int))))) = t.2.getD i gp0 := rfl
        have hseg : ∀ s, t.1.getD s ((0 : Int), ([], [])) = t.1.getD s sg0 := fun _ => rfl
        rw [hdef, hseg]
        obtain ⟨g1, g2, g3, g4, g5, g6, g7, g8, g9, _⟩ := grp_facts k2 k4 (k5 i hi)
        obtain ⟨p, lo, hi', rb, rp, ae, ms, ma, an, st, ss, ro, ti, br⟩ := c
        have R := right_iff.1 hw
        have ha := R.han
        have hm := R.hms
        unfold badB F_conf_Config_Reach
        simp only [cond_true, Bool.and_self, chk_yes]
        rw [decide_eq_true g1, decide_eq_true g2]
        generalize (t.2.getD i gp0) = g at *
        generalize (t.1.getD g.2.1.toNat sg0).1 = len at *
        simp only [Bool.and_self, chk_yes]
        rw [wrap_ok (n := len - g.2.2.1) (by omega), wrap_ok (n := g.2.2.2.1 + an) (by omega), wrap_ok (n := g.2.2.2.1 + an + ms) (by omega), Option.bind_some]
        cases decide (g.2.2.1 < g.2.2.2.1 + an + ms) <;> cases decide (len - g.2.2.1 < g.2.2.2.1 + an + ms) <;> rfl
      · simp
    · have e1 : ((checkI t).1 != 0) = true := by simp [hc]
      rw [e1, if_pos hc]
      rfl
  · have e0 : ((confR c).1 != 0) = true := by unfold confR; simp [hw]
    rw [e0, if_pos hw]
    unfold confR
    rw [if_neg hw]
    rfl
theorem f_FitsR (c : Cf) (t : Tk) (hs : t.1.length ≤ 200 → ∀ s ∈ t.1, s.2.1.length ≤ big ∧ s.2.2.length ≤ big) : F_ref13_Fits c t = some (fitsR c t) := by
  unfold F_ref13_Fits fitsR
  rw [f_Wrong, Option.bind_some]
  by_cases hw : wrongC c = 0
  · have e0 : (wrongC c != 0) = false := by simp [hw]
    rw [e0, if_neg (by simp [hw]), f_CheckR t hs]
    simp only [cond_false, Option.bind_some]
    by_cases hc : (checkI t).1 = 0
    · obtain ⟨k1, k2, k3, k4, k5⟩ := check_ok' hc
      have e1 : ((checkI t).1 != 0) = false := by simp [hc]
      rw [e1, if_neg (by simp [hc])]
      simp only [cond_false]
      rw [loop_find t.2.length (fun i => bif !badB c t i then none else some (.inl ((i : Int), 11))) (.inr ())]
      · rw [findSome_map (α := Unit)]
        cases h6 : firstN (fun i => !badB c t i) t.2.length with
        | none => unfold firstN at h6; rw [h6]; rfl
        | some i => unfold firstN at h6; rw [h6]; rfl
      · intro i hi
        rw [decide_eq_true (show (i : Int) < t.2.length by omega), decide_eq_true (show (0 : Int) ≤ i by omega), Int.toNat_natCast, wrap_ok (n := (i : Int) + 1) (by omega)]
        have hdef : t.2.getD i ((0 : Int), ((0 : Int), ((0 : Int), ((0 : Int), (0 : Int))))) = t.2.getD i gp0 := rfl
        have hseg : ∀ s, t.1.getD s ((0 : Int), ([], [])) = t.1.getD s sg0 := fun _ => rfl
        rw [hdef, hseg]
        obtain ⟨g1, g2, g3, g4, g5, g6, g7, g8, g9, _⟩ := grp_facts k2 k4 (k5 i hi)
        obtain ⟨p, lo, hi', rb, rp, ae, ms, ma, an, st, ss, ro, ti, br⟩ := c
        have R := right_iff.1 hw
        have ha := R.han
        have hm := R.hms
        unfold badB
        simp only [cond_true, Bool.and_self, chk_yes]
        rw [decide_eq_true g1, decide_eq_true g2]
        generalize (t.2.getD i gp0) = g at *
        generalize (t.1.getD g.2.1.toNat sg0).1 = len at *
        simp only [Bool.and_self, Bool.true_or, chk_yes]
        rw [wrap_ok (n := len - g.2.2.1) (by omega), wrap_ok (n := g.2.2.2.1 + an) (by omega), wrap_ok (n := g.2.2.2.1 + an + ms) (by omega)]
        cases decide (g.2.2.1 < g.2.2.2.1 + an + ms) <;> cases decide (len - g.2.2.1 < g.2.2.2.1 + an + ms) <;> rfl
      · simp
    · have e1 : ((checkI t).1 != 0) = true := by simp [hc]
      rw [e1, if_pos hc]
      rfl
  · have e0 : (wrongC c != 0) = true := by simp [hw]
    rw [e0, if_pos hw]
    rfl
end Go.Proofs.YtlkcanjbgaeceaaGreat
