/- TrackLess: what its reading says is true. -/
import Derived.Test.YtckghclpdfbigaaSearchF
set_option linter.unusedSimpArgs false
set_option linter.unusedVariables false
namespace Go.Proofs.Ytckghclpdfbigaa
open Go.RowKit
theorem check_ok {t : Tk} (h : (checkI t).1 = 0) : 1 ≤ t.1.length ∧ t.1.length ≤ 200 ∧ t.2.length ≤ 400 ∧ (∀ i, i < t.1.length → segB t.1.length (t.1.getD i sg0) = true) ∧ ∀ i, i < t.2.length → grpB t i (t.2.getD i gp0) = true := by
  unfold checkI at h
  by_cases h1 : t.1.length = 0 ∨ 200 < t.1.length ∨ 400 < t.2.length
  · rw [if_pos h1] at h; exact absurd h (by decide)
  · rw [if_neg h1] at h
    cases h2 : firstN (fun i => segB t.1.length (t.1.getD i sg0)) t.1.length with
    | some i => rw [h2] at h; have h' : (11 : Int) = 0 := h; omega
    | none =>
      rw [h2] at h
      cases h3 : firstN (fun i => grpB t i (t.2.getD i gp0)) t.2.length with
      | some i => rw [h3] at h; have h' : (16 : Int) = 0 := h; omega
      | none => exact ⟨by omega, by omega, by omega, firstN_none.1 h2, firstN_none.1 h3⟩
theorem ok_check {t : Tk} (h1 : 1 ≤ t.1.length) (h2 : t.1.length ≤ 200) (h3 : t.2.length ≤ 400) (h4 : ∀ i, i < t.1.length → segB t.1.length (t.1.getD i sg0) = true) (h5 : ∀ i, i < t.2.length → grpB t i (t.2.getD i gp0) = true) : checkI t = (0, 0) := by
  unfold checkI
  rw [if_neg (by omega), firstN_none.2 h4, firstN_none.2 h5]
theorem f_TrackLess (t : Tk) (hR : Rows t) : F_law11_TrackLess t = some true := by
  obtain ⟨b, e, hb⟩ := f_great t hR
  obtain ⟨r1, r2, r3⟩ := hR
  have hs : ∀ s ∈ t.1, s.2.1.length ≤ big ∧ s.2.2.length ≤ big := fun s hs => by have := r3 s hs; unfold big; omega
  unfold F_law11_TrackLess
  rw [f_anchor11, Option.bind_some, e, Option.bind_some]
  simp only [Bool.not_true, cond_false]
  cases b with
  | true => rfl
  | false =>
    by_cases h0 : t.2.length = 0
    · have : ((t.2.length : Int) == 0) = true := by simp [h0]
      rw [this]; rfl
    have e0 : ((t.2.length : Int) == 0) = false := by simpa using h0
    rw [e0, f_Check t (fun _ => hs)]
    simp only [cond_false, Option.bind_some, wrap_ok (n := (t.2.length : Int) - 1) (by omega)]
    rw [decide_eq_true (show (0 : Int) ≤ (t.2.length : Int) - 1 by omega), decide_eq_true (show (t.2.length : Int) - 1 ≤ t.2.length by omega), Bool.and_self, Bool.and_self, chk_yes rfl, f_Check (t.1, List.drop (Int.toNat 0) (List.take ((t.2.length : Int) - 1).toNat t.2)) (fun _ => hs), Option.bind_some]
    refine congrArg some ?_
    by_cases hc : (checkI t).1 = 0
    · obtain ⟨k1, k2, k3, k4, k5⟩ := check_ok hc
      have hn : (((t.2.length : Int) - 1).toNat) = t.2.length - 1 := by omega
      have hl : ((t.2.take ((t.2.length : Int) - 1).toNat).drop (0 : Int).toNat) = t.2.take (t.2.length - 1) := by rw [hn]; rfl
      have hget : ∀ i, i < t.2.length - 1 → (t.2.take (t.2.length - 1)).getD i gp0 = t.2.getD i gp0 := by
        intro i hi
        rw [getD_lt (by simp; omega), getD_lt (by omega)]
        simp
      rw [hl, ok_check (t := (t.1, t.2.take (t.2.length - 1))) k1 k2 (by simp; omega) k4 (fun i hi => ?_), hc]
      · rfl
      · have hi' : i < t.2.length - 1 := by simp at hi; omega
        have := k5 i (by omega)
        unfold grpB at this ⊢
        simp only
        rw [hget i hi']
        by_cases hi0 : i = 0
        · subst hi0; simpa using this
        · rw [hget (i - 1) (by omega)]
          exact this
    · have : ((checkI t).1 != 0) = true := by simpa using hc
      rw [this]; rfl
end Go.Proofs.Ytckghclpdfbigaa
