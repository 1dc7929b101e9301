/- What the readings of a law's tracks say (great: more than 700 rows, or 3000 entries). -/
import Derived.Test.YtomkodhihiloiaaRefTrackF
set_option linter.unusedSimpArgs false
set_option linter.unusedVariables false
namespace Go.Proofs.Ytomkodhihiloiaa
open Go.RowKit
/-- Is a track great? -/
theorem f_great12 (t : Tk) (hR : Rows t) : ∃ b, F_law12_great t = some b ∧ (b = false → t.1.length + t.2.length ≤ 700 ∧ ∀ s ∈ t.1, s.2.1.length ≤ 3000 ∧ s.2.2.length ≤ 3000) := by
  obtain ⟨r1, r2, r3⟩ := hR
  unfold F_law12_great
  simp only [wrap_ok (n := (t.1.length : Int) + t.2.length) (by omega)]
  by_cases h : 700 < (t.1.length : Int) + t.2.length
  · rw [decide_eq_true h]; exact ⟨true, rfl, fun h => by cases h⟩
  rw [decide_eq_false h]
  simp only [cond_false]
  have := loopO_inv (f := fun (s_4 : (Int × Int)) =>
        let n_5 : Int := s_4.1
        let t18_6 : Int := s_4.2
        let t19_7 : Bool := (decide (t18_6 < (t.1.length : Int)))
        (bif t19_7 then
          chk none ((decide ((0 : Int) ≤ t18_6)) && (decide (t18_6 < (t.1.length : Int)))) <|
          let t21_8 : (Int × ((List (Int × Int)) × (List Int))) := (t.1.getD t18_6.toNat ((0 : Int), ([], [])))
          let t29_9 : Int := (IntKind.wrap .i64 ((t21_8.2.1.length : Int) + (t21_8.2.2.length : Int)))
          let t30_10 : Int := (IntKind.wrap .i64 (n_5 + t29_9))
          let t32_11 : Bool := (decide ((3000 : Int) < t30_10))
          (bif t32_11 then
            some ((.inr (.inl true)) : (Int × Int) ⊕ (Bool ⊕ Unit))
          else
            let t33_12 : Int := (IntKind.wrap .i64 (t18_6 + (1 : Int)))
            some (.inl (t30_10, t33_12)))
        else
          some (.inr (.inr ())))) (fun s => ∃ i : Nat, s.2 = (i : Int) ∧ i ≤ t.1.length ∧ 0 ≤ s.1 ∧ s.1 ≤ 3000 ∧ ∀ k, k < i → (t.1.getD k sg0).2.1.length ≤ 3000 ∧ (t.1.getD k sg0).2.2.length ≤ 3000)
      (fun s => (t.1.length - s.2).toNat) (fun x => x = .inl true ∨ (x = .inr () ∧ ∀ k, k < t.1.length → (t.1.getD k sg0).2.1.length ≤ 3000 ∧ (t.1.getD k sg0).2.2.length ≤ 3000)) ?_ ((t.1.length : Int) + t.2.length, 0)
      ⟨0, rfl, by omega, by simp only; omega, by simp only; omega, fun k hk => by omega⟩
  · obtain ⟨x, e, hx⟩ := this
    rw [e]
    rcases hx with rfl | ⟨rfl, hx⟩
    · exact ⟨true, rfl, fun h => by cases h⟩
    · refine ⟨false, rfl, fun _ => ⟨by omega, fun s hs => ?_⟩⟩
      obtain ⟨i, hi⟩ := List.getElem?_of_mem hs
      have hlt := (List.getElem?_eq_some_iff.1 hi).1
      have := hx i hlt
      rwa [getD_lt hlt, (List.getElem?_eq_some_iff.1 hi).2] at this
  · rintro ⟨n, i⟩ ⟨j, hj, h1, h2, h3, h4⟩
    simp only at hj h2 h3
    subst hj
    by_cases hlt : j < t.1.length
    · have hm : t.1.getD j sg0 ∈ t.1 := by rw [getD_lt hlt]; exact List.getElem_mem hlt
      obtain ⟨q1, q2⟩ := r3 _ hm
      have hd : t.1.getD j ((0 : Int), ([], [])) = t.1.getD j sg0 := rfl
      obtain ⟨s, hs⟩ : ∃ s, t.1.getD j sg0 = s := ⟨_, rfl⟩
      rw [hs] at hm q1 q2 hd
      simp only []
      rw [decide_eq_true (show (j : Int) < t.1.length by omega), decide_eq_true (show (0 : Int) ≤ j by omega), Int.toNat_natCast, hd]
      simp only [Bool.and_self, chk_yes, cond_true]
      rw [wrap_ok (n := (s.2.1.length : Int) + s.2.2.length) (by omega), wrap_ok (n := n + ((s.2.1.length : Int) + s.2.2.length)) (by omega), wrap_ok (n := (j : Int) + 1) (by omega)]
      by_cases hg : 3000 < n + ((s.2.1.length : Int) + s.2.2.length)
      · left; rw [decide_eq_true hg]; exact ⟨_, rfl, .inl rfl⟩
      · right
        rw [decide_eq_false hg]
        refine ⟨_, rfl, ⟨j + 1, by simp, by omega, by simp only; omega, by simp only; omega, fun k hk => ?_⟩, by simp only; omega⟩
        by_cases hk' : k = j
        · subst hk'; rw [hs]; omega
        · exact h4 k (by omega)
    · left
      simp only [decide_eq_false (show ¬ (j : Int) < t.1.length by omega), cond_false]
      have : j = t.1.length := by omega
      subst this
      exact ⟨_, rfl, .inr ⟨rfl, h4⟩⟩

end Go.Proofs.Ytomkodhihiloiaa
