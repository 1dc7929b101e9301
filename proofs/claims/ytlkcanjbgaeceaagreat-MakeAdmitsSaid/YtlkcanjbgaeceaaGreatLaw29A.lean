/- MakeAdmits: the law. -/
import Derived.Test.YtlkcanjbgaeceaaGreatLaw29F
import Derived.Test.YtlkcanjbgaeceaaGreatLaw28K
set_option linter.unusedSimpArgs false
set_option linter.unusedVariables false
namespace Go.Proofs.YtlkcanjbgaeceaaGreat
open Go.RowKit
theorem f_refs29 (t : Tk) (h1 : t.1.length + t.2.length ≤ 2000) (h2 : ∀ s ∈ t.1, s.2.1.length ≤ 20000 ∧ s.2.2.length ≤ 20000) : F_law29_refs t = some t := by
  unfold F_law29_refs
  rw [show ((0 : Int), ([] : List Sg)) = (((0 : Nat) : Int), t.1.take 0) from rfl]
  rw [loop_run (n := t.1.length) (st := fun i => ((i : Int), t.1.take i)) (x := t.1)]
  · rw [Option.bind_some]
    rw [show (([] : List Gp), (0 : Int)) = (t.2.take 0, ((0 : Nat) : Int)) from rfl]
    rw [loop_run (n := t.2.length) (st := fun i => (t.2.take i, (i : Int))) (x := t.2)]
    · rfl
    · intro i hi
      simp only []
      rw [decide_eq_true (show (i : Int) < t.2.length by omega), decide_eq_true (show (0 : Int) ≤ i by omega)]
      simp only [cond_true, Bool.and_self, chk_yes]
      rw [Int.toNat_natCast, chk_yes (by simp; omega), wrap_ok (n := (i : Int) + 1) (by omega), take_succ_getD hi]
      rfl
    · simp
  · intro i hi
    simp only []
    rw [decide_eq_true (show (i : Int) < t.1.length by omega), decide_eq_true (show (0 : Int) ≤ i by omega)]
    simp only [cond_true, Bool.and_self, chk_yes]
    rw [Int.toNat_natCast, wrap_ok (n := (i : Int) + 1) (by omega)]
    have hm : t.1.getD i ((0 : Int), ([], [])) ∈ t.1 := by rw [getD_lt hi]; exact List.getElem_mem hi
    obtain ⟨s, hs⟩ : ∃ s, t.1.getD i ((0 : Int), ([], [])) = s := ⟨_, rfl⟩
    have hq := h2 _ hm
    rw [hs] at hq ⊢
    rw [show (([] : List (Int × Int)), (0 : Int)) = (s.2.1.take 0, ((0 : Nat) : Int)) from rfl]
    rw [loop_run (n := s.2.1.length) (st := fun k => (s.2.1.take k, (k : Int))) (x := s.2.1)]
    · rw [Option.bind_some, chk_yes (by simp; omega)]
      have : t.1.take i ++ [(s.1, (s.2.1, s.2.2))] = t.1.take (i + 1) := by rw [← hs]; exact take_succ_getD hi
      rw [this]; rfl
    · intro k hk
      simp only []
      rw [decide_eq_true (show (k : Int) < s.2.1.length by omega), decide_eq_true (show (0 : Int) ≤ k by omega)]
      simp only [cond_true, Bool.and_self, chk_yes]
      rw [Int.toNat_natCast, chk_yes (by simp; omega), wrap_ok (n := (k : Int) + 1) (by omega), take_succ_getD hk]
      rfl
    · simp
  · simp
theorem f_ref29 (s : Scr) (h1 : s.2.2.2.2.2.1.length ≤ 120) (h2 : s.2.2.2.2.2.2.length ≤ 120) : F_law29_ref s = some (refS s) := by
  unfold F_law29_ref refS
  simp only []
  generalize s.2.2.2.2.2.1 = tk at *
  generalize s.2.2.2.2.2.2 = rd at *
  rw [show (([] : List RTick), (0 : Int)) = ((tk.take 0).map refT, ((0 : Nat) : Int)) from rfl]
  rw [loop_run (n := tk.length) (st := fun i => ((tk.take i).map refT, (i : Int))) (x := tk.map refT)]
  · rw [Option.bind_some]
    rw [show (([] : List Rd), (0 : Int)) = (rd.take 0, ((0 : Nat) : Int)) from rfl]
    rw [loop_run (n := rd.length) (st := fun i => (rd.take i, (i : Int))) (x := rd)]
    · rfl
    · intro i hi
      simp only []
      rw [decide_eq_true (show (i : Int) < rd.length by omega), decide_eq_true (show (0 : Int) ≤ i by omega)]
      simp only [cond_true, Bool.and_self, chk_yes]
      rw [Int.toNat_natCast, chk_yes (by simp; omega), wrap_ok (n := (i : Int) + 1) (by omega), take_succ_getD hi]
      rfl
    · simp
  · intro i hi
    simp only []
    rw [decide_eq_true (show (i : Int) < tk.length by omega), decide_eq_true (show (0 : Int) ≤ i by omega), Int.toNat_natCast, tk_def, wrap_ok (n := (i : Int) + 1) (by omega), ← take_succ_getD (d := tk0) hi]
    simp only [cond_true, Bool.and_self, chk_yes]
    generalize tk.getD i tk0 = t
    obtain ⟨v, ⟨s0, s1⟩, r, a, ⟨l0, l1, l2, l3⟩, j, cm⟩ := t
    have hg : ∀ x : RTick, decide (((List.map refT (List.take i tk)).length + ([x] : List RTick).length) * 104 ≤ 140737488355328) = true := by
      intro x
      simp
      omega
    rw [List.map_append]
    cases l0 <;> cases l1 <;> cases l2 <;> cases l3 <;> cases cm <;> (simp only [cond_true, cond_false, Option.bind_some]; rw [chk_yes (hg _)]; rfl)
  · simp
theorem f_MakeAdmits (c : Cf) (t : Tk) (seed n : Int) (hR : Rows t) : F_law29_MakeAdmits c t seed n = some true := by
  have hR' := hR
  obtain ⟨r1, r2, r3⟩ := hR'
  have hs : t.1.length ≤ 200 → ∀ s ∈ t.1, s.2.1.length ≤ big ∧ s.2.2.length ≤ big := fun _ s hs => by have := r3 s hs; unfold big; omega
  unfold F_law29_MakeAdmits
  rw [f_anchor29, Option.bind_some]
  simp only [Bool.not_true, cond_false]
  cases h0 : (bif (bif decide ((50 : Int) < t.1.length) then true else decide ((100 : Int) < t.2.length)) then true else (bif decide ((100 : Int) < n) then decide (n ≤ 4096) else false)) with
  | true => rfl
  | false =>
    have g1 : ¬ (50 : Int) < t.1.length := by
      intro h; rw [decide_eq_true h] at h0; cases h0
    have g2 : ¬ (100 : Int) < t.2.length := by
      intro h; rw [decide_eq_false g1, decide_eq_true h] at h0; cases h0
    have g3 : n ≤ 100 ∨ 4096 < n := by
      by_cases h : (100 : Int) < n
      · rw [decide_eq_false g1, decide_eq_false g2, decide_eq_true h] at h0
        simp only [cond_false, cond_true, decide_eq_false_iff_not] at h0
        omega
      · omega
    simp only [cond_false]
    rw [loop_find t.1.length (fun i => bif (bif decide ((100 : Int) < (t.1.getD i sg0).2.1.length) then true else decide ((3 : Int) < (t.1.getD i sg0).2.2.length)) then some (.inl true) else none) (.inr ())]
    · rcases any_find t.1.length (fun i => bif decide ((100 : Int) < (t.1.getD i sg0).2.1.length) then true else decide ((3 : Int) < (t.1.getD i sg0).2.2.length)) (fun _ => (Sum.inl true : Bool ⊕ Unit)) with ⟨e1, e2⟩ | ⟨i, e1, _⟩
      · have g4 : ∀ x ∈ t.1, x.2.1.length ≤ 20000 ∧ x.2.2.length ≤ 20000 := by
          intro x hx
          obtain ⟨i, hi, rfl⟩ := List.mem_iff_getElem.1 hx
          unfold anyB at e2
          have e3 := List.any_eq_false.1 e2 i (List.mem_range.2 hi)
          rw [getD_lt hi] at e3
          by_cases q1 : (100 : Int) < (t.1[i]).2.1.length
          · rw [decide_eq_true q1] at e3; exact absurd rfl e3
          · rw [decide_eq_false q1] at e3
            by_cases q2 : (3 : Int) < (t.1[i]).2.2.length
            · rw [decide_eq_true q2] at e3; exact absurd rfl e3
            · omega
        rw [e1]
        simp only [Option.getD_none, Option.bind_some]
        have hfr := f_refs29 t (by omega) g4
        by_cases h : (fitsR c t).1 ≠ 0 ∨ n < 0 ∨ 4096 < n
        · have e : (bif (bif (fitsR c t).1 != 0 then true else decide (n < 0)) then true else decide (4096 < n)) = true := by
            rcases h with h | h | h
            · rw [show ((fitsR c t).1 != 0) = true by simp [h]]; rfl
            · rw [decide_eq_true h]; cases ((fitsR c t).1 != 0) <;> rfl
            · rw [decide_eq_true h]; cases ((fitsR c t).1 != 0) <;> cases decide (n < 0) <;> rfl
          rw [f_Make_no c t seed n hs h, Option.bind_some, hfr, Option.bind_some, f_FitsR c t hs, Option.bind_some]
          simp only []
          rw [e]
          rfl
        · have e : (bif (bif (fitsR c t).1 != 0 then true else decide (n < 0)) then true else decide (4096 < n)) = false := by
            rw [show ((fitsR c t).1 != 0) = false by simp; omega, decide_eq_false (by omega), decide_eq_false (by omega)]; rfl
          obtain ⟨s, em, hA, h1, h2, _, h3, h4⟩ := f_Make c t seed n hs (by omega) (by omega) (by omega)
          rw [em, Option.bind_some, hfr, Option.bind_some, f_FitsR c t hs, Option.bind_some]
          simp only []
          rw [e, h1]
          simp only [cond_false, cond_true, beq_self_eq_true, Option.bind_some]
          have hb : ∀ y ∈ s.2.2.2.2.2.1, ∀ b ∈ y.2.2.2.2.2.1, False := fun y hy b hb => by rw [h4 y hy] at hb; cases hb
          rw [f_ref29 s (by omega) (by omega), Option.bind_some, f_rAdmit c t s hR ⟨h3, by omega, by omega, fun y hy b hb' => (hb y hy b hb').elim⟩ (fun y hy b hb' => (hb y hy b hb').elim), Option.bind_some, admit_iff.2 hA]
          rfl
      · rw [e1]; rfl
    · intro i hi
      rw [decide_eq_true (show (i : Int) < t.1.length by omega), decide_eq_true (show (0 : Int) ≤ i by omega), Int.toNat_natCast, wrap_ok (n := (i : Int) + 1) (by omega), sg_def]
      simp only [cond_true, Bool.and_self, chk_yes]
      cases (bif decide ((100 : Int) < (t.1.getD i sg0).2.1.length) then true else decide ((3 : Int) < (t.1.getD i sg0).2.2.length)) <;> rfl
    · simp
end Go.Proofs.YtlkcanjbgaeceaaGreat
