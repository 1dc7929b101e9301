/- AdmitChecks: the law. -/
import Derived.Test.YtgogjcbfnnhaoaaGreatLaw28K
set_option linter.unusedSimpArgs false
set_option linter.unusedVariables false
namespace Go.Proofs.YtgogjcbfnnhaoaaGreat
open Go.RowKit
theorem f_refs28 (t : Tk) (h1 : t.1.length + t.2.length ≤ 2000) (h2 : ∀ s ∈ t.1, s.2.1.length ≤ 20000 ∧ s.2.2.length ≤ 20000) : F_law28_refs t = some t := by
  unfold F_law28_refs
  rw [show ((0 : Int), ([] : List Sg)) = (((0 : Nat) : Int), t.1.take 0) from rfl]
  rw [loop_run (n := t.1.length) (st := fun i => ((i : Int), t.1.take i)) (x := t.1)]
  · rw [Option.bind_some]
    rw [show (([] : List Gp), (0 : Int)) = (t.2.take 0, ((0 : Nat) : Int)) from rfl]
    rw [loop_run (n := t.2.length) (st := fun i => (t.2.take i, (i : Int))) (x := t.2)]
    · rfl
    · intro i hi
      simp only []
      rw [decide_eq_true (show (i : Int) < t.2.length by omega), decide_eq_true (show (0 : Int) ≤ i by omega)]
      simp only [cond_true, Bool.and_self, chk_yes]
      rw [Int.toNat_natCast, chk_yes (by simp; omega), wrap_ok (n := (i : Int) + 1) (by omega), take_succ_getD hi]
      rfl
    · simp
  · intro i hi
    simp only []
    rw [decide_eq_true (show (i : Int) < t.1.length by omega), decide_eq_true (show (0 : Int) ≤ i by omega)]
    simp only [cond_true, Bool.and_self, chk_yes]
    rw [Int.toNat_natCast, wrap_ok (n := (i : Int) + 1) (by omega)]
    have hm : t.1.getD i ((0 : Int), ([], [])) ∈ t.1 := by rw [getD_lt hi]; exact List.getElem_mem hi
    obtain ⟨s, hs⟩ : ∃ s, t.1.getD i ((0 : Int), ([], [])) = s := ⟨_, rfl⟩
    have hq := h2 _ hm
    rw [hs] at hq ⊢
    rw [show (([] : List (Int × Int)), (0 : Int)) = (s.2.1.take 0, ((0 : Nat) : Int)) from rfl]
    rw [loop_run (n := s.2.1.length) (st := fun k => (s.2.1.take k, (k : Int))) (x := s.2.1)]
    · rw [Option.bind_some, chk_yes (by simp; omega)]
      have : t.1.take i ++ [(s.1, (s.2.1, s.2.2))] = t.1.take (i + 1) := by rw [← hs]; exact take_succ_getD hi
      rw [this]; rfl
    · intro k hk
      simp only []
      rw [decide_eq_true (show (k : Int) < s.2.1.length by omega), decide_eq_true (show (0 : Int) ≤ k by omega)]
      simp only [cond_true, Bool.and_self, chk_yes]
      rw [Int.toNat_natCast, chk_yes (by simp; omega), wrap_ok (n := (k : Int) + 1) (by omega), take_succ_getD hk]
      rfl
    · simp
  · simp
theorem great28_small (t : Tk) (s : Scr) (hR : Rows t) (h : F_law28_great t s = some false) : t.1.length + t.2.length ≤ 2000 ∧ ∀ s ∈ t.1, s.2.1.length ≤ 20000 ∧ s.2.2.length ≤ 20000 := by
  obtain ⟨r1, r2, r3⟩ := hR
  unfold F_law28_great at h
  simp only [] at h
  by_cases h1 : (50 : Int) < t.1.length
  · rw [decide_eq_true h1] at h; cases h
  rw [decide_eq_false h1] at h
  by_cases h2 : (100 : Int) < t.2.length
  · rw [decide_eq_true h2] at h; cases h
  rw [decide_eq_false h2] at h
  by_cases h3 : (120 : Int) < s.2.2.2.2.2.1.length
  · rw [decide_eq_true h3] at h; cases h
  rw [decide_eq_false h3] at h
  by_cases h4 : (120 : Int) < s.2.2.2.2.2.2.length
  · rw [decide_eq_true h4] at h; cases h
  rw [decide_eq_false h4] at h
  by_cases h5 : (500 : Int) < s.1.length
  · rw [decide_eq_true h5] at h; cases h
  rw [decide_eq_false h5] at h
  simp only [cond_false] at h
  rw [loop_find t.1.length (fun i => bif (bif decide ((100 : Int) < (t.1.getD i sg0).2.1.length) then true else decide ((3 : Int) < (t.1.getD i sg0).2.2.length)) then some (.inl true) else none) (.inr ())] at h
  · refine ⟨by omega, fun x hx => ?_⟩
    rcases any_find t.1.length (fun i => bif decide ((100 : Int) < (t.1.getD i sg0).2.1.length) then true else decide ((3 : Int) < (t.1.getD i sg0).2.2.length)) (fun _ => (Sum.inl true : Bool ⊕ Unit)) with ⟨e1, e2⟩ | ⟨i, e1, _⟩
    · obtain ⟨i, hi, rfl⟩ := List.mem_iff_getElem.1 hx
      unfold anyB at e2
      have e3 := List.any_eq_false.1 e2 i (List.mem_range.2 hi)
      rw [getD_lt hi] at e3
      by_cases q1 : (100 : Int) < (t.1[i]).2.1.length
      · rw [decide_eq_true q1] at e3; exact absurd rfl e3
      · rw [decide_eq_false q1] at e3
        by_cases q2 : (3 : Int) < (t.1[i]).2.2.length
        · rw [decide_eq_true q2] at e3; exact absurd rfl e3
        · omega
    · rw [e1] at h; cases h
  · intro i hi
    rw [decide_eq_true (show (i : Int) < t.1.length by omega), decide_eq_true (show (0 : Int) ≤ i by omega), Int.toNat_natCast, wrap_ok (n := (i : Int) + 1) (by omega), sg_def]
    simp only [cond_true, Bool.and_self, chk_yes]
    cases (bif decide ((100 : Int) < (t.1.getD i sg0).2.1.length) then true else decide ((3 : Int) < (t.1.getD i sg0).2.2.length)) <;> rfl
  · simp
theorem bytes_fits {b : List Int} (h : ∀ x ∈ b, fits .u8 x = true) : Bytes b := by
  intro i
  by_cases hi : i < b.length
  · have := h _ (getD_mem (d := (0 : Int)) hi)
    simp only [fits, Bool.and_eq_true, decide_eq_true_eq] at this
    exact this
  · rw [show b.getD i 0 = 0 by simp [List.getD, List.getElem?_eq_none (by omega : b.length ≤ i)]]
    omega
theorem scr_bytes {s : Scr} (h : Fits (.agg (.pair (.slice (.int .i64)) (.pair (.int .i64) (.pair (.int .i64) (.pair (.agg (.pair (.int .i64) (.int .i64))) (.pair (.agg (.pair (.int .i64) (.int .i64))) (.pair (.slice (.agg (.pair (.int .i64) (.pair (.agg (.pair (.int .i64) (.int .i64))) (.pair (.int .i64) (.pair (.int .i64) (.pair (.agg (.pair .bool (.pair .bool (.pair .bool .bool)))) (.pair (.slice (.slice (.int .u8))) .bool)))))))) (.slice (.agg (.pair (.int .i64) (.pair (.int .i64) (.pair (.int .i64) (.int .i64))))))))))))) s) : JBytes s := by
  obtain ⟨⟨a1, a2⟩, a3, a4, ⟨a5, a6⟩, a7, ⟨a8, a9⟩, a10, a11⟩ := h
  intro t ht b hb
  obtain ⟨b1, b2, b3, b4, b5, ⟨b6, b7⟩, b8⟩ := a9 t ht
  exact bytes_fits (b7 b hb).2
theorem f_AdmitChecks (c : Cf) (t : Tk) (s : Scr) (hR : Rows t) (hS : ScrOK s) (hB : JBytes s) : F_law28_AdmitChecks c t s = some true := by
  unfold F_law28_AdmitChecks
  rw [f_anchor28, Option.bind_some]
  obtain ⟨b, e, hb⟩ := f_great28 t s hR hS
  rw [e, Option.bind_some]
  simp only [Bool.not_true, cond_false]
  cases b with
  | true => rfl
  | false =>
    obtain ⟨l1, l2⟩ := hb rfl
    obtain ⟨g1, g2⟩ := great28_small t s hR e
    simp only [Bool.not_false, cond_true, cond_false]
    rw [f_admitCheck c t s hR hS, Option.bind_some, f_refs28 t g1 g2, Option.bind_some, f_ref28 s l2 l1, Option.bind_some, f_rAdmit c t s hR hS hB, Option.bind_some]
    simp
end Go.Proofs.YtgogjcbfnnhaoaaGreat
