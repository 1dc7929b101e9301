/- AdmitCut, AdmitFaultless: the laws. -/
import Derived.Test.YtgogjcbfnnhaoaaGreatLaw28F
set_option linter.unusedSimpArgs false
set_option linter.unusedVariables false
namespace Go.Proofs.YtgogjcbfnnhaoaaGreat
open Go.RowKit
def usualC : Cf := (1024, 131072, 131072, 0, 0, 0, 1000, 100, 0, 1, 128, 0, 5, 2)
def track1 : Tk := ([(9, [(0, 0)], [])], [])
theorem rows1 : Rows track1 := ⟨by decide, by decide, by decide⟩
theorem scr_none (rt : List Int) (st v0 c0 c1 p0 p1 : Int) (h0 : I64 c0) (h1 : I64 c1) : ScrOK (rt, st, v0, (c0, c1), (p0, p1), [], []) := ⟨⟨h0, h1⟩, by simp, by simp, by simp⟩
theorem f_anchor28 : F_law28_anchor () = some true := by
  unfold F_law28_anchor F_law28_usual
  simp only [Option.bind_some]
  have e1 := f_admitCheck usualC track1 ([0], 0, 0, (131072, 131072), (0, 0), [], []) rows1 (scr_none _ _ _ _ _ _ _ ⟨by decide, by decide⟩ ⟨by decide, by decide⟩)
  have e2 := f_admitCheck (0, 0, 0, 0, 0, 0, 0, 0, 0, 0, 0, 0, 0, 0) track1 ([0], 0, 0, (131072, 131072), (0, 0), [], []) rows1 (scr_none _ _ _ _ _ _ _ ⟨by decide, by decide⟩ ⟨by decide, by decide⟩)
  have e3 := f_admitCheck usualC track1 ([], 0, 0, (0, 0), (0, 0), [], []) rows1 (scr_none _ _ _ _ _ _ _ ⟨by decide, by decide⟩ ⟨by decide, by decide⟩)
  have a1 : admitI usualC track1 ([0], 0, 0, (131072, 131072), (0, 0), [], []) = 0 := by
    rw [admit_iff]
    refine ⟨by decide, by decide, by decide, by decide, by decide, by decide, fun k hk => absurd hk (by simp), fun k hk => absurd hk (by simp), fun k hk => absurd hk (by simp)⟩
  have a2 : admitI (0, 0, 0, 0, 0, 0, 0, 0, 0, 0, 0, 0, 0, 0) track1 ([0], 0, 0, (131072, 131072), (0, 0), [], []) = 1 := by
    unfold admitI
    have : (fitsR (0, 0, 0, 0, 0, 0, 0, 0, 0, 0, 0, 0, 0, 0) track1).1 = 50 := by decide
    rw [this]
    rfl
  have a3 : admitI usualC track1 ([], 0, 0, (0, 0), (0, 0), [], []) = 2 := by
    unfold admitI
    have h1 : (fitsR usualC track1).1 = 0 := by decide
    have h2 : routeB track1 [] = false := by decide
    rw [h1, h2]
    rfl
  rw [a1] at e1
  rw [a2] at e2
  rw [a3] at e3
  unfold usualC track1 at e1 e3
  unfold track1 at e2
  have t1 : ((0 : Int) == 0) = true := rfl
  have t2 : ((1 : Int) == 1) = true := rfl
  rw [e1, Option.bind_some, e2, t1]
  simp only [cond_true, Option.bind_some]
  rw [t2]
  simp only [cond_true, Option.bind_some]
  rw [e3]
  rfl
/-- Are track and script too great? -/
theorem f_great28 (t : Tk) (s : Scr) (hR : Rows t) (hS : ScrOK s) : ∃ b, F_law28_great t s = some b ∧ (b = false → s.2.2.2.2.2.2.length ≤ 120 ∧ s.2.2.2.2.2.1.length ≤ 120) := by
  obtain ⟨r1, r2, r3⟩ := hR
  obtain ⟨_, tl, rl, jl⟩ := hS
  unfold F_law28_great
  simp only []
  by_cases h1 : (50 : Int) < t.1.length
  · rw [decide_eq_true h1]; exact ⟨true, rfl, fun h => by cases h⟩
  rw [decide_eq_false h1]
  by_cases h2 : (100 : Int) < t.2.length
  · rw [decide_eq_true h2]; exact ⟨true, rfl, fun h => by cases h⟩
  rw [decide_eq_false h2]
  by_cases h3 : (120 : Int) < s.2.2.2.2.2.1.length
  · rw [decide_eq_true h3]; exact ⟨true, rfl, fun h => by cases h⟩
  rw [decide_eq_false h3]
  by_cases h4 : (120 : Int) < s.2.2.2.2.2.2.length
  · rw [decide_eq_true h4]; exact ⟨true, rfl, fun h => by cases h⟩
  rw [decide_eq_false h4]
  suffices hh : ∃ b, F_law28_great t s = some b by
    obtain ⟨b, hb⟩ := hh
    refine ⟨b, ?_, fun _ => ⟨by omega, by omega⟩⟩
    rw [← hb]
    unfold F_law28_great
    simp only []
    rw [decide_eq_false h1, decide_eq_false h2, decide_eq_false h3, decide_eq_false h4]
  unfold F_law28_great
  simp only []
  rw [decide_eq_false h1, decide_eq_false h2, decide_eq_false h3, decide_eq_false h4]
  simp only [cond_false]
  by_cases h5 : (500 : Int) < s.1.length
  · rw [decide_eq_true h5]; exact ⟨true, rfl⟩
  rw [decide_eq_false h5]
  simp only [cond_false]
  rw [loop_find t.1.length (fun i => bif (bif decide ((100 : Int) < (t.1.getD i sg0).2.1.length) then true else decide ((3 : Int) < (t.1.getD i sg0).2.2.length)) then some (.inl true) else none) (.inr ())]
  · rcases any_find t.1.length (fun i => bif decide ((100 : Int) < (t.1.getD i sg0).2.1.length) then true else decide ((3 : Int) < (t.1.getD i sg0).2.2.length)) (fun _ => (Sum.inl true : Bool ⊕ Unit)) with ⟨e1, _⟩ | ⟨i, e1, _⟩
    · rw [e1]
      simp only [Option.getD_none, Option.bind_some]
      generalize s.2.2.2.2.2.1 = tk at *
      have inner : ∀ l : List (List Int), l.length ≤ 140737488351232 → ∃ z : Bool ⊕ Unit, loopO (X := Bool ⊕ Unit) (fun (s_30 : Int) =>
                  (bif (decide (s_30 < (l.length : Int))) then
                    chk none ((decide ((0 : Int) ≤ s_30)) && (decide (s_30 < (l.length : Int)))) <|
                    let t74_31 : (List Int) := (l.getD s_30.toNat [])
                    let t77_32 : Bool := (decide ((200 : Int) < (t74_31.length : Int)))
                    (bif t77_32 then
                      some ((.inr (.inl true)) : Int ⊕ (Bool ⊕ Unit))
                    else
                      let t78_33 : Int := (IntKind.wrap .i64 (s_30 + (1 : Int)))
                      some (.inl t78_33))
                  else
                    some (.inr (.inr ())))) (0 : Int) = some z := by
        intro l hl
        refine ⟨_, loop_find l.length (fun j => bif decide ((200 : Int) < (l.getD j []).length) then some (.inl true) else none) (.inr ()) ?_ (by simp)⟩
        intro j hj
        rw [decide_eq_true (show (j : Int) < l.length by omega), decide_eq_true (show (0 : Int) ≤ j by omega), Int.toNat_natCast]
        simp only [cond_true, Bool.and_self, chk_yes]
        rw [wrap_ok (n := (j : Int) + 1) (by omega)]
        cases decide ((200 : Int) < (l.getD j []).length) <;> rfl
      suffices hx : ∃ y : Bool, _ = some y ∧ True by
        obtain ⟨y, hy, _⟩ := hx
        exact ⟨y, hy⟩
      refine bind_inv (fun s => ∃ i : Nat, s = (i : Int) ∧ i ≤ tk.length) (fun s => (tk.length - s).toNat) (fun _ => True) ⟨0, rfl, by omega⟩ ?_ (fun x _ => by cases x <;> exact ⟨_, rfl, trivial⟩)
      rintro _ ⟨i, rfl, h⟩
      by_cases hlt : i < tk.length
      · rw [decide_eq_true (show (i : Int) < tk.length by omega), decide_eq_true (show (0 : Int) ≤ i by omega), Int.toNat_natCast, wrap_ok (n := (i : Int) + 1) (by omega)]
        simp only [cond_true, Bool.and_self, chk_yes, tk_def]
        by_cases hq : (50 : Int) < (tk.getD i tk0).2.2.2.2.2.1.length
        · rw [decide_eq_true hq]
          left; exact ⟨_, rfl, trivial⟩
        · rw [decide_eq_false hq]
          simp only [cond_false]
          obtain ⟨z, hz⟩ := inner (tk.getD i tk0).2.2.2.2.2.1 (by omega)
          rw [hz, Option.bind_some]
          cases z with
          | inl r => left; exact ⟨_, rfl, trivial⟩
          | inr r => right; exact ⟨_, rfl, ⟨i + 1, by simp, by omega⟩, by omega⟩
      · left
        rw [decide_eq_false (show ¬ (i : Int) < tk.length by omega)]
        exact ⟨_, rfl, trivial⟩
    · rw [e1]; exact ⟨true, rfl⟩
  · intro i hi
    rw [decide_eq_true (show (i : Int) < t.1.length by omega), decide_eq_true (show (0 : Int) ≤ i by omega), Int.toNat_natCast, wrap_ok (n := (i : Int) + 1) (by omega), sg_def]
    simp only [cond_true, Bool.and_self, chk_yes]
    cases (bif decide ((100 : Int) < (t.1.getD i sg0).2.1.length) then true else decide ((3 : Int) < (t.1.getD i sg0).2.2.length)) <;> rfl
  · simp
theorem scr_fits {s : Scr} (h : Fits (.agg (.pair (.slice (.int .i64)) (.pair (.int .i64) (.pair (.int .i64) (.pair (.agg (.pair (.int .i64) (.int .i64))) (.pair (.agg (.pair (.int .i64) (.int .i64))) (.pair (.slice (.agg (.pair (.int .i64) (.pair (.agg (.pair (.int .i64) (.int .i64))) (.pair (.int .i64) (.pair (.int .i64) (.pair (.agg (.pair .bool (.pair .bool (.pair .bool .bool)))) (.pair (.slice (.slice (.int .u8))) .bool)))))))) (.slice (.agg (.pair (.int .i64) (.pair (.int .i64) (.pair (.int .i64) (.int .i64))))))))))))) s) : ScrOK s := by
  obtain ⟨⟨a1, a2⟩, a3, a4, ⟨a5, a6⟩, a7, ⟨a8, a9⟩, a10, a11⟩ := h
  refine ⟨⟨i64_fits a5, i64_fits a6⟩, a8, a10, fun t ht b hb => ?_⟩
  obtain ⟨b1, b2, b3, b4, b5, ⟨b6, b7⟩, b8⟩ := a9 t ht
  exact (b7 b hb).1
theorem filter_take_succ {rd : List Rd} {n : Int} {i : Nat} (hi : i < rd.length) : (bif decide ((rd.getD i rd0).1 < n) then (rd.take i).filter (fun r => decide (r.1 < n)) ++ [rd.getD i rd0] else (rd.take i).filter (fun r => decide (r.1 < n))) = (rd.take (i + 1)).filter (fun r => decide (r.1 < n)) := by
  rw [← take_succ_getD (d := rd0) hi, List.filter_append]
  generalize rd.getD i rd0 = r
  by_cases h : r.1 < n
  · simp [h]
  · simp [h]
theorem filter_len (rd : List Rd) (n : Int) (i : Nat) : ((rd.take i).filter (fun r => decide (r.1 < n))).length ≤ rd.length := by
  have h1 := List.length_filter_le (fun r : Rd => decide (r.1 < n)) (rd.take i)
  have h2 : (rd.take i).length ≤ rd.length := by simp; omega
  omega
end Go.Proofs.YtgogjcbfnnhaoaaGreat
