/- AdmitTrue: the law. -/
import Derived.Test.YtlkcanjbgaeceaaGreatLaw28H
set_option linter.unusedSimpArgs false
set_option linter.unusedVariables false
namespace Go.Proofs.YtlkcanjbgaeceaaGreat
open Go.RowKit
structure Nums (c : Cf) (s : Scr) : Prop where
  right : wrongC c = 0
  len : s.2.2.2.2.2.1.length ≤ 4096
  v : ∀ i, i < s.2.2.2.2.2.1.length → -16777216 ≤ (s.2.2.2.2.2.1.getD i tk0).1 ∧ (s.2.2.2.2.2.1.getD i tk0).1 ≤ 16777216 ∧ -c.2.2.2.2.2.2.1 ≤ (s.2.2.2.2.2.1.getD i tk0).1 ∧ (s.2.2.2.2.2.1.getD i tk0).1 ≤ c.2.2.2.2.2.2.1
  n : ∀ i, i < s.2.2.2.2.2.1.length → (-1099511627776 ≤ (s.2.2.2.2.2.1.getD i tk0).2.1.1 ∧ (s.2.2.2.2.2.1.getD i tk0).2.1.1 ≤ 1099511627776) ∧ (-1099511627776 ≤ (s.2.2.2.2.2.1.getD i tk0).2.1.2 ∧ (s.2.2.2.2.2.1.getD i tk0).2.1.2 ≤ 1099511627776) ∧ -1073741824 ≤ (s.2.2.2.2.2.1.getD i tk0).2.2.1 ∧ (s.2.2.2.2.2.1.getD i tk0).2.2.1 ≤ 1073741824
  w0 : c.2.1 ≤ s.2.2.2.1.1 ∧ s.2.2.2.1.1 ≤ c.2.2.1 ∧ 0 ≤ s.2.2.2.2.1.1 ∧ s.2.2.2.2.1.1 < s.2.2.2.1.1
  w1 : c.2.1 ≤ s.2.2.2.1.2 ∧ s.2.2.2.1.2 ≤ c.2.2.1 ∧ 0 ≤ s.2.2.2.2.1.2 ∧ s.2.2.2.2.1.2 < s.2.2.2.1.2
theorem nums_of {c : Cf} {s : Scr} (hw : wrongC c = 0) (hl : s.2.2.2.2.2.1.length ≤ 4096) (h1 : speedsB c.2.2.2.2.2.2.1 c.2.2.2.2.2.2.2.1 s.2.2.1 s.2.2.2.2.2.1 = true)
    (h2 : (wheelB c.2.1 c.2.2.1 s.2.2.2.1.1 s.2.2.2.2.1.1 && wheelB c.2.1 c.2.2.1 s.2.2.2.1.2 s.2.2.2.2.1.2) = true) (h3 : numbersB c.2.2.2.2.2.1 s.2.2.2.2.2.1 = true) : Nums c s := by
  obtain ⟨cp, lo, hi, rb, rp, ae, ms, ma, an, sl, ss, ro, ti, br⟩ := c
  have R := right_iff.1 hw
  have hms := R.hms
  refine ⟨hw, hl, fun i hi => ?_, fun i hi => ?_, ?_, ?_⟩
  · unfold speedsB at h1
    rw [Bool.and_eq_true] at h1
    have := List.all_eq_true.1 h1.2 i (List.mem_range.2 hi)
    unfold speedAt at this
    rw [Bool.and_eq_true] at this
    have := with_iff.1 this.1
    simp only at this ⊢
    omega
  · unfold numbersB at h3
    have := List.all_eq_true.1 h3 i (List.mem_range.2 hi)
    unfold numAt at this
    simp only [Bool.and_eq_true, with_iff] at this
    omega
  · unfold wheelB at h2
    simp only [Bool.and_eq_true, decide_eq_true_eq] at h2
    simp only
    omega
  · unfold wheelB at h2
    simp only [Bool.and_eq_true, decide_eq_true_eq] at h2
    simp only
    omega
theorem Nums.calm0 {c : Cf} {s : Scr} (h : Nums c s) : Calm c.1 s.2.2.2.2.1.1 (fun t => t.2.1.1) s.2.2.2.2.2.1 := by
  have hw := h.right
  obtain ⟨cp, lo, hi, rb, rp, ae, ms, ma, an, sl, ss, ro, ti, br⟩ := c
  have R := right_iff.1 hw
  have := R.hhi
  have := h.w0
  exact ⟨R.hp, by simp only at *; omega, fun i hi => ⟨(h.v i hi).1, (h.v i hi).2.1⟩, fun i hi => (h.n i hi).1⟩
theorem Nums.calm1 {c : Cf} {s : Scr} (h : Nums c s) : Calm c.1 s.2.2.2.2.1.2 (fun t => t.2.1.2) s.2.2.2.2.2.1 := by
  have hw := h.right
  obtain ⟨cp, lo, hi, rb, rp, ae, ms, ma, an, sl, ss, ro, ti, br⟩ := c
  have R := right_iff.1 hw
  have := R.hhi
  have := h.w1
  exact ⟨R.hp, by simp only at *; omega, fun i hi => ⟨(h.v i hi).1, (h.v i hi).2.1⟩, fun i hi => (h.n i hi).2.1⟩
theorem Nums.wheel {c : Cf} {s : Scr} (h : Nums c s) : WheelOK (c.2.1, c.2.2.1) c.1 := by
  have hw := h.right
  obtain ⟨cp, lo, hi, rb, rp, ae, ms, ma, an, sl, ss, ro, ti, br⟩ := c
  have R := right_iff.1 hw
  have h1 := R.hp
  have h2 := R.hlo
  have h3 := R.hhi
  exact ⟨by simp only; omega, by simp only; omega, by simp only; omega, h1⟩
theorem f_rWrong2 (c : Cf) (s : Scr) (k : Nat) (h : Nums c s) (hk : k < s.2.2.2.2.2.1.length) :
    F_ref28_Wrong c (refS s) 2 (k : Int) = some (!withB (s.2.2.2.2.2.1.getD k tk0).2.2.1 (errI c.2.2.2.1 c.2.2.2.2.1 ((s.2.2.2.2.2.1.getD k tk0).1 + (s.2.2.2.2.2.1.getD k tk0).2.2.1))) := by
  have hw := h.right
  have hv := h.v k hk
  have hn := h.n k hk
  obtain ⟨cp, lo, hi, rb, rp, ae, ms, ma, an, sl, ss, ro, ti, br⟩ := c
  have R := right_iff.1 hw
  unfold F_ref28_Wrong refS
  simp only [List.length_map]
  rw [decide_eq_true (show (0 : Int) ≤ k by omega), decide_eq_true (show (k : Int) < s.2.2.2.2.2.1.length by omega), Int.toNat_natCast, rt_def, map_d]
  simp only [Bool.and_self, chk_yes]
  generalize s.2.2.2.2.2.1.getD k tk0 = t at *
  have r1 : (refT t).1 = t.1 := rfl
  have r2 : (refT t).2.2.1 = t.2.2.1 := rfl
  have e : ((2 : Int) == 2) = true := rfl
  obtain ⟨_, e1, e2⟩ := err_bound (r := t.1 + t.2.2.1) (by omega) R.hrb R.hrp
  rw [e, r1, r2, wrap_ok (n := t.1 + t.2.2.1) (by omega)]
  simp only [cond_true]
  rw [f_refError _ _ _ _ _ _ _ _ _ _ _ _ _ _ _ (by omega) R.hrb R.hrp, Option.bind_some, f_far28 _ _ (by omega)]
  rfl
theorem f_rSays2 (c : Cf) (s : Scr) (k : Nat) (h : Nums c s) (hk : k < s.2.2.2.2.2.1.length) :
    F_ref28_Says c (refS s) 2 (k : Int) = some ((s.2.2.2.2.2.1.getD k tk0).1 + (s.2.2.2.2.2.1.getD k tk0).2.2.1 - errI c.2.2.2.1 c.2.2.2.2.1 ((s.2.2.2.2.2.1.getD k tk0).1 + (s.2.2.2.2.2.1.getD k tk0).2.2.1),
      (s.2.2.2.2.2.1.getD k tk0).1 + (s.2.2.2.2.2.1.getD k tk0).2.2.1 + errI c.2.2.2.1 c.2.2.2.2.1 ((s.2.2.2.2.2.1.getD k tk0).1 + (s.2.2.2.2.2.1.getD k tk0).2.2.1)) := by
  have hw := h.right
  have hv := h.v k hk
  have hn := h.n k hk
  obtain ⟨cp, lo, hi, rb, rp, ae, ms, ma, an, sl, ss, ro, ti, br⟩ := c
  have R := right_iff.1 hw
  unfold F_ref28_Says refS
  simp only [List.length_map]
  rw [decide_eq_true (show (0 : Int) ≤ k by omega), decide_eq_true (show (k : Int) < s.2.2.2.2.2.1.length by omega), Int.toNat_natCast, rt_def, map_d]
  simp only [Bool.and_self, chk_yes]
  generalize s.2.2.2.2.2.1.getD k tk0 = t at *
  have r1 : (refT t).1 = t.1 := rfl
  have r2 : (refT t).2.2.1 = t.2.2.1 := rfl
  have e : ((2 : Int) == 2) = true := rfl
  obtain ⟨_, e1, e2⟩ := err_bound (r := t.1 + t.2.2.1) (by omega) R.hrb R.hrp
  rw [e, r1, r2, wrap_ok (n := t.1 + t.2.2.1) (by omega)]
  simp only [cond_true]
  unfold F_ref15_Radar
  rw [f_refError _ _ _ _ _ _ _ _ _ _ _ _ _ _ _ (by omega) R.hrb R.hrp, Option.bind_some]
  simp only [Option.bind_some]
  rw [wrap_ok (n := t.1 + t.2.2.1 - errI rb rp (t.1 + t.2.2.1)) (by omega), wrap_ok (n := t.1 + t.2.2.1 + errI rb rp (t.1 + t.2.2.1)) (by omega)]
theorem f_rWrong0 (c : Cf) (s : Scr) (k : Nat) (hk : k < s.2.2.2.2.2.1.length) : F_ref28_Wrong c (refS s) 0 (k : Int) = some ((s.2.2.2.2.2.1.getD k tk0).2.1.1 != 0) := by
  unfold F_ref28_Wrong refS
  simp only [List.length_map]
  rw [decide_eq_true (show (0 : Int) ≤ k by omega), decide_eq_true (show (k : Int) < s.2.2.2.2.2.1.length by omega), Int.toNat_natCast, rt_def, map_d]
  simp only [Bool.and_self, chk_yes]
  rfl
theorem f_rWrong1 (c : Cf) (s : Scr) (k : Nat) (hk : k < s.2.2.2.2.2.1.length) : F_ref28_Wrong c (refS s) 1 (k : Int) = some ((s.2.2.2.2.2.1.getD k tk0).2.1.2 != 0) := by
  unfold F_ref28_Wrong refS
  simp only [List.length_map]
  rw [decide_eq_true (show (0 : Int) ≤ k by omega), decide_eq_true (show (k : Int) < s.2.2.2.2.2.1.length by omega), Int.toNat_natCast, rt_def, map_d]
  simp only [Bool.and_self, chk_yes]
  rfl
end Go.Proofs.YtlkcanjbgaeceaaGreat
