/- AdmitTrue: the law. -/
import Derived.Test.YtgogjcbfnnhaoaaGreatLaw28H
set_option linter.unusedSimpArgs false
set_option linter.unusedVariables false
namespace Go.Proofs.YtgogjcbfnnhaoaaGreat
open Go.RowKit
/-- What an admitted script's numbers are. -/
structure Nums (c : Cf) (s : Scr) : Prop where
  right : wrongC c = 0
  len : s.2.2.2.2.2.1.length ≤ 4096
  v : ∀ i, i < s.2.2.2.2.2.1.length → -16777216 ≤ (s.2.2.2.2.2.1.getD i tk0).1 ∧ (s.2.2.2.2.2.1.getD i tk0).1 ≤ 16777216 ∧ -c.2.2.2.2.2.2.1 ≤ (s.2.2.2.2.2.1.getD i tk0).1 ∧ (s.2.2.2.2.2.1.getD i tk0).1 ≤ c.2.2.2.2.2.2.1
  n : ∀ i, i < s.2.2.2.2.2.1.length → (-1099511627776 ≤ (s.2.2.2.2.2.1.getD i tk0).2.1.1 ∧ (s.2.2.2.2.2.1.getD i tk0).2.1.1 ≤ 1099511627776) ∧ (-1099511627776 ≤ (s.2.2.2.2.2.1.getD i tk0).2.1.2 ∧ (s.2.2.2.2.2.1.getD i tk0).2.1.2 ≤ 1099511627776) ∧ -1073741824 ≤ (s.2.2.2.2.2.1.getD i tk0).2.2.1 ∧ (s.2.2.2.2.2.1.getD i tk0).2.2.1 ≤ 1073741824
  w0 : c.2.1 ≤ s.2.2.2.1.1 ∧ s.2.2.2.1.1 ≤ c.2.2.1 ∧ 0 ≤ s.2.2.2.2.1.1 ∧ s.2.2.2.2.1.1 < s.2.2.2.1.1
  w1 : c.2.1 ≤ s.2.2.2.1.2 ∧ s.2.2.2.1.2 ≤ c.2.2.1 ∧ 0 ≤ s.2.2.2.2.1.2 ∧ s.2.2.2.2.1.2 < s.2.2.2.1.2
theorem nums_of {c : Cf} {s : Scr} (hw : wrongC c = 0) (hl : s.2.2.2.2.2.1.length ≤ 4096) (h1 : speedsB c.2.2.2.2.2.2.1 c.2.2.2.2.2.2.2.1 s.2.2.1 s.2.2.2.2.2.1 = true)
    (h2 : (wheelB c.2.1 c.2.2.1 s.2.2.2.1.1 s.2.2.2.2.1.1 && wheelB c.2.1 c.2.2.1 s.2.2.2.1.2 s.2.2.2.2.1.2) = true) (h3 : numbersB c.2.2.2.2.2.1 s.2.2.2.2.2.1 = true) : Nums c s := by
  obtain ⟨cp, lo, hi, rb, rp, ae, ms, ma, an, sl, ss, ro, ti, br⟩ := c
  have R := right_iff.1 hw
  have hms := R.hms
  refine ⟨hw, hl, fun i hi => ?_, fun i hi => ?_, ?_, ?_⟩
  · unfold speedsB at h1
    rw [Bool.and_eq_true] at h1
    have := List.all_eq_true.1 h1.2 i (List.mem_range.2 hi)
    unfold speedAt at this
    rw [Bool.and_eq_true] at this
    have := with_iff.1 this.1
    simp only at this ⊢
    omega
  · unfold numbersB at h3
    have := List.all_eq_true.1 h3 i (List.mem_range.2 hi)
    unfold numAt at this
    simp only [Bool.and_eq_true, with_iff] at this
    omega
  · unfold wheelB at h2
    simp only [Bool.and_eq_true, decide_eq_true_eq] at h2
    simp only
    omega
  · unfold wheelB at h2
    simp only [Bool.and_eq_true, decide_eq_true_eq] at h2
    simp only
    omega
theorem Nums.calm0 {c : Cf} {s : Scr} (h : Nums c s) : Calm c.1 s.2.2.2.2.1.1 (fun t => t.2.1.1) s.2.2.2.2.2.1 := by
  have hw := h.right
  obtain ⟨cp, lo, hi, rb, rp, ae, ms, ma, an, sl, ss, ro, ti, br⟩ := c
  have R := right_iff.1 hw
  have := R.hhi
  have := h.w0
  exact ⟨R.hp, by simp only at *; omega, fun i hi => ⟨(h.v i hi).1, (h.v i hi).2.1⟩, fun i hi => (h.n i hi).1⟩
theorem Nums.calm1 {c : Cf} {s : Scr} (h : Nums c s) : Calm c.1 s.2.2.2.2.1.2 (fun t => t.2.1.2) s.2.2.2.2.2.1 := by
  have hw := h.right
  obtain ⟨cp, lo, hi, rb, rp, ae, ms, ma, an, sl, ss, ro, ti, br⟩ := c
  have R := right_iff.1 hw
  have := R.hhi
  have := h.w1
  exact ⟨R.hp, by simp only at *; omega, fun i hi => ⟨(h.v i hi).1, (h.v i hi).2.1⟩, fun i hi => (h.n i hi).2.1⟩
theorem Nums.wheel {c : Cf} {s : Scr} (h : Nums c s) : WheelOK (c.2.1, c.2.2.1) c.1 := by
  have hw := h.right
  obtain ⟨cp, lo, hi, rb, rp, ae, ms, ma, an, sl, ss, ro, ti, br⟩ := c
  have R := right_iff.1 hw
  have h1 := R.hp
  have h2 := R.hlo
  have h3 := R.hhi
  exact ⟨by simp only; omega, by simp only; omega, by simp only; omega, h1⟩
theorem f_rWrong2 (c : Cf) (s : Scr) (k : Nat) (h : Nums c s) (hk : k < s.2.2.2.2.2.1.length) :
    F_ref28_Wrong c (refS s) 2 (k : Int) = some (!withB (s.2.2.2.2.2.1.getD k tk0).2.2.1 (errI c.2.2.2.1 c.2.2.2.2.1 ((s.2.2.2.2.2.1.getD k tk0).1 + (s.2.2.2.2.2.1.getD k tk0).2.2.1))) := by
  have hw := h.right
  have hv := h.v k hk
  have hn := h.n k hk
  obtain ⟨cp, lo, hi, rb, rp, ae, ms, ma, an, sl, ss, ro, ti, br⟩ := c
  have R := right_iff.1 hw
  unfold F_ref28_Wrong refS
  simp only [List.length_map]
  rw [decide_eq_true (show (0 : Int) ≤ k by omega), decide_eq_true (show (k : Int) < s.2.2.2.2.2.1.length by omega), Int.toNat_natCast, rt_def, map_d]
  simp only [Bool.and_self, chk_yes]
  generalize s.2.2.2.2.2.1.getD k tk0 = t at *
  have r1 : (refT t).1 = t.1 := rfl
  have r2 : (refT t).2.2.1 = t.2.2.1 := rfl
  have e : ((2 : Int) == 2) = true := rfl
  obtain ⟨_, e1, e2⟩ := err_bound (r := t.1 + t.2.2.1) (by omega) R.hrb R.hrp
  rw [e, r1, r2, wrap_ok (n := t.1 + t.2.2.1) (by omega)]
  simp only [cond_true]
  rw [f_refError _ _ _ _ _ _ _ _ _ _ _ _ _ _ _ (by omega) R.hrb R.hrp, Option.bind_some, f_far28 _ _ (by omega)]
  rfl
theorem f_rSays2 (c : Cf) (s : Scr) (k : Nat) (h : Nums c s) (hk : k < s.2.2.2.2.2.1.length) :
    F_ref28_Says c (refS s) 2 (k : Int) = some ((s.2.2.2.2.2.1.getD k tk0).1 + (s.2.2.2.2.2.1.getD k tk0).2.2.1 - errI c.2.2.2.1 c.2.2.2.2.1 ((s.2.2.2.2.2.1.getD k tk0).1 + (s.2.2.2.2.2.1.getD k tk0).2.2.1),
      (s.2.2.2.2.2.1.getD k tk0).1 + (s.2.2.2.2.2.1.getD k tk0).2.2.1 + errI c.2.2.2.1 c.2.2.2.2.1 ((s.2.2.2.2.2.1.getD k tk0).1 + (s.2.2.2.2.2.1.getD k tk0).2.2.1)) := by
  have hw := h.right
  have hv := h.v k hk
  have hn := h.n k hk
  obtain ⟨cp, lo, hi, rb, rp, ae, ms, ma, an, sl, ss, ro, ti, br⟩ := c
  have R := right_iff.1 hw
  unfold F_ref28_Says refS
  simp only [List.length_map]
  rw [decide_eq_true (show (0 : Int) ≤ k by omega), decide_eq_true (show (k : Int) < s.2.2.2.2.2.1.length by omega), Int.toNat_natCast, rt_def, map_d]
  simp only [Bool.and_self, chk_yes]
  generalize s.2.2.2.2.2.1.getD k tk0 = t at *
  have r1 : (refT t).1 = t.1 := rfl
  have r2 : (refT t).2.2.1 = t.2.2.1 := rfl
  have e : ((2 : Int) == 2) = true := rfl
  obtain ⟨_, e1, e2⟩ := err_bound (r := t.1 + t.2.2.1) (by omega) R.hrb R.hrp
  rw [e, r1, r2, wrap_ok (n := t.1 + t.2.2.1) (by omega)]
  simp only [cond_true]
  unfold F_ref15_Radar
  rw [f_refError _ _ _ _ _ _ _ _ _ _ _ _ _ _ _ (by omega) R.hrb R.hrp, Option.bind_some]
  simp only [Option.bind_some]
  rw [wrap_ok (n := t.1 + t.2.2.1 - errI rb rp (t.1 + t.2.2.1)) (by omega), wrap_ok (n := t.1 + t.2.2.1 + errI rb rp (t.1 + t.2.2.1)) (by omega)]
theorem f_rWrong0 (c : Cf) (s : Scr) (k : Nat) (hk : k < s.2.2.2.2.2.1.length) : F_ref28_Wrong c (refS s) 0 (k : Int) = some ((s.2.2.2.2.2.1.getD k tk0).2.1.1 != 0) := by
  unfold F_ref28_Wrong refS
  simp only [List.length_map]
  rw [decide_eq_true (show (0 : Int) ≤ k by omega), decide_eq_true (show (k : Int) < s.2.2.2.2.2.1.length by omega), Int.toNat_natCast, rt_def, map_d]
  simp only [Bool.and_self, chk_yes]
  rfl
/-- How many pulses a wheel counts in a cycle. -/
def pulses0 (c : Cf) (s : Scr) (k : Nat) : Int := turnE c.1 s.2.2.2.2.1.1 (fun t => t.2.1.1) s.2.2.2.2.2.1 (k + 1) / s.2.2.2.1.1 - turnE c.1 s.2.2.2.2.1.1 (fun t => t.2.1.1) s.2.2.2.2.2.1 k / s.2.2.2.1.1
theorem pulses0_in (c : Cf) (s : Scr) (k : Nat) (h : Nums c s) (hk : k < s.2.2.2.2.2.1.length) (hz : (s.2.2.2.2.2.1.getD k tk0).2.1.1 = 0) :
    (-32001 < pulses0 c s k ∧ pulses0 c s k < 32001) ∧ (tachoI (pulses0 c s k) (c.2.1, c.2.2.1) c.1).1 ≤ (s.2.2.2.2.2.1.getD k tk0).1 ∧ (s.2.2.2.2.2.1.getD k tk0).1 ≤ (tachoI (pulses0 c s k) (c.2.1, c.2.2.1) c.1).2 := by
  have hw := h.right
  have hv := h.v k hk
  have hwl := h.wheel
  have hw0 := h.w0
  obtain ⟨cp, lo, hi, rb, rp, ae, ms, ma, an, sl, ss, ro, ti, br⟩ := c
  have R := right_iff.1 hw
  have hp := R.hp
  have hms := R.hms
  have hlo := R.hlo
  have hfast := R.hfast
  simp only at hv hw0
  have e : turnE cp s.2.2.2.2.1.1 (fun t => t.2.1.1) s.2.2.2.2.2.1 (k + 1) = turnE cp s.2.2.2.2.1.1 (fun t => t.2.1.1) s.2.2.2.2.2.1 k + cp * (s.2.2.2.2.2.1.getD k tk0).1 := by
    simp only [turnE]
    rw [hz]
    omega
  have hn : pulses0 (cp, lo, hi, rb, rp, ae, ms, ma, an, sl, ss, ro, ti, br) s k = (turnE cp s.2.2.2.2.1.1 (fun t => t.2.1.1) s.2.2.2.2.2.1 k + cp * (s.2.2.2.2.2.1.getD k tk0).1) / s.2.2.2.1.1 - turnE cp s.2.2.2.2.1.1 (fun t => t.2.1.1) s.2.2.2.2.2.1 k / s.2.2.2.1.1 := by
    unfold pulses0
    rw [e]
  have ht := turns (by omega) hn
  have hpv : -(32000 * s.2.2.2.1.1) ≤ cp * (s.2.2.2.2.2.1.getD k tk0).1 ∧ cp * (s.2.2.2.2.2.1.getD k tk0).1 ≤ 32000 * s.2.2.2.1.1 := by
    have m1 : cp * (s.2.2.2.2.2.1.getD k tk0).1 ≤ cp * ms := Int.mul_le_mul_of_nonneg_left hv.2.2.2 (by omega)
    have m2 : cp * -ms ≤ cp * (s.2.2.2.2.2.1.getD k tk0).1 := Int.mul_le_mul_of_nonneg_left hv.2.2.1 (by omega)
    rw [Int.mul_neg] at m2
    rw [Int.mul_comm cp ms] at m1 m2
    omega
  refine ⟨turns_small (by omega) ht hpv, tacho_in hwl (by simp only; omega) (by simp only; omega) ht⟩
theorem f_rSays0 (c : Cf) (s : Scr) (k : Nat) (h : Nums c s) (hk : k < s.2.2.2.2.2.1.length) (hz : (s.2.2.2.2.2.1.getD k tk0).2.1.1 = 0) :
    F_ref28_Says c (refS s) 0 (k : Int) = some (tachoI (pulses0 c s k) (c.2.1, c.2.2.1) c.1) := by
  unfold F_ref28_Says
  have e : ((0 : Int) == 2) = false := rfl
  have hl := h.len
  have hw0 := h.w0
  have hc : 0 < s.2.2.2.1.1 := by
    have hw := h.right
    obtain ⟨cp, lo, hi, rb, rp, ae, ms, ma, an, sl, ss, ro, ti, br⟩ := c
    have := (right_iff.1 hw).hlo
    simp only at hw0
    omega
  obtain ⟨b, _⟩ := pulses0_in c s k h hk hz
  rw [e]
  simp only [cond_false]
  have ek : IntKind.i64.wrap ((k : Int) + 1) = ((k + 1 : Nat) : Int) := by rw [wrap_ok (by omega)]; omega
  rw [ek, f_Count0 s c.1 k (by omega) hl h.calm0 hc, Option.bind_some, f_Count0 s c.1 (k + 1) (by omega) hl h.calm0 hc, Option.bind_some, f_delta28 _ _ (by unfold pulses0 at b; omega), Option.bind_some]
  have := f_ref_Tacho (pulses0 c s k) (c.2.1, c.2.2.1) c.1 (by omega) h.wheel
  unfold pulses0 at this ⊢
  rw [this]
  rfl
theorem f_rWrong1 (c : Cf) (s : Scr) (k : Nat) (hk : k < s.2.2.2.2.2.1.length) : F_ref28_Wrong c (refS s) 1 (k : Int) = some ((s.2.2.2.2.2.1.getD k tk0).2.1.2 != 0) := by
  unfold F_ref28_Wrong refS
  simp only [List.length_map]
  rw [decide_eq_true (show (0 : Int) ≤ k by omega), decide_eq_true (show (k : Int) < s.2.2.2.2.2.1.length by omega), Int.toNat_natCast, rt_def, map_d]
  simp only [Bool.and_self, chk_yes]
  rfl
/-- How many pulses a wheel counts in a cycle. -/
def pulses1 (c : Cf) (s : Scr) (k : Nat) : Int := turnE c.1 s.2.2.2.2.1.2 (fun t => t.2.1.2) s.2.2.2.2.2.1 (k + 1) / s.2.2.2.1.2 - turnE c.1 s.2.2.2.2.1.2 (fun t => t.2.1.2) s.2.2.2.2.2.1 k / s.2.2.2.1.2
theorem pulses1_in (c : Cf) (s : Scr) (k : Nat) (h : Nums c s) (hk : k < s.2.2.2.2.2.1.length) (hz : (s.2.2.2.2.2.1.getD k tk0).2.1.2 = 0) :
    (-32001 < pulses1 c s k ∧ pulses1 c s k < 32001) ∧ (tachoI (pulses1 c s k) (c.2.1, c.2.2.1) c.1).1 ≤ (s.2.2.2.2.2.1.getD k tk0).1 ∧ (s.2.2.2.2.2.1.getD k tk0).1 ≤ (tachoI (pulses1 c s k) (c.2.1, c.2.2.1) c.1).2 := by
  have hw := h.right
  have hv := h.v k hk
  have hwl := h.wheel
  have hw0 := h.w1
  obtain ⟨cp, lo, hi, rb, rp, ae, ms, ma, an, sl, ss, ro, ti, br⟩ := c
  have R := right_iff.1 hw
  have hp := R.hp
  have hms := R.hms
  have hlo := R.hlo
  have hfast := R.hfast
  simp only at hv hw0
  have e : turnE cp s.2.2.2.2.1.2 (fun t => t.2.1.2) s.2.2.2.2.2.1 (k + 1) = turnE cp s.2.2.2.2.1.2 (fun t => t.2.1.2) s.2.2.2.2.2.1 k + cp * (s.2.2.2.2.2.1.getD k tk0).1 := by
    simp only [turnE]
    rw [hz]
    omega
  have hn : pulses1 (cp, lo, hi, rb, rp, ae, ms, ma, an, sl, ss, ro, ti, br) s k = (turnE cp s.2.2.2.2.1.2 (fun t => t.2.1.2) s.2.2.2.2.2.1 k + cp * (s.2.2.2.2.2.1.getD k tk0).1) / s.2.2.2.1.2 - turnE cp s.2.2.2.2.1.2 (fun t => t.2.1.2) s.2.2.2.2.2.1 k / s.2.2.2.1.2 := by
    unfold pulses1
    rw [e]
  have ht := turns (by omega) hn
  have hpv : -(32000 * s.2.2.2.1.2) ≤ cp * (s.2.2.2.2.2.1.getD k tk0).1 ∧ cp * (s.2.2.2.2.2.1.getD k tk0).1 ≤ 32000 * s.2.2.2.1.2 := by
    have m1 : cp * (s.2.2.2.2.2.1.getD k tk0).1 ≤ cp * ms := Int.mul_le_mul_of_nonneg_left hv.2.2.2 (by omega)
    have m2 : cp * -ms ≤ cp * (s.2.2.2.2.2.1.getD k tk0).1 := Int.mul_le_mul_of_nonneg_left hv.2.2.1 (by omega)
    rw [Int.mul_neg] at m2
    rw [Int.mul_comm cp ms] at m1 m2
    omega
  refine ⟨turns_small (by omega) ht hpv, tacho_in hwl (by simp only; omega) (by simp only; omega) ht⟩
theorem f_rSays1 (c : Cf) (s : Scr) (k : Nat) (h : Nums c s) (hk : k < s.2.2.2.2.2.1.length) (hz : (s.2.2.2.2.2.1.getD k tk0).2.1.2 = 0) :
    F_ref28_Says c (refS s) 1 (k : Int) = some (tachoI (pulses1 c s k) (c.2.1, c.2.2.1) c.1) := by
  unfold F_ref28_Says
  have e : ((1 : Int) == 2) = false := rfl
  have hl := h.len
  have hw0 := h.w1
  have hc : 0 < s.2.2.2.1.2 := by
    have hw := h.right
    obtain ⟨cp, lo, hi, rb, rp, ae, ms, ma, an, sl, ss, ro, ti, br⟩ := c
    have := (right_iff.1 hw).hlo
    simp only at hw0
    omega
  obtain ⟨b, _⟩ := pulses1_in c s k h hk hz
  rw [e]
  simp only [cond_false]
  have ek : IntKind.i64.wrap ((k : Int) + 1) = ((k + 1 : Nat) : Int) := by rw [wrap_ok (by omega)]; omega
  rw [ek, f_Count1 s c.1 k (by omega) hl h.calm1 hc, Option.bind_some, f_Count1 s c.1 (k + 1) (by omega) hl h.calm1 hc, Option.bind_some, f_delta28 _ _ (by unfold pulses1 at b; omega), Option.bind_some]
  have := f_ref_Tacho (pulses1 c s k) (c.2.1, c.2.2.1) c.1 (by omega) h.wheel
  unfold pulses1 at this ⊢
  rw [this]
  rfl
theorem f_AdmitTrue (c : Cf) (t : Tk) (s : Scr) (hR : Rows t) (hS : ScrOK s) : F_law28_AdmitTrue c t s = some true := by
  unfold F_law28_AdmitTrue
  rw [f_anchor28, Option.bind_some]
  obtain ⟨b, e, hb⟩ := f_great28 t s hR hS
  rw [e, Option.bind_some]
  simp only [Bool.not_true, cond_false]
  cases b with
  | true => rfl
  | false =>
    obtain ⟨l1, l2⟩ := hb rfl
    simp only [Bool.not_false, cond_true, cond_false]
    rw [f_admitCheck c t s hR hS, Option.bind_some]
    by_cases ha : admitI c t s = 0
    · have e0 : (admitI c t s != 0) = false := by simp [ha]
      rw [e0]
      simp only [cond_false]
      have hA := admit_iff.1 ha
      have hN : Nums c s := nums_of (fits_ok hA.fits).1 (by omega) hA.speeds hA.wheels hA.numbers
      rw [f_ref28 s l2 l1, Option.bind_some]
      rw [loop_find s.2.2.2.2.2.1.length (fun _ => none) (.inr ())]
      · rw [find_none.2 (fun _ _ => rfl)]
        rfl
      · intro k hk
        rw [decide_eq_true (show (k : Int) < s.2.2.2.2.2.1.length by omega), decide_eq_true (show (0 : Int) ≤ k by omega), Int.toNat_natCast, tk_def, wrap_ok (n := (k : Int) + 1) (by omega)]
        simp only [cond_true, Bool.and_self, Bool.true_or, chk_yes]
        have q0 : F_ref28_Fit (refS s) 0 (k : Int) = some (fitB 0 s.2.2.2.2.2.1 k) := f_rFit 0 k s (by omega) hk (by omega)
        have q1 : F_ref28_Fit (refS s) 1 (k : Int) = some (fitB 1 s.2.2.2.2.2.1 k) := f_rFit 1 k s (by omega) hk (by omega)
        have q2 : F_ref28_Fit (refS s) 2 (k : Int) = some (fitB 2 s.2.2.2.2.2.1 k) := f_rFit 2 k s (by omega) hk (by omega)
        rw [q0, q1, q2, f_rWrong0 c s k hk, f_rWrong1 c s k hk, f_rWrong2 c s k hN hk, f_rSays2 c s k hN hk]
        have stage : ∀ (f w : Bool) (x : Option (Int × Int)) (v : Int), (f = true → w = false → ∃ y, x = some y ∧ y.1 ≤ v ∧ v ≤ y.2) →
            (Option.bind (some f) fun t37 => Option.bind (bif !(!t37) then some w else some false) fun t44 => bif (bif (!t37) then true else t44) then some (Sum.inl () : Unit ⊕ Bool) else Option.bind x fun t50 =>
              bif (bif decide (v < t50.1) then true else decide (t50.2 < v)) then some (Sum.inr false) else some (Sum.inl ())) = some (Sum.inl ()) := by
          intro f w x v h
          cases f with
          | false => rfl
          | true =>
            cases w with
            | true => rfl
            | false =>
              obtain ⟨y, rfl, h1, h2⟩ := h rfl rfl
              simp only [Option.bind_some, Bool.not_true, Bool.not_false, cond_true, cond_false]
              rw [decide_eq_false (show ¬ v < y.1 by omega), decide_eq_false (show ¬ y.2 < v by omega)]
              rfl
        rw [stage (fitB 0 s.2.2.2.2.2.1 k) _ (F_ref28_Says c (refS s) 0 (k : Int)) (s.2.2.2.2.2.1.getD k tk0).1 (fun _ hw => by
          have hz : (s.2.2.2.2.2.1.getD k tk0).2.1.1 = 0 := by simpa using hw
          exact ⟨_, f_rSays0 c s k hN hk hz, (pulses0_in c s k hN hk hz).2⟩)]
        rw [stage (fitB 1 s.2.2.2.2.2.1 k) _ (F_ref28_Says c (refS s) 1 (k : Int)) (s.2.2.2.2.2.1.getD k tk0).1 (fun _ hw => by
          have hz : (s.2.2.2.2.2.1.getD k tk0).2.1.2 = 0 := by simpa using hw
          exact ⟨_, f_rSays1 c s k hN hk hz, (pulses1_in c s k hN hk hz).2⟩)]
        rw [stage (fitB 2 s.2.2.2.2.2.1 k) _ _ (s.2.2.2.2.2.1.getD k tk0).1 (fun _ hw => by
          have hw : withB (s.2.2.2.2.2.1.getD k tk0).2.2.1 (errI c.2.2.2.1 c.2.2.2.2.1 ((s.2.2.2.2.2.1.getD k tk0).1 + (s.2.2.2.2.2.1.getD k tk0).2.2.1)) = true := by simpa using hw
          have := with_iff.1 hw
          exact ⟨_, rfl, by simp only; omega, by simp only; omega⟩)]
        rfl
      · simp
    · have e0 : (admitI c t s != 0) = true := by simp [ha]
      rw [e0]; rfl
end Go.Proofs.YtgogjcbfnnhaoaaGreat
