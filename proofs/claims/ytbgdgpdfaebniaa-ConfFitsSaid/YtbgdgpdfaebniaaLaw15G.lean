/- The laws of chapter 15 on priors, radars and accelerometers: what their readings say is true. -/
import Derived.Test.YtbgdgpdfaebniaaLaw15F
set_option linter.unusedSimpArgs false
set_option linter.unusedVariables false
namespace Go.Proofs.Ytbgdgpdfaebniaa
open Go.RowKit
def absI (r : Int) : Int := if r < 0 then -r else r
def errI (rb rp r : Int) : Int := rb + absI r * rp / 1048576
theorem err_bound {rb rp r : Int} (hr : -2147483648 ≤ r ∧ r ≤ 2147483647) (hb : 0 ≤ rb ∧ rb ≤ 1048576) (hp : 0 ≤ rp ∧ rp ≤ 65536) : (0 ≤ absI r * rp ∧ absI r * rp ≤ 140737488355328) ∧ 0 ≤ errI rb rp r ∧ errI rb rp r ≤ 135266304 := by
  have ha : 0 ≤ absI r ∧ absI r ≤ 2147483648 := by unfold absI; split <;> omega
  have hm := mul_pq (x := absI r) (y := rp) (X := 2147483648) (Y := 65536) ha.1 ha.2 hp.1 hp.2
  unfold errI
  generalize absI r * rp = q at *
  omega
theorem f_confError (p lo hi rb rp ae ms ma an st ss ro ti br r : Int) (hr : -2147483648 ≤ r ∧ r ≤ 2147483647) (hb : 0 ≤ rb ∧ rb ≤ 1048576) (hp : 0 ≤ rp ∧ rp ≤ 65536) :
    F_conf_Config_Error (p, lo, hi, rb, rp, ae, ms, ma, an, st, ss, ro, ti, br) r = some (errI rb rp r) := by
  obtain ⟨⟨h1, h2⟩, h3, h4⟩ := err_bound hr hb hp
  have e1 : (if IntKind.i64.wrap (0 - r) > r then IntKind.i64.wrap (0 - r) else r) = absI r := by
    rw [wrap_id (by omega)]; unfold absI; split <;> split <;> omega
  have ha : 0 ≤ absI r ∧ absI r ≤ 2147483648 := by unfold absI; split <;> omega
  unfold F_conf_Config_Error
  simp only [e1]
  rw [f_Floor _ _ _ ⟨by omega, by omega⟩ ⟨by omega, by omega⟩ ⟨by omega, by omega⟩, if_neg (by omega), quo_floor (by omega)]
  unfold sayI
  rw [if_pos (in64_yes (by omega)), Option.bind_some]
  unfold errI at h3 h4 ⊢
  rw [wrap_id (by simp only; omega)]
theorem f_refError (p lo hi rb rp ae ms ma an st ss ro ti br r : Int) (hr : -2147483648 ≤ r ∧ r ≤ 2147483647) (hb : 0 ≤ rb ∧ rb ≤ 1048576) (hp : 0 ≤ rp ∧ rp ≤ 65536) :
    F_ref13_Error (p, lo, hi, rb, rp, ae, ms, ma, an, st, ss, ro, ti, br) r = some (errI rb rp r) := by
  obtain ⟨⟨h1, h2⟩, h3, h4⟩ := err_bound hr hb hp
  have e1 : (bif decide (r < 0) then some (IntKind.i64.wrap (0 - r)) else some r) = some (absI r) := by
    rw [wrap_id (by omega)]; unfold absI
    by_cases h : r < 0
    · simp [h]
    · simp [h]
  unfold F_ref13_Error
  simp only [e1, Option.bind_some, wrap_id (n := absI r * rp) (by omega), Int.tdiv_eq_ediv_of_nonneg h1]
  unfold errI at h3 h4 ⊢
  rw [wrap_id (n := absI r * rp / 1048576) (by omega), wrap_id (by omega)]
theorem f_right15 (c : Cf) : F_law15_right c = some (wrongC c == 0) := by
  unfold F_law15_right
  rw [f_Wrong]; rfl
theorem f_SenseRadar (c : Cf) (r v : Int) (hr : -2147483648 ≤ r ∧ r ≤ 2147483647) : F_law15_SenseRadar c r v = some true := by
  unfold F_law15_SenseRadar
  rw [f_anchor15, Option.bind_some, f_right15, Option.bind_some]
  obtain ⟨p, lo, hi, rb, rp, ae, ms, ma, an, st, ss, ro, ti, br⟩ := c
  by_cases hw : wrongC (p, lo, hi, rb, rp, ae, ms, ma, an, st, ss, ro, ti, br) = 0
  · have R := right_iff.1 hw
    obtain ⟨⟨h1, h2⟩, h3, h4⟩ := err_bound hr R.hrb R.hrp
    have e0 : F_sense_Radar (p, lo, hi, rb, rp, ae, ms, ma, an, st, ss, ro, ti, br) r = some (r - errI rb rp r, r + errI rb rp r) := by
      unfold F_sense_Radar
      rw [f_confError _ _ _ _ _ _ _ _ _ _ _ _ _ _ _ hr R.hrb R.hrp, Option.bind_some, f_SAround _ _ ⟨by omega, by omega⟩ ⟨by omega, by omega⟩]
      unfold endsOf
      rw [if_pos ⟨rfl, in64_yes (by omega), in64_yes (by omega), by omega⟩]
      rfl
    have e1 : F_ref15_Radar (p, lo, hi, rb, rp, ae, ms, ma, an, st, ss, ro, ti, br) r = some (r - errI rb rp r, r + errI rb rp r) := by
      unfold F_ref15_Radar
      rw [f_refError _ _ _ _ _ _ _ _ _ _ _ _ _ _ _ hr R.hrb R.hrp, Option.bind_some]
      simp only [wrap_id (n := r - errI rb rp r) (by omega), wrap_id (n := r + errI rb rp r) (by omega)]
    rw [hw, wrap_id (n := r) (by omega), e0, e1]
    simp only [Bool.not_true, cond_false, beq_self_eq_true, Option.bind_some]
    by_cases g1 : v < -1099511627776
    · simp [g1]
    by_cases g2 : 1099511627776 < v
    · simp [g1, g2]
    rw [f_refError _ _ _ _ _ _ _ _ _ _ _ _ _ _ _ hr R.hrb R.hrp]
    simp only [decide_eq_false g1, decide_eq_false g2, cond_false, cond_true, Option.bind_some, beq_self_eq_true, f_Has, wrap_id (n := v - r) (by omega), wrap_id (n := 0 - (v - r)) (by omega)]
    refine congrArg some ?_
    generalize errI rb rp r = e at *
    have hq : ∃ q, (if 0 - (v - r) > v - r then 0 - (v - r) else v - r) = q ∧ v - r ≤ q ∧ r - v ≤ q ∧ (q = v - r ∨ q = r - v) := ⟨_, rfl, by split <;> omega, by split <;> omega, by split <;> omega⟩
    obtain ⟨q, e1, q1, q2, q3⟩ := hq
    rw [e1, beq_iff_eq, Bool.eq_iff_iff, isIn_iff, Bool.not_eq_true', decide_eq_false_iff_not]
    simp only
    omega
  · have : (wrongC (p, lo, hi, rb, rp, ae, ms, ma, an, st, ss, ro, ti, br) == 0) = false := by simpa using hw
    rw [this]; rfl
theorem f_SensePrior (c : Cf) (s : Int × Int) (v : Int) : F_law15_SensePrior c s v = some true := by
  unfold F_law15_SensePrior
  rw [f_anchor15, Option.bind_some, f_right15, Option.bind_some]
  obtain ⟨p, lo, hi, rb, rp, ae, ms, ma, an, st, ss, ro, ti, br⟩ := c
  by_cases hw : wrongC (p, lo, hi, rb, rp, ae, ms, ma, an, st, ss, ro, ti, br) = 0
  · have R := right_iff.1 hw
    have hms := R.hms
    have hma := R.hma
    rw [hw]
    simp only [Bool.not_true, cond_false, beq_self_eq_true, wrap_id (n := 0 - ms) (by omega)]
    by_cases g1 : s.2 < s.1
    · rw [decide_eq_true g1]; rfl
    by_cases g2 : s.1 < 0 - ms
    · rw [decide_eq_false g1, decide_eq_true g2]; rfl
    by_cases g3 : ms < s.2
    · rw [decide_eq_false g1, decide_eq_false g2, decide_eq_true g3]; rfl
    obtain ⟨a, b⟩ := s
    simp only at g1 g2 g3 ⊢
    have hin : ∀ (x : Int), -ms ≤ x → x ≤ ms → I64 x := fun x h1 h2 => ⟨by omega, by omega⟩
    have hL := loC_spec (0 - ms) (a - ma)
    have hU := hiC_spec ms (b + ma)
    have e0 : F_sense_Prior (p, lo, hi, rb, rp, ae, ms, ma, an, st, ss, ro, ti, br) (a, b) = some (loC (0 - ms) (a - ma), hiC ms (b + ma)) := by
      unfold F_sense_Prior F_conf_Config_Speeds
      simp only [wrap_id (n := 0 - ms) (by omega)]
      rw [f_SGrow (a, b) ma (hin a (by omega) (by omega)) (hin b (by omega) (by omega)) ⟨by omega, by omega⟩]
      simp only [decide_eq_true (show a ≤ b by omega)]
      unfold endsOf
      rw [if_pos ⟨rfl, in64_yes (by omega), in64_yes (by omega), by omega⟩]
      simp only [Option.bind_some, f_Meet]
      rw [show loM (a - ma, b + ma) (0 - ms, ms) = loC (0 - ms) (a - ma) from rfl, show hiM (a - ma, b + ma) (0 - ms, ms) = hiC ms (b + ma) from rfl, if_neg (by omega)]
    have e1 : F_ref15_Prior (p, lo, hi, rb, rp, ae, ms, ma, an, st, ss, ro, ti, br) a b = some (loC (0 - ms) (a - ma), hiC ms (b + ma)) := by
      unfold F_ref15_Prior loC hiC
      simp only [wrap_id (n := 0 - ms) (by omega), wrap_id (n := a - ma) (by omega), wrap_id (n := b + ma) (by omega)]
      by_cases k1 : a - ma < 0 - ms <;> by_cases k2 : ms < b + ma <;> simp only [k1, k2, decide_true, decide_false, cond_true, cond_false, Option.bind_some, if_true, if_false]
    rw [decide_eq_false g1, decide_eq_false g2, decide_eq_false g3, e0, e1]
    simp only [cond_false, Option.bind_some, wrap_id (n := a - ma) (by omega), wrap_id (n := b + ma) (by omega), beq_self_eq_true, cond_true, f_Has]
    refine congrArg some ?_
    rw [beq_iff_eq, Bool.eq_iff_iff, isIn_iff]
    simp only [Bool.cond_false_right, Bool.and_eq_true, decide_eq_true_eq]
    try simp only []
    omega
  · have : (wrongC (p, lo, hi, rb, rp, ae, ms, ma, an, st, ss, ro, ti, br) == 0) = false := by simpa using hw
    rw [this]; rfl
theorem f_SenseAccel (c : Cf) (m : Int) (gr s : Int × Int) (v grade wrong : Int) (hm : -2147483648 ≤ m ∧ m ≤ 2147483647) : F_law15_SenseAccel c m gr s v grade wrong = some true := by
  unfold F_law15_SenseAccel
  rw [f_anchor15, Option.bind_some, f_right15, Option.bind_some]
  obtain ⟨p, lo, hi, rb, rp, ae, ms, ma, an, st, ss, ro, ti, br⟩ := c
  by_cases hw : wrongC (p, lo, hi, rb, rp, ae, ms, ma, an, st, ss, ro, ti, br) = 0
  · have R := right_iff.1 hw
    have hae := R.hae
    rw [hw]
    simp only [Bool.not_true, cond_false, beq_self_eq_true, wrap_id (n := m) (by omega)]
    obtain ⟨g, h⟩ := gr
    obtain ⟨a, b⟩ := s
    simp only
    by_cases k1 : h < g
    · rw [decide_eq_true k1]; rfl
    by_cases k2 : g < -1048576
    · rw [decide_eq_false k1, decide_eq_true k2]; rfl
    by_cases k3 : 1048576 < h
    · rw [decide_eq_false k1, decide_eq_false k2, decide_eq_true k3]; rfl
    by_cases k4 : b < a
    · rw [decide_eq_false k1, decide_eq_false k2, decide_eq_false k3, decide_eq_true k4]; rfl
    by_cases k5 : a < -1099511627776
    · rw [decide_eq_false k1, decide_eq_false k2, decide_eq_false k3, decide_eq_false k4, decide_eq_true k5]; rfl
    by_cases k6 : 1099511627776 < b
    · rw [decide_eq_false k1, decide_eq_false k2, decide_eq_false k3, decide_eq_false k4, decide_eq_false k5, decide_eq_true k6]; rfl
    have e0 : F_sense_Accel (p, lo, hi, rb, rp, ae, ms, ma, an, st, ss, ro, ti, br) m (g, h) = some (m - h - ae, m - g + ae) := by
      unfold F_sense_Accel
      rw [f_At, Option.bind_some, f_SSub (m, m) (g, h) ⟨by simp only; omega, by simp only; omega⟩ ⟨by simp only; omega, by simp only; omega⟩ ⟨by simp only; omega, by simp only; omega⟩ ⟨by simp only; omega, by simp only; omega⟩]
      simp only [decide_eq_true (Int.le_refl m), decide_eq_true (show g ≤ h by omega), cond_true]
      unfold endsOf
      rw [if_pos ⟨rfl, in64_yes (by omega), in64_yes (by omega), by omega⟩]
      simp only [Option.bind_some]
      rw [f_SGrow (m - h, m - g) ae ⟨by simp only; omega, by simp only; omega⟩ ⟨by simp only; omega, by simp only; omega⟩ ⟨by omega, by omega⟩]
      simp only [decide_eq_true (show m - h ≤ m - g by omega)]
      unfold endsOf
      rw [if_pos ⟨rfl, in64_yes (by omega), in64_yes (by omega), by omega⟩]
      rfl
    have e1 : F_ref15_Accel (p, lo, hi, rb, rp, ae, ms, ma, an, st, ss, ro, ti, br) m g h = some (m - h - ae, m - g + ae) := by
      unfold F_ref15_Accel
      simp only [wrap_id (n := m - h) (by omega), wrap_id (n := m - h - ae) (by omega), wrap_id (n := m - g) (by omega), wrap_id (n := m - g + ae) (by omega)]
    have e2 : F_sense_From (a, b) (m - h - ae, m - g + ae) = some (a + (m - h - ae), b + (m - g + ae)) := by
      unfold F_sense_From
      rw [f_SAdd (a, b) (m - h - ae, m - g + ae) ⟨by simp only; omega, by simp only; omega⟩ ⟨by simp only; omega, by simp only; omega⟩ ⟨by simp only; omega, by simp only; omega⟩ ⟨by simp only; omega, by simp only; omega⟩]
      simp only [decide_eq_true (show a ≤ b by omega), decide_eq_true (show m - h - ae ≤ m - g + ae by omega), cond_true]
      unfold endsOf
      rw [if_pos ⟨rfl, in64_yes (by omega), in64_yes (by omega), by omega⟩]
      rfl
    rw [decide_eq_false k1, decide_eq_false k2, decide_eq_false k3, decide_eq_false k4, decide_eq_false k5, decide_eq_false k6, e0, e1]
    simp only [cond_false, Option.bind_some, e2, bne_self_eq_false, wrap_id (n := a + (m - h - ae)) (by omega), wrap_id (n := b + (m - g + ae)) (by omega), wrap_id (n := 0 - ae) (by omega)]
    by_cases q1 : grade < g
    · rw [decide_eq_true q1]; rfl
    by_cases q2 : h < grade
    · rw [decide_eq_false q1, decide_eq_true q2]; rfl
    by_cases q3 : wrong < 0 - ae
    · rw [decide_eq_false q1, decide_eq_false q2, decide_eq_true q3]; rfl
    by_cases q4 : ae < wrong
    · rw [decide_eq_false q1, decide_eq_false q2, decide_eq_false q3, decide_eq_true q4]; rfl
    by_cases q5 : v < a
    · rw [decide_eq_false q1, decide_eq_false q2, decide_eq_false q3, decide_eq_false q4, decide_eq_true q5]; rfl
    by_cases q6 : b < v
    · rw [decide_eq_false q1, decide_eq_false q2, decide_eq_false q3, decide_eq_false q4, decide_eq_false q5, decide_eq_true q6]; rfl
    rw [decide_eq_false q1, decide_eq_false q2, decide_eq_false q3, decide_eq_false q4, decide_eq_false q5, decide_eq_false q6]
    simp only [cond_false, wrap_id (n := m - grade) (by omega), wrap_id (n := m - grade - wrong) (by omega), wrap_id (n := v + (m - grade - wrong)) (by omega), f_Has, Option.bind_some]
    exact congrArg some (isIn_iff.2 ⟨by simp only; omega, by simp only; omega⟩)
  · have : (wrongC (p, lo, hi, rb, rp, ae, ms, ma, an, st, ss, ro, ti, br) == 0) = false := by simpa using hw
    rw [this]; rfl
theorem i16_fits {n : Int} (h : Fits (.int .i16) n) : -32768 ≤ n ∧ n ≤ 32767 := by
  have h : fits .i16 n = true := h
  simp [fits] at h
  omega
theorem i32_fits {n : Int} (h : Fits (.int .i32) n) : -2147483648 ≤ n ∧ n ≤ 2147483647 := by
  have h : fits .i32 n = true := h
  simp [fits] at h
  omega
end Go.Proofs.Ytbgdgpdfaebniaa
