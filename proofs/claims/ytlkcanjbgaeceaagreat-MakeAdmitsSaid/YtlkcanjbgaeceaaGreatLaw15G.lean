/- The laws of chapter 15 on priors, radars and accelerometers: what their readings say is true. -/
import Derived.Test.YtlkcanjbgaeceaaGreatLaw15F
set_option linter.unusedSimpArgs false
set_option linter.unusedVariables false
namespace Go.Proofs.YtlkcanjbgaeceaaGreat
open Go.RowKit
def absI (r : Int) : Int := if r < 0 then -r else r
def errI (rb rp r : Int) : Int := rb + absI r * rp / 1048576
theorem err_bound {rb rp r : Int} (hr : -2147483648 ≤ r ∧ r ≤ 2147483647) (hb : 0 ≤ rb ∧ rb ≤ 1048576) (hp : 0 ≤ rp ∧ rp ≤ 65536) : (0 ≤ absI r * rp ∧ absI r * rp ≤ 140737488355328) ∧ 0 ≤ errI rb rp r ∧ errI rb rp r ≤ 135266304 := by
  have ha : 0 ≤ absI r ∧ absI r ≤ 2147483648 := by unfold absI; split <;> omega
  have hm := mul_pq (x := absI r) (y := rp) (X := 2147483648) (Y := 65536) ha.1 ha.2 hp.1 hp.2
  unfold errI
  generalize absI r * rp = q at *
  omega
theorem f_confError (p lo hi rb rp ae ms ma an st ss ro ti br r : Int) (hr : -2147483648 ≤ r ∧ r ≤ 2147483647) (hb : 0 ≤ rb ∧ rb ≤ 1048576) (hp : 0 ≤ rp ∧ rp ≤ 65536) :
    F_conf_Config_Error (p, lo, hi, rb, rp, ae, ms, ma, an, st, ss, ro, ti, br) r = some (errI rb rp r) := by
  obtain ⟨⟨h1, h2⟩, h3, h4⟩ := err_bound hr hb hp
  have e1 : (if IntKind.i64.wrap (0 - r) > r then IntKind.i64.wrap (0 - r) else r) = absI r := by
    rw [wrap_id (by omega)]; unfold absI; split <;> split <;> omega
  have ha : 0 ≤ absI r ∧ absI r ≤ 2147483648 := by unfold absI; split <;> omega
  unfold F_conf_Config_Error
  simp only [e1]
  rw [f_Floor _ _ _ ⟨by omega, by omega⟩ ⟨by omega, by omega⟩ ⟨by omega, by omega⟩, if_neg (by omega), quo_floor (by omega)]
  unfold sayI
  rw [if_pos (in64_yes (by omega)), Option.bind_some]
  unfold errI at h3 h4 ⊢
  rw [wrap_id (by simp only; omega)]
theorem f_refError (p lo hi rb rp ae ms ma an st ss ro ti br r : Int) (hr : -2147483648 ≤ r ∧ r ≤ 2147483647) (hb : 0 ≤ rb ∧ rb ≤ 1048576) (hp : 0 ≤ rp ∧ rp ≤ 65536) :
    F_ref13_Error (p, lo, hi, rb, rp, ae, ms, ma, an, st, ss, ro, ti, br) r = some (errI rb rp r) := by
  obtain ⟨⟨h1, h2⟩, h3, h4⟩ := err_bound hr hb hp
  have e1 : (bif decide (r < 0) then some (IntKind.i64.wrap (0 - r)) else some r) = some (absI r) := by
    rw [wrap_id (by omega)]; unfold absI
    by_cases h : r < 0
    · simp [h]
    · simp [h]
  unfold F_ref13_Error
  simp only [e1, Option.bind_some, wrap_id (n := absI r * rp) (by omega), Int.tdiv_eq_ediv_of_nonneg h1]
  unfold errI at h3 h4 ⊢
  rw [wrap_id (n := absI r * rp / 1048576) (by omega), wrap_id (by omega)]
end Go.Proofs.YtlkcanjbgaeceaaGreat
