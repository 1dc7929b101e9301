/- What the readings of the judge of scripts say: sensors. -/
import Derived.Test.YtlkcanjbgaeceaaGreatAdmitG
set_option linter.unusedSimpArgs false
set_option linter.unusedVariables false
namespace Go.Proofs.YtlkcanjbgaeceaaGreat
open Go.RowKit
theorem error_total (c : Cf) (r : Int) (hr : I64 r) (hp : I64 c.2.2.2.2.1) : ∃ y, F_conf_Config_Error c r = some y ∧ I64 y := by
  unfold F_conf_Config_Error
  simp only []
  have h1 : I64 (if IntKind.i64.wrap (0 - r) > r then IntKind.i64.wrap (0 - r) else r) := by
    split
    · exact wrap_i64 _
    · exact hr
  rw [f_Floor _ _ _ h1 hp ⟨by omega, by omega⟩, Option.bind_some]
  exact ⟨_, rfl, wrap_i64 _⟩
theorem radar_total (c : Cf) (r : Int) (hr : I64 r) (hp : I64 c.2.2.2.2.1) : ∃ y, F_sense_Radar c r = some y := by
  unfold F_sense_Radar
  obtain ⟨e, he, h1⟩ := error_total c r hr hp
  rw [he, Option.bind_some, f_SAround _ _ hr h1, Option.bind_some]
  exact ⟨_, rfl⟩
theorem tacho_total (d : Int) (s : Int × Int) (p : Int) (h1 : I64 s.1) (h2 : I64 s.2) (hp : I64 p) : ∃ y, F_sense_Tacho d s p = some y := by
  unfold F_sense_Tacho
  simp only []
  cases (bif decide (d < -32768) then true else decide (32767 < d)) with
  | true => exact ⟨_, rfl⟩
  | false =>
    simp only [cond_false]
    rw [f_Times _ _ _ h1 h2 (wrap_i64 _) hp, Option.bind_some, f_Times _ _ _ h1 h2 (wrap_i64 _) hp]
    generalize (if s.2 < s.1 ∨ p < 1 then (((0 : Int), (0 : Int)), (10 : Int)) else _) = a
    generalize (if s.2 < s.1 ∨ p < 1 then (((0 : Int), (0 : Int)), (10 : Int)) else _) = b
    cases (a.2 != 0) with
    | true => exact ⟨_, rfl⟩
    | false =>
      simp only [cond_false, Option.bind_some]
      cases (b.2 != 0) with
      | true => exact ⟨_, rfl⟩
      | false =>
        obtain ⟨h, e, _⟩ := f_Hull a.1 b.1
        rw [e]
        exact ⟨_, rfl⟩
theorem common_total (l : List (Int × Int)) (hl : l.length ≤ 1000) : ∃ y, F_vote_Common l = some y ∧ True := by
  unfold F_vote_Common
  simp only []
  by_cases h0 : l.length = 0
  · have : ((l.length : Int) == 0) = true := by simp [h0]
    rw [this]
    exact ⟨_, rfl, trivial⟩
  have : ((l.length : Int) == 0) = false := beq_false_of_ne (by omega)
  rw [this, decide_eq_true (show (0 : Int) < l.length by omega)]
  simp only [cond_false, Bool.and_self, chk_yes]
  refine bind_inv (fun s => ∃ i : Nat, s.2.2.2.2 = (i : Int) ∧ i ≤ l.length) (fun s => (l.length - s.2.2.2.2).toNat) (fun _ => True) ⟨0, rfl, by omega⟩ ?_ (fun x _ => by cases x <;> exact ⟨_, rfl, trivial⟩)
  rintro ⟨a, b, c, d, _⟩ ⟨i, rfl, h⟩
  by_cases hlt : i < l.length
  · simp only []
    rw [decide_eq_true (show (i : Int) < l.length by omega), decide_eq_true (show (0 : Int) ≤ i by omega), f_Meet]
    simp only [cond_true, Bool.and_self, chk_yes, Option.bind_some]
    split
    · left; exact ⟨_, rfl, trivial⟩
    · right
      rw [wrap_ok (n := (i : Int) + 1) (by omega)]
      exact ⟨_, rfl, ⟨i + 1, by simp, by omega⟩, by simp only; omega⟩
  · left
    simp only []
    rw [decide_eq_false (show ¬ (i : Int) < l.length by omega)]
    exact ⟨_, rfl, trivial⟩
def lostI (i : Nat) (t : Tick) : Bool := List.getD [t.2.2.2.2.1.1, t.2.2.2.2.1.2.1, t.2.2.2.2.1.2.2.1, t.2.2.2.2.1.2.2.2] i false
def fitB (i : Nat) (tk : List Tick) (k : Nat) : Bool := if i = 2 then !lostI 2 (tk.getD k tk0) else (decide (0 < k) && !lostI i (tk.getD k tk0)) && !lostI i (tk.getD (k - 1) tk0)
def deltaI (a b : Int) : Int := IntKind.i64.wrap (IntKind.i16.wrap (IntKind.u16.wrap (IntKind.u16.wrap b - IntKind.u16.wrap a)))
noncomputable def tachoV (lo hi p a b : Int) : Int × Int := ((F_sense_Tacho (deltaI a b) (lo, hi) p).getD ((0, 0), 0)).1
noncomputable def radarV (c : Cf) (t : Tick) : Int × Int := (F_sense_Radar c (IntKind.i64.wrap (t.1 + t.2.2.1))).getD (0, 0)
noncomputable def wrongR (c : Cf) (t : Tick) : Bool := !((F_admit_within t.2.2.1 ((F_conf_Config_Error c (IntKind.i64.wrap (t.1 + t.2.2.1))).getD 0)).getD false)
end Go.Proofs.YtlkcanjbgaeceaaGreat
