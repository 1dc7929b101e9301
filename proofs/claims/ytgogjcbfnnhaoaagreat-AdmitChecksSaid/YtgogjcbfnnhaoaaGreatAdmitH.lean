/- What the readings of the judge of scripts say: sensors. -/
import Derived.Test.YtgogjcbfnnhaoaaGreatAdmitG
set_option linter.unusedSimpArgs false
set_option linter.unusedVariables false
namespace Go.Proofs.YtgogjcbfnnhaoaaGreat
open Go.RowKit
theorem say_i64 (n : Int) : I64 (sayI n).1 := by
  unfold sayI
  by_cases h : in64 n = true
  · rw [if_pos h]
    unfold in64 at h
    simp only [Bool.and_eq_true, decide_eq_true_eq] at h
    exact ⟨by simp only; omega, by simp only; omega⟩
  · rw [if_neg h]; exact ⟨by decide, by decide⟩
theorem error_total (c : Cf) (r : Int) (hr : I64 r) (hp : I64 c.2.2.2.2.1) : ∃ y, F_conf_Config_Error c r = some y ∧ I64 y := by
  unfold F_conf_Config_Error
  simp only []
  have h1 : I64 (if IntKind.i64.wrap (0 - r) > r then IntKind.i64.wrap (0 - r) else r) := by
    split
    · exact wrap_i64 _
    · exact hr
  rw [f_Floor _ _ _ h1 hp ⟨by omega, by omega⟩, Option.bind_some]
  exact ⟨_, rfl, wrap_i64 _⟩
theorem ends_i64 (b : Bool) (x y : Int) : ∀ z, endsOf b x y = z → True := fun _ _ => trivial
theorem radar_total (c : Cf) (r : Int) (hr : I64 r) (hp : I64 c.2.2.2.2.1) : ∃ y, F_sense_Radar c r = some y := by
  unfold F_sense_Radar
  obtain ⟨e, he, h1⟩ := error_total c r hr hp
  rw [he, Option.bind_some, f_SAround _ _ hr h1, Option.bind_some]
  exact ⟨_, rfl⟩
theorem tacho_total (d : Int) (s : Int × Int) (p : Int) (h1 : I64 s.1) (h2 : I64 s.2) (hp : I64 p) : ∃ y, F_sense_Tacho d s p = some y := by
  unfold F_sense_Tacho
  simp only []
  cases (bif decide (d < -32768) then true else decide (32767 < d)) with
  | true => exact ⟨_, rfl⟩
  | false =>
    simp only [cond_false]
    rw [f_Times _ _ _ h1 h2 (wrap_i64 _) hp, Option.bind_some, f_Times _ _ _ h1 h2 (wrap_i64 _) hp]
    generalize (if s.2 < s.1 ∨ p < 1 then (((0 : Int), (0 : Int)), (10 : Int)) else _) = a
    generalize (if s.2 < s.1 ∨ p < 1 then (((0 : Int), (0 : Int)), (10 : Int)) else _) = b
    cases (a.2 != 0) with
    | true => exact ⟨_, rfl⟩
    | false =>
      simp only [cond_false, Option.bind_some]
      cases (b.2 != 0) with
      | true => exact ⟨_, rfl⟩
      | false =>
        obtain ⟨h, e, _⟩ := f_Hull a.1 b.1
        rw [e]
        exact ⟨_, rfl⟩
theorem common_total (l : List (Int × Int)) (hl : l.length ≤ 1000) : ∃ y, F_vote_Common l = some y ∧ True := by
  unfold F_vote_Common
  simp only []
  by_cases h0 : l.length = 0
  · have : ((l.length : Int) == 0) = true := by simp [h0]
    rw [this]
    exact ⟨_, rfl, trivial⟩
  have : ((l.length : Int) == 0) = false := beq_false_of_ne (by omega)
  rw [this, decide_eq_true (show (0 : Int) < l.length by omega)]
  simp only [cond_false, Bool.and_self, chk_yes]
  refine bind_inv (fun s => ∃ i : Nat, s.2.2.2.2 = (i : Int) ∧ i ≤ l.length) (fun s => (l.length - s.2.2.2.2).toNat) (fun _ => True) ⟨0, rfl, by omega⟩ ?_ (fun x _ => by cases x <;> exact ⟨_, rfl, trivial⟩)
  rintro ⟨a, b, c, d, _⟩ ⟨i, rfl, h⟩
  by_cases hlt : i < l.length
  · simp only []
    rw [decide_eq_true (show (i : Int) < l.length by omega), decide_eq_true (show (0 : Int) ≤ i by omega), f_Meet]
    simp only [cond_true, Bool.and_self, chk_yes, Option.bind_some]
    split
    · left; exact ⟨_, rfl, trivial⟩
    · right
      rw [wrap_ok (n := (i : Int) + 1) (by omega)]
      exact ⟨_, rfl, ⟨i + 1, by simp, by omega⟩, by simp only; omega⟩
  · left
    simp only []
    rw [decide_eq_false (show ¬ (i : Int) < l.length by omega)]
    exact ⟨_, rfl, trivial⟩
/-- Is a sensor lost? -/
def lostI (i : Nat) (t : Tick) : Bool := List.getD [t.2.2.2.2.1.1, t.2.2.2.2.1.2.1, t.2.2.2.2.1.2.2.1, t.2.2.2.2.1.2.2.2] i false
/-- Is a sensor fit? -/
def fitB (i : Nat) (tk : List Tick) (k : Nat) : Bool := if i = 2 then !lostI 2 (tk.getD k tk0) else (decide (0 < k) && !lostI i (tk.getD k tk0)) && !lostI i (tk.getD (k - 1) tk0)
theorem f_fit (i k : Nat) (cp lo hi rb rp ae ms ma an sl ss ro ti br : Int) (sg : List Sg) (gs : List Gp) (rt : List Int) (st v0 c0 c1 p0 p1 : Int) (tk : List Tick) (rd : List Rd) (pl k0 k1 : List Int) (hi3 : i < 3) (hk : k < tk.length) (hl : tk.length ≤ 4096) : F_admit_judge_fit (i : Int) (k : Int) cp lo hi rb rp ae ms ma an sl ss ro ti br sg gs rt st v0 c0 c1 p0 p1 tk rd pl k0 k1 = some (fitB i tk k, cp, lo, hi, rb, rp, ae, ms, ma, an, sl, ss, ro, ti, br, sg, gs, rt, st, v0, c0, c1, p0, p1, tk, rd, pl, k0, k1) := by
  unfold F_admit_judge_fit fitB lostI
  rw [decide_eq_true (show (0 : Int) ≤ k by omega), decide_eq_true (show (k : Int) < tk.length by omega), decide_eq_true (show (0 : Int) ≤ i by omega), decide_eq_true (show (i : Int) < 4 by omega)]
  simp only [Bool.and_self, chk_yes, Int.toNat_natCast, tk_def]
  by_cases h2 : i = 2
  · subst h2
    rfl
  · have e : ((i : Int) == 2) = false := beq_false_of_ne (by omega)
    rw [e, if_neg h2]
    simp only [cond_false, Bool.true_or, chk_yes]
    by_cases hk0 : k = 0
    · subst hk0
      have e1 : decide ((0 : Int) < ((0 : Nat) : Int)) = false := rfl
      have e2 : decide (0 < 0) = false := rfl
      rw [e1, e2]
      simp only [cond_false, Bool.not_false, Bool.or_true, chk_yes, Bool.false_and]
    · have e1 : decide ((0 : Int) < (k : Int)) = true := by simp; omega
      have e2 : decide (0 < k) = true := by simp; omega
      have et : ((k : Int) - 1).toNat = k - 1 := by omega
      rw [e1, e2, wrap_ok (n := (k : Int) - 1) (by omega), decide_eq_true (show (0 : Int) ≤ (k : Int) - 1 by omega), decide_eq_true (show (k : Int) - 1 < tk.length by omega), et]
      simp only [cond_true, Bool.and_self, Bool.true_or, chk_yes, Bool.true_and]
      cases (List.getD [(tk.getD k tk0).2.2.2.2.1.1, (tk.getD k tk0).2.2.2.2.1.2.1, (tk.getD k tk0).2.2.2.2.1.2.2.1, (tk.getD k tk0).2.2.2.2.1.2.2.2] i false) <;> rfl
/-- The pulses between two counts. -/
def deltaI (a b : Int) : Int := IntKind.i64.wrap (IntKind.i16.wrap (IntKind.u16.wrap (IntKind.u16.wrap b - IntKind.u16.wrap a)))
/-- What a tachometer says. -/
noncomputable def tachoV (lo hi p a b : Int) : Int × Int := ((F_sense_Tacho (deltaI a b) (lo, hi) p).getD ((0, 0), 0)).1
noncomputable def radarV (c : Cf) (t : Tick) : Int × Int := (F_sense_Radar c (IntKind.i64.wrap (t.1 + t.2.2.1))).getD (0, 0)
theorem f_says2 (k : Nat) (cp lo hi rb rp ae ms ma an sl ss ro ti br : Int) (sg : List Sg) (gs : List Gp) (rt : List Int) (st v0 c0 c1 p0 p1 : Int) (tk : List Tick) (rd : List Rd) (pl k0 k1 : List Int) (hk : k < tk.length) (hp : I64 rp) : F_admit_judge_says 2 (k : Int) cp lo hi rb rp ae ms ma an sl ss ro ti br sg gs rt st v0 c0 c1 p0 p1 tk rd pl k0 k1 = some (radarV (cp, lo, hi, rb, rp, ae, ms, ma, an, sl, ss, ro, ti, br) (tk.getD k tk0), cp, lo, hi, rb, rp, ae, ms, ma, an, sl, ss, ro, ti, br, sg, gs, rt, st, v0, c0, c1, p0, p1, tk, rd, pl, k0, k1) := by
  unfold F_admit_judge_says radarV
  rw [decide_eq_true (show (0 : Int) ≤ k by omega), decide_eq_true (show (k : Int) < tk.length by omega)]
  simp only [Bool.and_self, chk_yes, Int.toNat_natCast, tk_def]
  have e : ((2 : Int) == 2) = true := rfl
  rw [e]
  simp only [cond_true]
  obtain ⟨y, hy⟩ := radar_total (cp, lo, hi, rb, rp, ae, ms, ma, an, sl, ss, ro, ti, br) (IntKind.i64.wrap ((tk.getD k tk0).1 + (tk.getD k tk0).2.2.1)) (wrap_i64 _) hp
  rw [hy]
  rfl
theorem f_says0 (k : Nat) (cp lo hi rb rp ae ms ma an sl ss ro ti br : Int) (sg : List Sg) (gs : List Gp) (rt : List Int) (st v0 c0 c1 p0 p1 : Int) (tk : List Tick) (rd : List Rd) (pl k0 k1 : List Int) (hk : 0 < k) (hk2 : k < tk.length) (hl : tk.length ≤ 4096) (h0 : k0.length = tk.length) (hlo : I64 lo) (hhi : I64 hi) (hp : I64 cp) :
    F_admit_judge_says 0 (k : Int) cp lo hi rb rp ae ms ma an sl ss ro ti br sg gs rt st v0 c0 c1 p0 p1 tk rd pl k0 k1 = some (tachoV lo hi cp (k0.getD (k - 1) 0) (k0.getD k 0), cp, lo, hi, rb, rp, ae, ms, ma, an, sl, ss, ro, ti, br, sg, gs, rt, st, v0, c0, c1, p0, p1, tk, rd, pl, k0, k1) := by
  unfold F_admit_judge_says tachoV F_pulse_Delta F_conf_Config_Circ
  have et : ((k : Int) - 1).toNat = k - 1 := by omega
  have e1 : ∀ (a b : List Int), List.getD [a, b] (0 : Int).toNat [] = a := fun _ _ => rfl
  rw [decide_eq_true (show (0 : Int) ≤ k by omega), decide_eq_true (show (k : Int) < tk.length by omega)]
  simp only [Bool.and_self, chk_yes, e1, wrap_ok (n := (k : Int) - 1) (by omega), Int.toNat_natCast, Option.bind_some]
  have e : ((0 : Int) == 2) = false := rfl
  have g : (decide ((0 : Int) ≤ 0) && decide ((0 : Int) < 2)) = true := by decide
  rw [e, g, decide_eq_true (show (0 : Int) ≤ (k : Int) - 1 by omega), decide_eq_true (show (k : Int) - 1 < k0.length by omega), decide_eq_true (show (k : Int) < k0.length by omega), et]
  simp only [cond_false, Bool.and_self, chk_yes]
  obtain ⟨y, hy⟩ := tacho_total (deltaI (k0.getD (k - 1) 0) (k0.getD k 0)) (lo, hi) cp hlo hhi hp
  unfold deltaI at hy ⊢
  rw [hy]
  rfl
theorem f_says1 (k : Nat) (cp lo hi rb rp ae ms ma an sl ss ro ti br : Int) (sg : List Sg) (gs : List Gp) (rt : List Int) (st v0 c0 c1 p0 p1 : Int) (tk : List Tick) (rd : List Rd) (pl k0 k1 : List Int) (hk : 0 < k) (hk2 : k < tk.length) (hl : tk.length ≤ 4096) (h0 : k1.length = tk.length) (hlo : I64 lo) (hhi : I64 hi) (hp : I64 cp) :
    F_admit_judge_says 1 (k : Int) cp lo hi rb rp ae ms ma an sl ss ro ti br sg gs rt st v0 c0 c1 p0 p1 tk rd pl k0 k1 = some (tachoV lo hi cp (k1.getD (k - 1) 0) (k1.getD k 0), cp, lo, hi, rb, rp, ae, ms, ma, an, sl, ss, ro, ti, br, sg, gs, rt, st, v0, c0, c1, p0, p1, tk, rd, pl, k0, k1) := by
  unfold F_admit_judge_says tachoV F_pulse_Delta F_conf_Config_Circ
  have et : ((k : Int) - 1).toNat = k - 1 := by omega
  have e1 : ∀ (a b : List Int), List.getD [a, b] (1 : Int).toNat [] = b := fun _ _ => rfl
  rw [decide_eq_true (show (0 : Int) ≤ k by omega), decide_eq_true (show (k : Int) < tk.length by omega)]
  simp only [Bool.and_self, chk_yes, e1, wrap_ok (n := (k : Int) - 1) (by omega), Int.toNat_natCast, Option.bind_some]
  have e : ((1 : Int) == 2) = false := rfl
  have g : (decide ((0 : Int) ≤ 1) && decide ((1 : Int) < 2)) = true := by decide
  rw [e, g, decide_eq_true (show (0 : Int) ≤ (k : Int) - 1 by omega), decide_eq_true (show (k : Int) - 1 < k1.length by omega), decide_eq_true (show (k : Int) < k1.length by omega), et]
  simp only [cond_false, Bool.and_self, chk_yes]
  obtain ⟨y, hy⟩ := tacho_total (deltaI (k1.getD (k - 1) 0) (k1.getD k 0)) (lo, hi) cp hlo hhi hp
  unfold deltaI at hy ⊢
  rw [hy]
  rfl
/-- Is a sensor wrong? -/
noncomputable def wrongR (c : Cf) (t : Tick) : Bool := !((F_admit_within t.2.2.1 ((F_conf_Config_Error c (IntKind.i64.wrap (t.1 + t.2.2.1))).getD 0)).getD false)
theorem f_wrong2 (k : Nat) (cp lo hi rb rp ae ms ma an sl ss ro ti br : Int) (sg : List Sg) (gs : List Gp) (rt : List Int) (st v0 c0 c1 p0 p1 : Int) (tk : List Tick) (rd : List Rd) (pl k0 k1 : List Int) (hk : k < tk.length) (hp : I64 rp) : F_admit_judge_wrong 2 (k : Int) cp lo hi rb rp ae ms ma an sl ss ro ti br sg gs rt st v0 c0 c1 p0 p1 tk rd pl k0 k1 = some (wrongR (cp, lo, hi, rb, rp, ae, ms, ma, an, sl, ss, ro, ti, br) (tk.getD k tk0), cp, lo, hi, rb, rp, ae, ms, ma, an, sl, ss, ro, ti, br, sg, gs, rt, st, v0, c0, c1, p0, p1, tk, rd, pl, k0, k1) := by
  unfold F_admit_judge_wrong wrongR
  rw [decide_eq_true (show (0 : Int) ≤ k by omega), decide_eq_true (show (k : Int) < tk.length by omega)]
  simp only [Bool.and_self, chk_yes, Int.toNat_natCast, tk_def]
  have e : ((2 : Int) == 2) = true := rfl
  rw [e]
  simp only [cond_true]
  obtain ⟨y, hy, _⟩ := error_total (cp, lo, hi, rb, rp, ae, ms, ma, an, sl, ss, ro, ti, br) (IntKind.i64.wrap ((tk.getD k tk0).1 + (tk.getD k tk0).2.2.1)) (wrap_i64 _) hp
  rw [hy]
  rfl
theorem f_wrong0 (k : Nat) (cp lo hi rb rp ae ms ma an sl ss ro ti br : Int) (sg : List Sg) (gs : List Gp) (rt : List Int) (st v0 c0 c1 p0 p1 : Int) (tk : List Tick) (rd : List Rd) (pl k0 k1 : List Int) (hk : k < tk.length) : F_admit_judge_wrong 0 (k : Int) cp lo hi rb rp ae ms ma an sl ss ro ti br sg gs rt st v0 c0 c1 p0 p1 tk rd pl k0 k1 = some ((tk.getD k tk0).2.1.1 != 0, cp, lo, hi, rb, rp, ae, ms, ma, an, sl, ss, ro, ti, br, sg, gs, rt, st, v0, c0, c1, p0, p1, tk, rd, pl, k0, k1) := by
  unfold F_admit_judge_wrong
  rw [decide_eq_true (show (0 : Int) ≤ k by omega), decide_eq_true (show (k : Int) < tk.length by omega)]
  simp only [Bool.and_self, chk_yes, Int.toNat_natCast, tk_def]
  rfl
theorem f_wrong1 (k : Nat) (cp lo hi rb rp ae ms ma an sl ss ro ti br : Int) (sg : List Sg) (gs : List Gp) (rt : List Int) (st v0 c0 c1 p0 p1 : Int) (tk : List Tick) (rd : List Rd) (pl k0 k1 : List Int) (hk : k < tk.length) : F_admit_judge_wrong 1 (k : Int) cp lo hi rb rp ae ms ma an sl ss ro ti br sg gs rt st v0 c0 c1 p0 p1 tk rd pl k0 k1 = some ((tk.getD k tk0).2.1.2 != 0, cp, lo, hi, rb, rp, ae, ms, ma, an, sl, ss, ro, ti, br, sg, gs, rt, st, v0, c0, c1, p0, p1, tk, rd, pl, k0, k1) := by
  unfold F_admit_judge_wrong
  rw [decide_eq_true (show (0 : Int) ≤ k by omega), decide_eq_true (show (k : Int) < tk.length by omega)]
  simp only [Bool.and_self, chk_yes, Int.toNat_natCast, tk_def]
  rfl
end Go.Proofs.YtgogjcbfnnhaoaaGreat
