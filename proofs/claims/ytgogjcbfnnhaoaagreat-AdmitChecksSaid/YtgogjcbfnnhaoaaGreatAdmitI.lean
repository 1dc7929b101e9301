/- What the readings of the judge of scripts say: all sensors, reads, junk. -/
import Derived.Test.YtgogjcbfnnhaoaaGreatAdmitH
import Derived.Test.YtgogjcbfnnhaoaaGreatFnsZ2
set_option linter.unusedSimpArgs false
set_option linter.unusedVariables false
namespace Go.Proofs.YtgogjcbfnnhaoaaGreat
open Go.RowKit
noncomputable def commonV (l : List (Int × Int)) : Bool := ((F_vote_Common l).getD ((0, 0), false)).2
theorem f_Common (l : List (Int × Int)) (hl : l.length ≤ 1000) : ∃ s, F_vote_Common l = some (s, commonV l) := by
  obtain ⟨y, h, _⟩ := common_total l hl
  unfold commonV
  rw [h]
  exact ⟨_, rfl⟩
def wrongN (f0 w0 f1 w1 f2 w2 : Bool) : Int := (bif f0 && w0 then 1 else 0) + (bif f1 && w1 then 1 else 0) + (bif f2 && w2 then 1 else 0)
def saidL (f0 f1 f2 : Bool) (s0 s1 s2 : Int × Int) : List (Int × Int) := (bif f0 then [s0] else []) ++ (bif f1 then [s1] else []) ++ (bif f2 then [s2] else [])
/-- Is no more wrong than may be, so that it shows? -/
noncomputable def sensB (f0 w0 f1 w1 f2 w2 : Bool) (s0 s1 s2 : Int × Int) : Bool :=
  bif wrongN f0 w0 f1 w1 f2 w2 == 0 then true else bif (bif wrongN f0 w0 f1 w1 f2 w2 == 1 then ((saidL f0 f1 f2 s0 s1 s2).length : Int) == 3 else false) then !commonV (saidL f0 f1 f2 s0 s1 s2) else false
noncomputable def sensK (c : Cf) (tk : List Tick) (k0 k1 : List Int) (k : Nat) : Bool :=
  sensB (fitB 0 tk k) ((tk.getD k tk0).2.1.1 != 0) (fitB 1 tk k) ((tk.getD k tk0).2.1.2 != 0) (fitB 2 tk k) (wrongR c (tk.getD k tk0))
    (tachoV c.2.1 c.2.2.1 c.1 (k0.getD (k - 1) 0) (k0.getD k 0)) (tachoV c.2.1 c.2.2.1 c.1 (k1.getD (k - 1) 0) (k1.getD k 0)) (radarV c (tk.getD k tk0))
theorem bif_some {α : Type} (w : Bool) (a b : α) : (bif w then some a else some b) = some (bif w then a else b) := by cases w <;> rfl
theorem fit_pos {i : Nat} {tk : List Tick} {k : Nat} (hi : i ≠ 2) (h : fitB i tk k = true) : 0 < k := by
  unfold fitB at h
  rw [if_neg hi] at h
  simp only [Bool.and_eq_true, decide_eq_true_eq] at h
  exact h.1.1
theorem f_sensors (k : Nat) (cp lo hi rb rp ae ms ma an sl ss ro ti br : Int) (sg : List Sg) (gs : List Gp) (rt : List Int) (st v0 c0 c1 p0 p1 : Int) (tk : List Tick) (rd : List Rd) (pl k0 k1 : List Int) (hk : k < tk.length) (hl : tk.length ≤ 4096) (h0 : k0.length = tk.length) (h1 : k1.length = tk.length) (hlo : I64 lo) (hhi : I64 hi) (hcp : I64 cp) (hrp : I64 rp) :
    F_admit_judge_sensors (k : Int) cp lo hi rb rp ae ms ma an sl ss ro ti br sg gs rt st v0 c0 c1 p0 p1 tk rd pl k0 k1 = some (sensK (cp, lo, hi, rb, rp, ae, ms, ma, an, sl, ss, ro, ti, br) tk k0 k1 k, cp, lo, hi, rb, rp, ae, ms, ma, an, sl, ss, ro, ti, br, sg, gs, rt, st, v0, c0, c1, p0, p1, tk, rd, pl, k0, k1) := by
  have e0 : F_admit_judge_fit 0 (k : Int) cp lo hi rb rp ae ms ma an sl ss ro ti br sg gs rt st v0 c0 c1 p0 p1 tk rd pl k0 k1 = some (fitB 0 tk k, cp, lo, hi, rb, rp, ae, ms, ma, an, sl, ss, ro, ti, br, sg, gs, rt, st, v0, c0, c1, p0, p1, tk, rd, pl, k0, k1) := f_fit 0 k cp lo hi rb rp ae ms ma an sl ss ro ti br sg gs rt st v0 c0 c1 p0 p1 tk rd pl k0 k1 (by omega) hk hl
  have e1 : F_admit_judge_fit 1 (k : Int) cp lo hi rb rp ae ms ma an sl ss ro ti br sg gs rt st v0 c0 c1 p0 p1 tk rd pl k0 k1 = some (fitB 1 tk k, cp, lo, hi, rb, rp, ae, ms, ma, an, sl, ss, ro, ti, br, sg, gs, rt, st, v0, c0, c1, p0, p1, tk, rd, pl, k0, k1) := f_fit 1 k cp lo hi rb rp ae ms ma an sl ss ro ti br sg gs rt st v0 c0 c1 p0 p1 tk rd pl k0 k1 (by omega) hk hl
  have e2 : F_admit_judge_fit 2 (k : Int) cp lo hi rb rp ae ms ma an sl ss ro ti br sg gs rt st v0 c0 c1 p0 p1 tk rd pl k0 k1 = some (fitB 2 tk k, cp, lo, hi, rb, rp, ae, ms, ma, an, sl, ss, ro, ti, br, sg, gs, rt, st, v0, c0, c1, p0, p1, tk, rd, pl, k0, k1) := f_fit 2 k cp lo hi rb rp ae ms ma an sl ss ro ti br sg gs rt st v0 c0 c1 p0 p1 tk rd pl k0 k1 (by omega) hk hl
  have g2 := f_says2 k cp lo hi rb rp ae ms ma an sl ss ro ti br sg gs rt st v0 c0 c1 p0 p1 tk rd pl k0 k1 hk hrp
  have v0' := f_wrong0 k cp lo hi rb rp ae ms ma an sl ss ro ti br sg gs rt st v0 c0 c1 p0 p1 tk rd pl k0 k1 hk
  have v1' := f_wrong1 k cp lo hi rb rp ae ms ma an sl ss ro ti br sg gs rt st v0 c0 c1 p0 p1 tk rd pl k0 k1 hk
  have v2' := f_wrong2 k cp lo hi rb rp ae ms ma an sl ss ro ti br sg gs rt st v0 c0 c1 p0 p1 tk rd pl k0 k1 hk hrp
  unfold F_admit_judge_sensors sensK
  simp only []
  generalize hw0 : ((tk.getD k tk0).2.1.1 != 0) = w0 at *
  generalize hw1 : ((tk.getD k tk0).2.1.2 != 0) = w1 at *
  generalize hw2 : wrongR (cp, lo, hi, rb, rp, ae, ms, ma, an, sl, ss, ro, ti, br) (tk.getD k tk0) = w2 at *
  generalize hs2 : radarV (cp, lo, hi, rb, rp, ae, ms, ma, an, sl, ss, ro, ti, br) (tk.getD k tk0) = s2 at *
  generalize hs0 : tachoV lo hi cp (k0.getD (k - 1) 0) (k0.getD k 0) = s0
  generalize hs1 : tachoV lo hi cp (k1.getD (k - 1) 0) (k1.getD k 0) = s1
  rw [e0, Option.bind_some]
  cases hf0 : fitB 0 tk k with
  | false =>
    simp only [Bool.not_false, cond_true, Option.bind_some]
    rw [e1, Option.bind_some]
    cases hf1 : fitB 1 tk k with
    | false =>
      simp only [Bool.not_false, cond_true, Option.bind_some]
      rw [e2, Option.bind_some]
      cases hf2 : fitB 2 tk k with
      | false =>
        simp only [Bool.not_false, cond_true, Option.bind_some]
        clear e0 e1 e2 g2 v0' v1' v2'
        obtain ⟨sp, hc⟩ := f_Common ([] : List (Int × Int)) (by simp)
        have hc2 : saidL false false false s0 s1 s2 = ([] : List (Int × Int)) := rfl
        unfold sensB
        rw [hc2]
        cases w0 <;> cases w1 <;> cases w2 <;> first | rfl | (simp only [cond_true, cond_false, Option.bind_some]; erw [hc]; rfl)
      | true =>
        simp only [Bool.not_true, cond_false]
        rw [g2, Option.bind_some]
        rw [chk_yes (by rfl)]
        simp only []
        rw [v2', Option.bind_some]
        simp only []
        rw [bif_some, Option.bind_some, Option.bind_some]
        simp only []
        clear e0 e1 e2 g2 v0' v1' v2'
        obtain ⟨sp, hc⟩ := f_Common ([s2] : List (Int × Int)) (by simp)
        have hc2 : saidL false false true s0 s1 s2 = ([s2] : List (Int × Int)) := rfl
        unfold sensB
        rw [hc2]
        cases w0 <;> cases w1 <;> cases w2 <;> first | rfl | (simp only [cond_true, cond_false, Option.bind_some]; erw [hc]; rfl)
    | true =>
      simp only [Bool.not_true, cond_false]
      rw [f_says1 k cp lo hi rb rp ae ms ma an sl ss ro ti br sg gs rt st v0 c0 c1 p0 p1 tk rd pl k0 k1 (fit_pos (by decide) hf1) hk hl h1 hlo hhi hcp, hs1, Option.bind_some]
      rw [chk_yes (by rfl)]
      simp only []
      rw [v1', Option.bind_some]
      simp only []
      rw [bif_some, Option.bind_some, Option.bind_some]
      simp only []
      rw [e2, Option.bind_some]
      cases hf2 : fitB 2 tk k with
      | false =>
        simp only [Bool.not_false, cond_true, Option.bind_some]
        clear e0 e1 e2 g2 v0' v1' v2'
        obtain ⟨sp, hc⟩ := f_Common ([s1] : List (Int × Int)) (by simp)
        have hc2 : saidL false true false s0 s1 s2 = ([s1] : List (Int × Int)) := rfl
        unfold sensB
        rw [hc2]
        cases w0 <;> cases w1 <;> cases w2 <;> first | rfl | (simp only [cond_true, cond_false, Option.bind_some]; erw [hc]; rfl)
      | true =>
        simp only [Bool.not_true, cond_false]
        rw [g2, Option.bind_some]
        rw [chk_yes (by rfl)]
        simp only []
        rw [v2', Option.bind_some]
        simp only []
        rw [bif_some, Option.bind_some, Option.bind_some]
        simp only []
        clear e0 e1 e2 g2 v0' v1' v2'
        obtain ⟨sp, hc⟩ := f_Common ([s1, s2] : List (Int × Int)) (by simp)
        have hc2 : saidL false true true s0 s1 s2 = ([s1, s2] : List (Int × Int)) := rfl
        unfold sensB
        rw [hc2]
        cases w0 <;> cases w1 <;> cases w2 <;> first | rfl | (simp only [cond_true, cond_false, Option.bind_some]; erw [hc]; rfl)
  | true =>
    simp only [Bool.not_true, cond_false]
    rw [f_says0 k cp lo hi rb rp ae ms ma an sl ss ro ti br sg gs rt st v0 c0 c1 p0 p1 tk rd pl k0 k1 (fit_pos (by decide) hf0) hk hl h0 hlo hhi hcp, hs0, Option.bind_some]
    rw [chk_yes (by rfl)]
    simp only []
    rw [v0', Option.bind_some]
    simp only []
    rw [bif_some, Option.bind_some, Option.bind_some]
    simp only []
    rw [e1, Option.bind_some]
    cases hf1 : fitB 1 tk k with
    | false =>
      simp only [Bool.not_false, cond_true, Option.bind_some]
      rw [e2, Option.bind_some]
      cases hf2 : fitB 2 tk k with
      | false =>
        simp only [Bool.not_false, cond_true, Option.bind_some]
        clear e0 e1 e2 g2 v0' v1' v2'
        obtain ⟨sp, hc⟩ := f_Common ([s0] : List (Int × Int)) (by simp)
        have hc2 : saidL true false false s0 s1 s2 = ([s0] : List (Int × Int)) := rfl
        unfold sensB
        rw [hc2]
        cases w0 <;> cases w1 <;> cases w2 <;> first | rfl | (simp only [cond_true, cond_false, Option.bind_some]; erw [hc]; rfl)
      | true =>
        simp only [Bool.not_true, cond_false]
        rw [g2, Option.bind_some]
        rw [chk_yes (by rfl)]
        simp only []
        rw [v2', Option.bind_some]
        simp only []
        rw [bif_some, Option.bind_some, Option.bind_some]
        simp only []
        clear e0 e1 e2 g2 v0' v1' v2'
        obtain ⟨sp, hc⟩ := f_Common ([s0, s2] : List (Int × Int)) (by simp)
        have hc2 : saidL true false true s0 s1 s2 = ([s0, s2] : List (Int × Int)) := rfl
        unfold sensB
        rw [hc2]
        cases w0 <;> cases w1 <;> cases w2 <;> first | rfl | (simp only [cond_true, cond_false, Option.bind_some]; erw [hc]; rfl)
    | true =>
      simp only [Bool.not_true, cond_false]
      rw [f_says1 k cp lo hi rb rp ae ms ma an sl ss ro ti br sg gs rt st v0 c0 c1 p0 p1 tk rd pl k0 k1 (fit_pos (by decide) hf1) hk hl h1 hlo hhi hcp, hs1, Option.bind_some]
      rw [chk_yes (by rfl)]
      simp only []
      rw [v1', Option.bind_some]
      simp only []
      rw [bif_some, Option.bind_some, Option.bind_some]
      simp only []
      rw [e2, Option.bind_some]
      cases hf2 : fitB 2 tk k with
      | false =>
        simp only [Bool.not_false, cond_true, Option.bind_some]
        clear e0 e1 e2 g2 v0' v1' v2'
        obtain ⟨sp, hc⟩ := f_Common ([s0, s1] : List (Int × Int)) (by simp)
        have hc2 : saidL true true false s0 s1 s2 = ([s0, s1] : List (Int × Int)) := rfl
        unfold sensB
        rw [hc2]
        cases w0 <;> cases w1 <;> cases w2 <;> first | rfl | (simp only [cond_true, cond_false, Option.bind_some]; erw [hc]; rfl)
      | true =>
        simp only [Bool.not_true, cond_false]
        rw [g2, Option.bind_some]
        rw [chk_yes (by rfl)]
        simp only []
        rw [v2', Option.bind_some]
        simp only []
        rw [bif_some, Option.bind_some, Option.bind_some]
        simp only []
        clear e0 e1 e2 g2 v0' v1' v2'
        obtain ⟨sp, hc⟩ := f_Common ([s0, s1, s2] : List (Int × Int)) (by simp)
        have hc2 : saidL true true true s0 s1 s2 = ([s0, s1, s2] : List (Int × Int)) := rfl
        unfold sensB
        rw [hc2]
        cases w0 <;> cases w1 <;> cases w2 <;> first | rfl | (simp only [cond_true, cond_false, Option.bind_some]; erw [hc]; rfl)
end Go.Proofs.YtgogjcbfnnhaoaaGreat
