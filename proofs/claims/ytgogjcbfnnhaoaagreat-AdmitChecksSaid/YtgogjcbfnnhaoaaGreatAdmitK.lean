/- What the reading of 'Check' of scripts says. -/
import Derived.Test.YtgogjcbfnnhaoaaGreatAdmitJ
import Derived.Test.YtgogjcbfnnhaoaaGreatLaw13G
set_option linter.unusedSimpArgs false
set_option linter.unusedVariables false
namespace Go.Proofs.YtgogjcbfnnhaoaaGreat
open Go.RowKit
noncomputable def getV (b : List Int) : (Int × (Int × Int)) × Int := (F_frame_Get b).getD ((0, 0, 0), 0)
theorem f_GetV (b : List Int) (hb : b.length ≤ 4611686018427387903) : F_frame_Get b = some (getV b) := by
  obtain ⟨y, h, _⟩ := get_total b hb
  unfold getV
  rw [h]; rfl
noncomputable def okJ (k : Int) (b : List Int) : Bool := !(bif (getV b).2 == 0 then (getV b).1.2.1 == bits .i64 .and k 255 else false)
noncomputable def junkAt (k : Int) (t : Tick) : Bool := decide (t.2.2.2.2.2.1.length ≤ 27) && (List.range t.2.2.2.2.2.1.length).all fun j => okJ k (t.2.2.2.2.2.1.getD j [])
noncomputable def junkB (tk : List Tick) : Bool := (List.range tk.length).all fun k => junkAt (k : Int) (tk.getD k tk0)
theorem f_junk (cp lo hi rb rp ae ms ma an sl ss ro ti br : Int) (sg : List Sg) (gs : List Gp) (rt : List Int) (st v0 c0 c1 p0 p1 : Int) (tk : List Tick) (rd : List Rd) (pl k0 k1 : List Int) (hl : tk.length ≤ 4096) (hj : ∀ t ∈ tk, ∀ b ∈ t.2.2.2.2.2.1, b.length ≤ 4611686018427387903) : F_admit_judge_junk cp lo hi rb rp ae ms ma an sl ss ro ti br sg gs rt st v0 c0 c1 p0 p1 tk rd pl k0 k1 = some (junkB tk, cp, lo, hi, rb, rp, ae, ms, ma, an, sl, ss, ro, ti, br, sg, gs, rt, st, v0, c0, c1, p0, p1, tk, rd, pl, k0, k1) := by
  unfold F_admit_judge_junk junkB
  rw [loop_find tk.length (fun k => bif junkAt (k : Int) (tk.getD k tk0) then none else some (.inl false)) (.inr ())]
  · rw [all_find]
    cases ((List.range tk.length).all fun k => junkAt (k : Int) (tk.getD k tk0)) <;> rfl
  · intro i hi
    rw [decide_eq_true (show (i : Int) < tk.length by omega), decide_eq_true (show (0 : Int) ≤ i by omega), Int.toNat_natCast, wrap_ok (n := (i : Int) + 1) (by omega)]
    simp only [cond_true, Bool.and_self, chk_yes, tk_def]
    have hm := hj _ (getD_mem (d := tk0) hi)
    generalize tk.getD i tk0 = t at hm ⊢
    unfold junkAt
    generalize t.2.2.2.2.2.1 = l at hm ⊢
    by_cases h27 : 27 < l.length
    · rw [decide_eq_true (show (27 : Int) < l.length by omega), decide_eq_false (show ¬ l.length ≤ 27 by omega)]
      rfl
    rw [decide_eq_false (show ¬ (27 : Int) < l.length by omega), decide_eq_true (show l.length ≤ 27 by omega)]
    simp only [cond_false, Bool.true_and]
    rw [loop_find l.length (fun j => bif okJ (i : Int) (l.getD j []) then none else some (.inl false)) (.inr ())]
    · rw [all_find]
      cases ((List.range l.length).all fun j => okJ (i : Int) (l.getD j [])) <;> rfl
    · intro j hj'
      rw [decide_eq_true (show (j : Int) < l.length by omega), decide_eq_true (show (0 : Int) ≤ j by omega), Int.toNat_natCast, wrap_ok (n := (j : Int) + 1) (by omega)]
      simp only [cond_true, Bool.and_self, chk_yes]
      rw [f_GetV _ (hm _ (getD_mem (d := []) hj')), Option.bind_some]
      unfold okJ
      cases (getV (l.getD j [])).2 == 0 <;> cases (getV (l.getD j [])).1.2.1 == bits .i64 .and (i : Int) 255 <;> rfl
    · simp
  · simp
/-- How long all rows of a script may be; its numbers. -/
structure ScrOK (s : Scr) : Prop where
  ci : I64 s.2.2.2.1.1 ∧ I64 s.2.2.2.1.2
  tl : s.2.2.2.2.2.1.length ≤ 140737488351232
  rl : s.2.2.2.2.2.2.length ≤ 140737488351232
  jl : ∀ t ∈ s.2.2.2.2.2.1, ∀ b ∈ t.2.2.2.2.2.1, b.length ≤ 140737488351232
theorem ids_le {t : Tk} (h : ∀ i, i < t.2.length → grpB t i (t.2.getD i gp0) = true) : ∀ a b : Nat, a ≤ b → b < t.2.length → (t.2.getD a gp0).1 ≤ (t.2.getD b gp0).1 := by
  intro a b hab hb
  induction b with
  | zero => obtain rfl : a = 0 := by omega
            exact Int.le_refl _
  | succ b ih =>
    by_cases h2 : a = b + 1
    · subst h2; exact Int.le_refl _
    · have := h (b + 1) hb
      unfold grpB at this
      simp only [Bool.and_eq_true, Bool.or_eq_true, decide_eq_true_eq, Nat.add_sub_cancel] at this
      have := ih (by omega) (by omega)
      omega
theorem lens_ok {t : Tk} (h : ∀ i, i < t.1.length → segB t.1.length (t.1.getD i sg0) = true) : LensOK t := by
  intro i hi
  have := h i hi
  unfold segB at this
  simp only [Bool.and_eq_true, decide_eq_true_eq] at this
  exact ⟨this.1.1.1.1, this.1.1.1.2⟩
theorem fits_ok {c : Cf} {t : Tk} (h : (fitsR c t).1 = 0) : wrongC c = 0 ∧ (checkI t).1 = 0 := by
  unfold fitsR at h
  by_cases hw : wrongC c = 0
  · rw [if_neg (by simp [hw])] at h
    by_cases hc : (checkI t).1 = 0
    · exact ⟨hw, hc⟩
    · rw [if_pos hc] at h; exact absurd h (by decide)
  · rw [if_pos hw] at h; exact absurd h (by decide)
theorem on_facts {L st : Int} {tk : List Tick} (h : onB L st tk = true) : tk.length ≤ 4096 ∧ 0 ≤ st ∧ st ≤ L ∧ (∀ i, i ≤ tk.length → 0 ≤ posI st tk i ∧ posI st tk i ≤ L) ∧ ∀ i, i < tk.length → -L ≤ (tk.getD i tk0).1 ∧ (tk.getD i tk0).1 ≤ L := by
  unfold onB at h
  simp only [Bool.and_eq_true, decide_eq_true_eq, List.all_eq_true, List.mem_range] at h
  obtain ⟨⟨⟨h1, h2⟩, h3⟩, h4⟩ := h
  have h5 : ∀ i, i < tk.length → (-L ≤ (tk.getD i tk0).1 ∧ (tk.getD i tk0).1 ≤ L) ∧ 0 ≤ posI st tk (i + 1) ∧ posI st tk (i + 1) ≤ L := by
    intro i hi
    have := h4 i hi
    unfold onAt at this
    simp only [Bool.and_eq_true, decide_eq_true_eq] at this
    exact ⟨with_iff.1 this.1, this.2⟩
  refine ⟨h1, h2, h3, fun i hi => ?_, fun i hi => (h5 i hi).1⟩
  cases i with
  | zero => exact ⟨h2, h3⟩
  | succ i => exact (h5 i (by omega)).2
/-- The first rule that a script breaks. -/
noncomputable def admitI (c : Cf) (t : Tk) (s : Scr) : Int :=
  bif (fitsR c t).1 != 0 then 1 else bif !routeB t s.1 then 2 else bif !onB (startI t s.1 s.1.length) s.2.1 s.2.2.2.2.2.1 then 3 else bif !speedsB c.2.2.2.2.2.2.1 c.2.2.2.2.2.2.2.1 s.2.2.1 s.2.2.2.2.2.1 then 4 else
  bif !(wheelB c.2.1 c.2.2.1 s.2.2.2.1.1 s.2.2.2.2.1.1 && wheelB c.2.1 c.2.2.1 s.2.2.2.1.2 s.2.2.2.2.1.2) then 5 else bif !numbersB c.2.2.2.2.2.1 s.2.2.2.2.2.1 then 6 else
  bif !(List.range s.2.2.2.2.2.1.length).all (sensK c s.2.2.2.2.2.1 (countsL c.1 s.2.2.2.1.1 s.2.2.2.2.1.1 (fun t => t.2.1.1) s.2.2.2.2.2.1) (countsL c.1 s.2.2.2.1.2 s.2.2.2.2.1.2 (fun t => t.2.1.2) s.2.2.2.2.2.1)) then 7 else
  bif !(List.range s.2.2.2.2.2.2.length).all (readK t s.1 c.2.2.2.2.2.2.2.2.1 s.2.1 (placesL s.2.1 s.2.2.2.2.2.1) s.2.2.2.2.2.1.length s.2.2.2.2.2.2) then 8 else
  bif !junkB s.2.2.2.2.2.1 then 9 else 0
theorem f_admitCheck (c : Cf) (t : Tk) (s : Scr) (hR : Rows t) (hS : ScrOK s) : F_admit_Check c t s = some (admitI c t s) := by
  obtain ⟨r1, r2, r3⟩ := hR
  have hs : ∀ s ∈ t.1, s.2.1.length ≤ big ∧ s.2.2.length ≤ big := fun s hs => by have := r3 s hs; unfold big; omega
  have hN : ∀ s ∈ t.1, s.2.2.length ≤ 4611686018427387903 := fun s hs => by have := r3 s hs; omega
  obtain ⟨⟨i1, i2⟩, tl, rl, jl⟩ := hS
  unfold F_admit_Check admitI
  rw [f_Fits c t (fun _ => hs), Option.bind_some]
  by_cases hf : (fitsR c t).1 = 0
  · have e0 : ((fitsR c t).1 != 0) = false := by simp [hf]
    rw [e0]
    obtain ⟨hw, hc⟩ := fits_ok hf
    obtain ⟨k1', k2', k3', k4', k5'⟩ := check_ok' hc
    have hL := lens_ok k4'
    have hgo := ids_le k5'
    clear hf e0
    obtain ⟨cp, lo, hi, rb, rp, ae, ms, ma, an, sl, ss, ro, ti, br⟩ := c
    obtain ⟨sg, gs⟩ := t
    obtain ⟨rt, st, v0, ⟨c0, c1⟩, ⟨p0, p1⟩, tk, rd⟩ := s
    have R := right_iff.1 hw
    simp only at r1 r2 r3 hs hN i1 i2 tl rl jl k1' k2' k3' ⊢
    simp only [cond_false]
    rw [f_route cp lo hi rb rp ae ms ma an sl ss ro ti br sg gs rt st v0 c0 c1 p0 p1 tk rd [] [] [] hN, Option.bind_some]
    cases hr : routeB (sg, gs) rt with
    | false => rfl
    | true =>
      obtain ⟨q1, q2, q3⟩ := route_in hr
      simp only [Bool.not_true, cond_false]
      rw [f_on cp lo hi rb rp ae ms ma an sl ss ro ti br sg gs rt st v0 c0 c1 p0 p1 tk rd [] [] [] (by omega) q2 hL q3, Option.bind_some]
      have hsb := start_bound (t := (sg, gs)) hL q3 rt.length (Nat.le_refl _)
      cases ho : onB (startI (sg, gs) rt rt.length) st tk with
      | false => rfl
      | true =>
        obtain ⟨o1, o2, o3, o4, o5⟩ := on_facts ho
        simp only [Bool.not_true, cond_false]
        rw [f_speeds cp lo hi rb rp ae ms ma an sl ss ro ti br sg gs rt st v0 c0 c1 p0 p1 tk rd [] [] [] (by omega) R.hms R.hma, Option.bind_some]
        cases speedsB ms ma v0 tk with
        | false => rfl
        | true =>
          simp only [Bool.not_true, cond_false]
          rw [f_wheels cp lo hi rb rp ae ms ma an sl ss ro ti br sg gs rt st v0 c0 c1 p0 p1 tk rd [] [] [], Option.bind_some]
          cases (wheelB lo hi c0 p0 && wheelB lo hi c1 p1) with
          | false => rfl
          | true =>
            simp only [Bool.not_true, cond_false]
            rw [f_numbers cp lo hi rb rp ae ms ma an sl ss ro ti br sg gs rt st v0 c0 c1 p0 p1 tk rd [] [] [] (by omega) R.hae, Option.bind_some]
            cases numbersB ae tk with
            | false => rfl
            | true =>
              have hb : startI (sg, gs) rt rt.length ≤ 439804651110400 := by
                have : (rt.length : Int) * 1099511627776 ≤ 400 * 1099511627776 := by omega
                omega
              simp only [Bool.not_true, cond_false]
              rw [f_Places (rt, st, v0, (c0, c1), (p0, p1), tk, rd) o1 (fun i hi => by have := o4 i hi; simp only; omega), Option.bind_some, f_Counts0 (rt, st, v0, (c0, c1), (p0, p1), tk, rd) (cp, lo, hi, rb, rp, ae, ms, ma, an, sl, ss, ro, ti, br) o1 i1, Option.bind_some, f_Counts1 (rt, st, v0, (c0, c1), (p0, p1), tk, rd) (cp, lo, hi, rb, rp, ae, ms, ma, an, sl, ss, ro, ti, br) o1 i2, Option.bind_some]
              simp only []
              have hp := R.hp
              have hlo := R.hlo
              have hhi := R.hhi
              have hrp := R.hrp
              rw [f_all cp lo hi rb rp ae ms ma an sl ss ro ti br sg gs rt st v0 c0 c1 p0 p1 tk rd (placesL st tk) (countsL cp c0 p0 (fun t => t.2.1.1) tk) (countsL cp c1 p1 (fun t => t.2.1.2) tk) o1 (by simp [countsL]) (by simp [countsL]) ⟨by omega, by omega⟩ ⟨by omega, by omega⟩ ⟨by omega, by omega⟩ ⟨by omega, by omega⟩, Option.bind_some]
              cases (List.range tk.length).all (sensK (cp, lo, hi, rb, rp, ae, ms, ma, an, sl, ss, ro, ti, br) tk (countsL cp c0 p0 (fun t => t.2.1.1) tk) (countsL cp c1 p1 (fun t => t.2.1.2) tk)) with
              | false => rfl
              | true =>
                simp only [Bool.not_true, cond_false]
                rw [f_reads cp lo hi rb rp ae ms ma an sl ss ro ti br sg gs rt st v0 c0 c1 p0 p1 tk rd (placesL st tk) (countsL cp c0 p0 (fun t => t.2.1.1) tk) (countsL cp c1 p1 (fun t => t.2.1.2) tk) ⟨k3', hgo, hL, q2, q3⟩ o1 (by simp [placesL]) (by omega), Option.bind_some]
                cases (List.range rd.length).all (readK (sg, gs) rt an st (placesL st tk) tk.length rd) with
                | false => rfl
                | true =>
                  simp only [Bool.not_true, cond_false]
                  rw [f_junk cp lo hi rb rp ae ms ma an sl ss ro ti br sg gs rt st v0 c0 c1 p0 p1 tk rd (placesL st tk) (countsL cp c0 p0 (fun t => t.2.1.1) tk) (countsL cp c1 p1 (fun t => t.2.1.2) tk) o1 (fun t ht b hb => by have := jl t ht b hb; omega), Option.bind_some]
                  cases junkB tk <;> rfl
  · have e0 : ((fitsR c t).1 != 0) = true := by simp [hf]
    rw [e0]
    rfl
end Go.Proofs.YtgogjcbfnnhaoaaGreat
