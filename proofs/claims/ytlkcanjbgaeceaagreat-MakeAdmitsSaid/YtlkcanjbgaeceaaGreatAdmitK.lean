/- What the reading of 'Check' of scripts says. -/
import Derived.Test.YtlkcanjbgaeceaaGreatAdmitJ
import Derived.Test.YtlkcanjbgaeceaaGreatLaw13G
set_option linter.unusedSimpArgs false
set_option linter.unusedVariables false
namespace Go.Proofs.YtlkcanjbgaeceaaGreat
open Go.RowKit
noncomputable def getV (b : List Int) : (Int × (Int × Int)) × Int := (F_frame_Get b).getD ((0, 0, 0), 0)
noncomputable def okJ (k : Int) (b : List Int) : Bool := !(bif (getV b).2 == 0 then (getV b).1.2.1 == bits .i64 .and k 255 else false)
noncomputable def junkAt (k : Int) (t : Tick) : Bool := decide (t.2.2.2.2.2.1.length ≤ 27) && (List.range t.2.2.2.2.2.1.length).all fun j => okJ k (t.2.2.2.2.2.1.getD j [])
noncomputable def junkB (tk : List Tick) : Bool := (List.range tk.length).all fun k => junkAt (k : Int) (tk.getD k tk0)
structure ScrOK (s : Scr) : Prop where
  ci : I64 s.2.2.2.1.1 ∧ I64 s.2.2.2.1.2
  tl : s.2.2.2.2.2.1.length ≤ 140737488351232
  rl : s.2.2.2.2.2.2.length ≤ 140737488351232
  jl : ∀ t ∈ s.2.2.2.2.2.1, ∀ b ∈ t.2.2.2.2.2.1, b.length ≤ 140737488351232
theorem ids_le {t : Tk} (h : ∀ i, i < t.2.length → grpB t i (t.2.getD i gp0) = true) : ∀ a b : Nat, a ≤ b → b < t.2.length → (t.2.getD a gp0).1 ≤ (t.2.getD b gp0).1 := by
  intro a b hab hb
  induction b with
  | zero => obtain rfl : a = 0 := by omega
            exact Int.le_refl _
  | succ b ih =>
    by_cases h2 : a = b + 1
    · subst h2; exact Int.le_refl _
    · have := h (b + 1) hb
      unfold grpB at this
      simp only [Bool.and_eq_true, Bool.or_eq_true, decide_eq_true_eq, Nat.add_sub_cancel] at this
      have := ih (by omega) (by omega)
      omega
theorem lens_ok {t : Tk} (h : ∀ i, i < t.1.length → segB t.1.length (t.1.getD i sg0) = true) : LensOK t := by
  intro i hi
  have := h i hi
  unfold segB at this
  simp only [Bool.and_eq_true, decide_eq_true_eq] at this
  exact ⟨this.1.1.1.1, this.1.1.1.2⟩
theorem fits_ok {c : Cf} {t : Tk} (h : (fitsR c t).1 = 0) : wrongC c = 0 ∧ (checkI t).1 = 0 := by
  unfold fitsR at h
  by_cases hw : wrongC c = 0
  · rw [if_neg (by simp [hw])] at h
    by_cases hc : (checkI t).1 = 0
    · exact ⟨hw, hc⟩
    · rw [if_pos hc] at h; exact absurd h (by decide)
  · rw [if_pos hw] at h; exact absurd h (by decide)
theorem on_facts {L st : Int} {tk : List Tick} (h : onB L st tk = true) : tk.length ≤ 4096 ∧ 0 ≤ st ∧ st ≤ L ∧ (∀ i, i ≤ tk.length → 0 ≤ posI st tk i ∧ posI st tk i ≤ L) ∧ ∀ i, i < tk.length → -L ≤ (tk.getD i tk0).1 ∧ (tk.getD i tk0).1 ≤ L := by
  unfold onB at h
  simp only [Bool.and_eq_true, decide_eq_true_eq, List.all_eq_true, List.mem_range] at h
  obtain ⟨⟨⟨h1, h2⟩, h3⟩, h4⟩ := h
  have h5 : ∀ i, i < tk.length → (-L ≤ (tk.getD i tk0).1 ∧ (tk.getD i tk0).1 ≤ L) ∧ 0 ≤ posI st tk (i + 1) ∧ posI st tk (i + 1) ≤ L := by
    intro i hi
    have := h4 i hi
    unfold onAt at this
    simp only [Bool.and_eq_true, decide_eq_true_eq] at this
    exact ⟨with_iff.1 this.1, this.2⟩
  refine ⟨h1, h2, h3, fun i hi => ?_, fun i hi => (h5 i hi).1⟩
  cases i with
  | zero => exact ⟨h2, h3⟩
  | succ i => exact (h5 i (by omega)).2
noncomputable def admitI (c : Cf) (t : Tk) (s : Scr) : Int :=
  bif (fitsR c t).1 != 0 then 1 else bif !routeB t s.1 then 2 else bif !onB (startI t s.1 s.1.length) s.2.1 s.2.2.2.2.2.1 then 3 else bif !speedsB c.2.2.2.2.2.2.1 c.2.2.2.2.2.2.2.1 s.2.2.1 s.2.2.2.2.2.1 then 4 else
  bif !(wheelB c.2.1 c.2.2.1 s.2.2.2.1.1 s.2.2.2.2.1.1 && wheelB c.2.1 c.2.2.1 s.2.2.2.1.2 s.2.2.2.2.1.2) then 5 else bif !numbersB c.2.2.2.2.2.1 s.2.2.2.2.2.1 then 6 else
  bif !(List.range s.2.2.2.2.2.1.length).all (sensK c s.2.2.2.2.2.1 (countsL c.1 s.2.2.2.1.1 s.2.2.2.2.1.1 (fun t => t.2.1.1) s.2.2.2.2.2.1) (countsL c.1 s.2.2.2.1.2 s.2.2.2.2.1.2 (fun t => t.2.1.2) s.2.2.2.2.2.1)) then 7 else
  bif !(List.range s.2.2.2.2.2.2.length).all (readK t s.1 c.2.2.2.2.2.2.2.2.1 s.2.1 (placesL s.2.1 s.2.2.2.2.2.1) s.2.2.2.2.2.1.length s.2.2.2.2.2.2) then 8 else
  bif !junkB s.2.2.2.2.2.1 then 9 else 0
end Go.Proofs.YtlkcanjbgaeceaaGreat
