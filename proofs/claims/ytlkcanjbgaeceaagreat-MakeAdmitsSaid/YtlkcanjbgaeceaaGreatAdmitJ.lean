/- What the readings of the judge of scripts say: all cycles, reads, junk. -/
import Derived.Test.YtlkcanjbgaeceaaGreatAdmitI
set_option linter.unusedSimpArgs false
set_option linter.unusedVariables false
namespace Go.Proofs.YtlkcanjbgaeceaaGreat
open Go.RowKit
structure OnT (t : Tk) (rt : List Int) : Prop where
  glen : t.2.length ≤ 400
  gord : ∀ a b : Nat, a ≤ b → b < t.2.length → (t.2.getD a gp0).1 ≤ (t.2.getD b gp0).1
  lens : LensOK t
  rlen : rt.length ≤ 400
  rin : ∀ i, i < rt.length → 0 ≤ rt.getD i 0 ∧ rt.getD i 0 < t.1.length
theorem nom_total (t : Tk) (s : Scr) (r : Rd) (h : OnT t s.1) : ∃ y, F_world_Nominal t s r = some y ∧ (y.2 = true → ∃ g : Nat, g < t.2.length ∧ F_track_Track_Find t r.2.2.1 = some ((g : Int), true)) := by
  unfold F_world_Nominal
  obtain ⟨g, e, h1, h2, h3⟩ := f_Find t r.2.2.1 (by have := h.glen; omega) h.gord
  rw [e, Option.bind_some]
  simp only []
  by_cases hf : g < t.2.length ∧ (t.2.getD g gp0).1 = r.2.2.1
  · rw [decide_eq_true hf.1, decide_eq_true hf.2]
    simp only [Bool.and_self, Bool.not_true, cond_false]
    by_cases a1 : r.2.1 < 0
    · rw [decide_eq_true a1]
      simp only [cond_true, cond_false, Bool.not_true, Bool.not_false, Bool.or_true, chk_yes]
      exact ⟨((0, false) : Int × Bool), rfl, fun h => by cases h⟩
    · rw [decide_eq_false a1]
      by_cases a2 : (s.1.length : Int) ≤ r.2.1
      · rw [decide_eq_true a2]
        simp only [cond_true, cond_false, Bool.not_true, Bool.not_false, Bool.or_true, chk_yes]
        exact ⟨((0, false) : Int × Bool), rfl, fun h => by cases h⟩
      · rw [decide_eq_false a2]
        obtain ⟨k, hk⟩ : ∃ k : Nat, r.2.1 = (k : Int) := ⟨r.2.1.toNat, by omega⟩
        have hg := hf.1
        rw [hk, decide_eq_true (show (0 : Int) ≤ k by omega), decide_eq_true (show (k : Int) < s.1.length by omega), decide_eq_true (show (0 : Int) ≤ g by omega), decide_eq_true (show (g : Int) < t.2.length by omega), f_Start t s.1 k (by omega) h.rlen h.lens h.rin]
        simp only [Bool.and_self, Bool.true_or, chk_yes, cond_false, Option.bind_some]
        cases (s.1.getD (k : Int).toNat 0 != (t.2.getD (g : Int).toNat ((0 : Int), ((0 : Int), ((0 : Int), ((0 : Int), (0 : Int)))))).2.1) with
        | true => exact ⟨((0, false) : Int × Bool), rfl, fun h => by cases h⟩
        | false => exact ⟨_, rfl, fun _ => ⟨g, hf.1, rfl⟩⟩
  · have e2 : (decide (g < t.2.length) && decide ((t.2.getD g gp0).1 = r.2.2.1)) = false := by
      rw [Bool.eq_false_iff]
      intro hh
      rw [Bool.and_eq_true, decide_eq_true_eq, decide_eq_true_eq] at hh
      exact hf hh
    rw [e2]
    simp only [cond_true, cond_false, Bool.not_true, Bool.not_false, Bool.or_true, chk_yes]
    exact ⟨((0, false) : Int × Bool), rfl, fun h => by cases h⟩
noncomputable def nomV (t : Tk) (rt : List Int) (r : Rd) : Int × Bool := (F_world_Nominal t (rt, 0, 0, (0, 0), (0, 0), [], []) r).getD (0, false)
noncomputable def grpOf (t : Tk) (id : Int) : Gp := t.2.getD ((F_track_Track_Find t id).getD (0, false)).1.toNat gp0
theorem f_NomV (t : Tk) (s : Scr) (r : Rd) (h : OnT t s.1) : F_world_Nominal t s r = some (nomV t s.1 r) := by
  have e : F_world_Nominal t s r = F_world_Nominal t (s.1, 0, 0, (0, 0), (0, 0), [], []) r := by unfold F_world_Nominal; rfl
  unfold nomV
  obtain ⟨y, hy, _⟩ := nom_total t (s.1, 0, 0, (0, 0), (0, 0), [], []) r h
  rw [e, hy]
  rfl
def withW (x far : Int) : Bool := decide (IntKind.i64.wrap (0 - far) ≤ x) && decide (x ≤ far)
def aheadI (st : Int) (pl : List Int) (k : Int) : Int := if 0 < k then pl.getD (k - 1).toNat 0 else st
noncomputable def readB (t : Tk) (rt : List Int) (an st : Int) (pl : List Int) (r : Rd) (n ahead : Int) : Bool :=
  decide (ahead < r.1) && decide (r.1 < n) && (nomV t rt r).2 &&
    (decide ((if pl.getD r.1.toNat 0 < aheadI st pl r.1 then pl.getD r.1.toNat 0 else aheadI st pl r.1) ≤ r.2.2.2) && decide (r.2.2.2 ≤ (if pl.getD r.1.toNat 0 > aheadI st pl r.1 then pl.getD r.1.toNat 0 else aheadI st pl r.1)) &&
      withW (IntKind.i64.wrap (r.2.2.2 - (nomV t rt r).1)) (IntKind.i64.wrap ((grpOf t r.2.2.1).2.2.2.1 + an)))
def prevC (rd : List Rd) (i : Nat) : Int := if i = 0 then -1 else (rd.getD (i - 1) rd0).1
noncomputable def readK (t : Tk) (rt : List Int) (an st : Int) (pl : List Int) (n : Int) (rd : List Rd) (i : Nat) : Bool := readB t rt an st pl (rd.getD i rd0) n (prevC rd i)
theorem read_gt {t : Tk} {rt : List Int} {an st : Int} {pl : List Int} {n ahead : Int} {r : Rd} (h : readB t rt an st pl r n ahead = true) : ahead < r.1 ∧ r.1 < n := by
  unfold readB at h
  simp only [Bool.and_eq_true, decide_eq_true_eq] at h
  exact h.1.1
end Go.Proofs.YtlkcanjbgaeceaaGreat
