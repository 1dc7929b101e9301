/- The grades of tracks: what their readings say. -/
import Derived.Test.YtckghclpdfbigaaLaw11G
set_option linter.unusedSimpArgs false
set_option linter.unusedVariables false
namespace Go.Proofs.Ytckghclpdfbigaa
open Go.RowKit
theorem bind_inv {S X Y : Type} {f : S → Option (S ⊕ X)} {k : X → Option Y} {P : Y → Prop} {s : S} (I : S → Prop) (μ : S → Nat) (Q : X → Prop) (hI : I s)
    (h : ∀ s, I s → (∃ x, f s = some (.inr x) ∧ Q x) ∨ (∃ s', f s = some (.inl s') ∧ I s' ∧ μ s' < μ s)) (hk : ∀ x, Q x → ∃ y, k x = some y ∧ P y) : ∃ y, Option.bind (loopO f s) k = some y ∧ P y := by
  obtain ⟨x, h1, h2⟩ := loopO_inv I μ Q h s hI
  rw [h1]
  exact hk x h2
/-- The grade of a piece of a segment. -/
def gr (t : Tk) (i k : Nat) : Int := ((t.1.getD i sg0).2.1.getD k pc0).2
def has (t : Tk) (i k : Nat) : Prop := i < t.1.length ∧ k < (t.1.getD i sg0).2.1.length
/-- These are the least and the greatest grade of all before some piece, and of the first one. -/
def MM (t : Tk) (i k : Nat) (lo hi : Int) : Prop :=
  (∀ j m, has t j m → (j < i ∨ j = i ∧ m < k) → lo ≤ gr t j m ∧ gr t j m ≤ hi) ∧ lo ≤ hi ∧ (∃ j m, has t j m ∧ gr t j m = lo) ∧ ∃ j m, has t j m ∧ gr t j m = hi
theorem MM.unique {t : Tk} {a b c d : Int} (h : MM t t.1.length 0 a b) (k : MM t t.1.length 0 c d) : a = c ∧ b = d := by
  obtain ⟨h1, _, ⟨j1, m1, p1, p2⟩, j2, m2, q1, q2⟩ := h
  obtain ⟨k1, _, ⟨i1, n1, r1, r2⟩, i2, n2, s1, s2⟩ := k
  have a1 := k1 j1 m1 p1 (.inl p1.1)
  have a2 := k1 j2 m2 q1 (.inl q1.1)
  have a3 := h1 i1 n1 r1 (.inl r1.1)
  have a4 := h1 i2 n2 s1 (.inl s1.1)
  omega
theorem MM.next {t : Tk} {i k : Nat} {a b : Int} (h : MM t i k a b) (hk : (t.1.getD i sg0).2.1.length ≤ k) : MM t (i + 1) 0 a b := by
  obtain ⟨h1, h2⟩ := h
  refine ⟨fun j m hj hm => h1 j m hj ?_, h2⟩
  rcases Nat.lt_or_ge j i with hji | hji
  · exact .inl hji
  · have : j = i := by omega
    subst this
    have := hj.2
    exact .inr ⟨rfl, by omega⟩
theorem MM.more {t : Tk} {i k : Nat} {a b : Int} (h : MM t i k a b) (hk : has t i k) : MM t i (k + 1) (if gr t i k < a then gr t i k else a) (if b < gr t i k then gr t i k else b) := by
  obtain ⟨h1, h2, ⟨j1, m1, p1, p2⟩, j2, m2, q1, q2⟩ := h
  refine ⟨fun j m hj hm => ?_, by split <;> split <;> omega, ?_, ?_⟩
  · by_cases hc : j = i ∧ m = k
    · obtain ⟨rfl, rfl⟩ := hc; split <;> split <;> omega
    · have := h1 j m hj (by omega)
      split <;> split <;> omega
  · split
    · exact ⟨i, k, hk, rfl⟩
    · exact ⟨j1, m1, p1, p2⟩
  · split
    · exact ⟨i, k, hk, rfl⟩
    · exact ⟨j2, m2, q1, q2⟩
theorem MM.zero {t : Tk} (h : has t 0 0) : MM t 0 0 (gr t 0 0) (gr t 0 0) := ⟨fun j m _ hm => by omega, Int.le_refl _, ⟨0, 0, h, rfl⟩, 0, 0, h, rfl⟩
theorem MM.seg {t : Tk} {i : Nat} {a b c d : Int} {x y : Int} (h : MM t i 0 a b) (hi : i < t.1.length) (hB : Bnd (t.1.getD i sg0).2.1 x y (t.1.getD i sg0).2.1.length c d)
    (hall : ∀ j, j < (t.1.getD i sg0).2.1.length → reachI (t.1.getD i sg0).2.1 x y j) : MM t (i + 1) 0 (if c < a then c else a) (if d > b then d else b) := by
  obtain ⟨h1, h2, ⟨j1, m1, p1, p2⟩, j2, m2, q1, q2⟩ := h
  obtain ⟨b1, ⟨u, u1, u2, u3⟩, v, v1, v2, v3⟩ := hB
  refine ⟨fun j m hj hm => ?_, by have := b1 u u1 u2; split <;> split <;> omega, ?_, ?_⟩
  · by_cases hc : j = i
    · subst hc
      have := b1 m hj.2 (hall m hj.2)
      have e : gr t j m = ((t.1.getD j sg0).2.1.getD m pc0).2 := rfl
      split <;> split <;> omega
    · have := h1 j m hj (by omega)
      split <;> split <;> omega
  · split
    · exact ⟨i, u, ⟨hi, u1⟩, u3⟩
    · exact ⟨j1, m1, p1, p2⟩
  · split
    · exact ⟨i, v, ⟨hi, v1⟩, v3⟩
    · exact ⟨j2, m2, q1, q2⟩
theorem f_Hull2 (a b c d : Int) (h : a ≤ b) (h' : c ≤ d) : F_span_Span_Hull (a, b) (c, d) = some (if c < a then c else a, if d > b then d else b) := by
  unfold F_span_Span_Hull F_span_Span_Right
  simp only [Option.bind_some, decide_eq_true h, decide_eq_true h', Bool.not_true, cond_false]
theorem seg_grade {n : Nat} {s : Sg} (h : segB n s = true) : 1 ≤ s.1 ∧ gradeB s.2.1 s.1 = true := by
  unfold segB at h
  simp only [Bool.and_eq_true, decide_eq_true_eq] at h
  exact ⟨h.1.1.1.1, h.1.1.2⟩
theorem all_reach {l : List Pc} {len : Int} (h : gradeB l len = true) : ∀ j, j < l.length → reachI l 0 len j := by
  obtain ⟨h1, h2, h3, h4, h5⟩ := grade_ok h
  intro j hj
  refine ⟨.inr (by have := h4 j hj; omega), ?_⟩
  by_cases hc : l.length ≤ j + 1
  · exact .inl hc
  · have := h5 0 (j + 1) (by omega) (by omega); exact .inr (by omega)
theorem sg_def (t : Tk) : ∀ i, t.1.getD i ((0 : Int), ([], [])) = t.1.getD i sg0 := fun _ => rfl
theorem f_Grades (t : Tk) (hc : (checkI t).1 = 0) : ∃ y, F_track_Track_Grades t = some y ∧ MM t t.1.length 0 y.1 y.2 := by
  obtain ⟨k1, k2, k3, k4, k5⟩ := check_ok hc
  unfold F_track_Track_Grades
  have h0 := seg_grade (k4 0 (by omega))
  obtain ⟨g1, _⟩ := grade_ok h0.2
  rw [decide_eq_true (show (0 : Int) < t.1.length by omega)]
  simp only [Bool.and_self, chk_yes]
  have hz : (0 : Int).toNat = 0 := rfl
  rw [hz, sg_def, decide_eq_true (show (0 : Int) < (t.1.getD 0 sg0).2.1.length by omega)]
  simp only [Bool.and_self, chk_yes]
  unfold F_span_At
  rw [Option.bind_some]
  simp only []
  have hg0 : ((t.1.getD 0 sg0).2.1.getD 0 ((0 : Int), (0 : Int))).2 = gr t 0 0 := rfl
  rw [hg0]
  have hh : has t 0 0 := ⟨by omega, by omega⟩
  refine bind_inv (fun s => ∃ i : Nat, s.2.1 = (i : Int) ∧ i ≤ t.1.length ∧ MM t i 0 s.2.2 s.1) (fun s => (t.1.length - s.2.1).toNat) (fun x => MM t t.1.length 0 x.2 x.1) ⟨0, rfl, by omega, MM.zero hh⟩ ?_ (fun x hx => ⟨_, rfl, hx⟩)
  rintro ⟨b, _, a⟩ ⟨i, rfl, h1, h2⟩
  simp only at h2
  by_cases hlt : i < t.1.length
  · right
    simp only []
    rw [decide_eq_true (show (i : Int) < t.1.length by omega), decide_eq_true (show (0 : Int) ≤ i by omega), Int.toNat_natCast, wrap_ok (n := (i : Int) + 1) (by omega), sg_def]
    simp only [Bool.and_self, chk_yes, cond_true]
    have hs := seg_grade (k4 i hlt)
    obtain ⟨l1, l2, _⟩ := grade_ok hs.2
    obtain ⟨c, d, f, e, q1, q2⟩ := f_Bounds (t.1.getD i sg0).2.1 (0, (t.1.getD i sg0).1) (by omega)
    rw [e, Option.bind_some]
    have hall := all_reach hs.2
    cases f with
    | false => exact absurd (hall 0 (by omega)) ((q2 rfl).2.2 (by simp only; omega) 0 (by omega))
    | true =>
      have hB := (q1 rfl).2
      have hcd : c ≤ d := by obtain ⟨b1, ⟨u, u1, u2, u3⟩, _⟩ := hB; have := b1 u u1 u2; omega
      rw [f_Hull2 a b c d h2.2.1 hcd, Option.bind_some]
      exact ⟨_, rfl, ⟨i + 1, by simp, by omega, h2.seg hlt hB hall⟩, by simp only; omega⟩
  · left
    have : i = t.1.length := by omega
    subst this
    simp only [decide_eq_false (Int.lt_irrefl (t.1.length : Int)), cond_false]
    exact ⟨_, rfl, h2⟩
theorem f_GradesR (t : Tk) (hc : (checkI t).1 = 0) : ∃ y, F_ref11_Grades t = some y ∧ MM t t.1.length 0 y.1 y.2 := by
  obtain ⟨k1, k2, k3, k4, k5⟩ := check_ok hc
  unfold F_ref11_Grades
  have h0 := seg_grade (k4 0 (by omega))
  obtain ⟨g1, _⟩ := grade_ok h0.2
  rw [decide_eq_true (show (0 : Int) < t.1.length by omega)]
  simp only [Bool.and_self, chk_yes]
  have hz : (0 : Int).toNat = 0 := rfl
  rw [hz, sg_def, decide_eq_true (show (0 : Int) < (t.1.getD 0 sg0).2.1.length by omega)]
  simp only [Bool.and_self, chk_yes]
  have hg0 : ((t.1.getD 0 sg0).2.1.getD 0 ((0 : Int), (0 : Int))).2 = gr t 0 0 := rfl
  rw [hg0]
  have hh : has t 0 0 := ⟨by omega, by omega⟩
  refine bind_inv (fun s => ∃ i : Nat, s.2.2 = (i : Int) ∧ i ≤ t.1.length ∧ MM t i 0 s.2.1 s.1) (fun s => (t.1.length - s.2.2).toNat) (fun x => MM t t.1.length 0 x.2 x.1) ⟨0, rfl, by omega, MM.zero hh⟩ ?_ (fun x hx => ⟨_, rfl, hx⟩)
  rintro ⟨b, a, _⟩ ⟨i, rfl, h1, h2⟩
  simp only at h2
  by_cases hlt : i < t.1.length
  · right
    simp only []
    rw [decide_eq_true (show (i : Int) < t.1.length by omega), decide_eq_true (show (0 : Int) ≤ i by omega), Int.toNat_natCast, wrap_ok (n := (i : Int) + 1) (by omega), sg_def]
    simp only [Bool.and_self, chk_yes, cond_true]
    have hs := seg_grade (k4 i hlt)
    obtain ⟨l1, l2, _⟩ := grade_ok hs.2
    suffices hx : ∃ y : ((Int × (Int × Int)) ⊕ (Int × Int)), _ = some y ∧ (∃ s', y = Sum.inl s' ∧ MM t (i + 1) 0 s'.2.1 s'.1 ∧ s'.2.2 = (i : Int) + 1) by
      obtain ⟨y, e, s', rfl, hm, he⟩ := hx
      exact ⟨s', e, ⟨i + 1, by rw [he]; simp, by omega, hm⟩, by rw [he]; omega⟩
    refine bind_inv (fun s => ∃ k : Nat, s.2.1 = (k : Int) ∧ k ≤ (t.1.getD i sg0).2.1.length ∧ MM t i k s.2.2 s.1) (fun s => ((t.1.getD i sg0).2.1.length - s.2.1).toNat) (fun x => MM t (i + 1) 0 x.2 x.1) ⟨0, rfl, by omega, h2⟩ ?_ (fun x hx => ⟨_, rfl, _, rfl, hx, rfl⟩)
    rintro ⟨b, _, a⟩ ⟨k, rfl, h3, h4⟩
    simp only at h4
    by_cases hk : k < (t.1.getD i sg0).2.1.length
    · right
      simp only []
      rw [decide_eq_true (show (k : Int) < (t.1.getD i sg0).2.1.length by omega), decide_eq_true (show (0 : Int) ≤ k by omega), Int.toNat_natCast, wrap_ok (n := (k : Int) + 1) (by omega)]
      simp only [Bool.and_self, chk_yes, cond_true]
      have hg0 : ((t.1.getD i sg0).2.1.getD k ((0 : Int), (0 : Int))).2 = gr t i k := rfl
      rw [hg0]
      have em : ∀ (c : Prop) [Decidable c] (x y : Int), (bif decide c then some x else some y) = some (if c then x else y) := by
        intro c _ x y; by_cases h : c <;> simp [h]
      rw [em, em]
      simp only [Option.bind_some]
      exact ⟨_, rfl, ⟨k + 1, by simp, by omega, h4.more ⟨hlt, hk⟩⟩, by simp only; omega⟩
    · left
      simp only [decide_eq_false (show ¬ (k : Int) < (t.1.getD i sg0).2.1.length by omega), cond_false]
      exact ⟨_, rfl, h4.next (by omega)⟩
  · left
    have : i = t.1.length := by omega
    subst this
    simp only [decide_eq_false (Int.lt_irrefl (t.1.length : Int)), cond_false]
    exact ⟨_, rfl, h2⟩
theorem f_TrackGrades (t : Tk) (hR : Rows t) : F_law11_TrackGrades t = some true := by
  obtain ⟨b, e, hb⟩ := f_great t hR
  obtain ⟨r1, r2, r3⟩ := hR
  have hs : ∀ s ∈ t.1, s.2.1.length ≤ big ∧ s.2.2.length ≤ big := fun s hs => by have := r3 s hs; unfold big; omega
  unfold F_law11_TrackGrades
  rw [f_anchor11, Option.bind_some, e, Option.bind_some]
  simp only [Bool.not_true, cond_false]
  cases b with
  | true => rfl
  | false =>
    rw [f_refs11 t (hb rfl).1 (hb rfl).2]
    simp only [Option.bind_some, cond_false]
    rw [f_CheckR t (fun _ => hs), Option.bind_some]
    by_cases hc : (checkI t).1 = 0
    · have e0 : ((checkI t).1 != 0) = false := by simpa using hc
      rw [e0]
      obtain ⟨⟨a, b⟩, e1, h1⟩ := f_Grades t hc
      obtain ⟨⟨c, d⟩, e2, h2⟩ := f_GradesR t hc
      obtain ⟨rfl, rfl⟩ := MM.unique h1 h2
      simp only [cond_false]
      rw [e1, Option.bind_some, e2, Option.bind_some]
      simp
    · have e0 : ((checkI t).1 != 0) = true := by simpa using hc
      rw [e0]; rfl
end Go.Proofs.Ytckghclpdfbigaa
