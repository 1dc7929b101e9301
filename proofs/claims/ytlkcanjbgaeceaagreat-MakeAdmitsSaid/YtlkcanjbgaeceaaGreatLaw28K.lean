/- AdmitChecks: the law. -/
import Derived.Test.YtlkcanjbgaeceaaGreatLaw28J
set_option linter.unusedSimpArgs false
set_option linter.unusedVariables false
namespace Go.Proofs.YtlkcanjbgaeceaaGreat
open Go.RowKit
def meetN (l : List (Int × Int)) : Nat → Int × Int
  | 0 => l.getD 0 (0, 0)
  | i + 1 => (loM (meetN l i) (l.getD i (0, 0)), hiM (meetN l i) (l.getD i (0, 0)))
def meetB (l : List (Int × Int)) (i : Nat) : Bool := decide (loM (meetN l i) (l.getD i (0, 0)) ≤ hiM (meetN l i) (l.getD i (0, 0)))
theorem f_CommonL (l : List (Int × Int)) (h0 : 0 < l.length) (hl : l.length ≤ 1000) : commonV l = (List.range l.length).all (meetB l) := by
  unfold commonV F_vote_Common
  rw [beq_false_of_ne (show (l.length : Int) ≠ 0 by omega), decide_eq_true (show (0 : Int) < l.length by omega)]
  have n0 : (0 : Int).toNat = 0 := rfl
  simp only [cond_false, Bool.and_self, chk_yes, n0]
  rw [loop_find_st (X := (Int × (Int × Bool)) ⊕ (Int × (Int × (Int × Int)))) l.length (fun i => ((meetN l i).2, (0 : Int), (0 : Int), (meetN l i).1, (i : Int))) (fun i => bif meetB l i then none else some (Sum.inl (0, 0, false))) (Sum.inr ((meetN l l.length).2, 0, 0, (meetN l l.length).1)) (show ((meetN l 0).2, (0 : Int), (0 : Int), (meetN l 0).1, ((0 : Nat) : Int)) = ((l.getD 0 (0, 0)).2, (0 : Int), (0 : Int), (l.getD 0 (0, 0)).1, (0 : Int)) from rfl)]
  · rw [all_find]
    cases (List.range l.length).all (meetB l) <;> rfl
  · intro i hi _
    simp only []
    rw [decide_eq_true (show (i : Int) < l.length by omega), decide_eq_true (show (0 : Int) ≤ i by omega), f_Meet, Int.toNat_natCast, wrap_ok (n := (i : Int) + 1) (by omega)]
    simp only [cond_true, Bool.and_self, chk_yes, Option.bind_some]
    unfold meetB
    by_cases h : hiM (meetN l i) (l.getD i (0, 0)) < loM (meetN l i) (l.getD i (0, 0))
    · rw [if_pos h, decide_eq_false (by omega)]; rfl
    · rw [if_neg h, decide_eq_true (by omega)]; rfl
  · simp
def cmnB (a b c : Int × Int) : Bool := decide (a.1 ≤ a.2 ∧ a.1 ≤ b.2 ∧ a.1 ≤ c.2 ∧ b.1 ≤ a.2 ∧ b.1 ≤ b.2 ∧ b.1 ≤ c.2 ∧ c.1 ≤ a.2 ∧ c.1 ≤ b.2 ∧ c.1 ≤ c.2)
theorem common3 (a b c : Int × Int) : commonV [a, b, c] = cmnB a b c := by
  rw [f_CommonL _ (by simp) (by simp)]
  show (meetB [a, b, c] 0 && (meetB [a, b, c] 1 && (meetB [a, b, c] 2 && true))) = _
  rw [Bool.eq_iff_iff]
  unfold meetB cmnB
  simp only [Bool.and_eq_true, decide_eq_true_eq, Bool.and_true]
  have e0 : [a, b, c].getD 0 ((0 : Int), (0 : Int)) = a := rfl
  have e1 : [a, b, c].getD 1 ((0 : Int), (0 : Int)) = b := rfl
  have e2 : [a, b, c].getD 2 ((0 : Int), (0 : Int)) = c := rfl
  simp only [meetN, e0, e1, e2]
  obtain ⟨a1, a2⟩ := a
  obtain ⟨b1, b2⟩ := b
  obtain ⟨c1, c2⟩ := c
  unfold loM hiM
  simp only
  (repeat' split) <;> constructor <;> intro h <;> omega
def spIn (l : List (Int × Int)) (x : Int) (i : Nat) : Bool := bif decide ((l.getD i (0, 0)).1 ≤ x) then decide (x ≤ (l.getD i (0, 0)).2) else false
def manyI (l : List (Int × Int)) (x : Int) : Nat → Int
  | 0 => 0
  | i + 1 => manyI l x i + (bif spIn l x i then 1 else 0)
theorem many_bound (l : List (Int × Int)) (x : Int) : ∀ i, 0 ≤ manyI l x i ∧ manyI l x i ≤ i
  | 0 => by simp [manyI]
  | i + 1 => by
    have := many_bound l x i
    rw [manyI]
    cases spIn l x i
    · simp only [cond_false]; omega
    · simp only [cond_true]; omega
theorem f_Many (l : List (Int × Int)) (x : Int) (hl : l.length ≤ 1000) : F_ref05_Many l x = some (manyI l x l.length) := by
  unfold F_ref05_Many
  rw [show ((0 : Int), (0 : Int)) = (manyI l x 0, ((0 : Nat) : Int)) from rfl]
  rw [loop_run (n := l.length) (st := fun i => (manyI l x i, (i : Int))) (x := manyI l x l.length)]
  · rfl
  · intro i hi
    have hb := many_bound l x i
    simp only []
    rw [decide_eq_true (show (i : Int) < l.length by omega), decide_eq_true (show (0 : Int) ≤ i by omega), Int.toNat_natCast, wrap_ok (n := (i : Int) + 1) (by omega), wrap_ok (n := manyI l x i + 1) (by omega)]
    simp only [cond_true, Bool.and_self, Bool.true_or, chk_yes]
    show Option.bind (bif spIn l x i then _ else _) _ = some (Sum.inl (manyI l x i + (bif spIn l x i then 1 else 0), _))
    cases spIn l x i with
    | false => simp only [cond_false, Option.bind_some, Int.add_zero]; rfl
    | true => rfl
  · simp
theorem anyB_succ (n : Nat) (b : Nat → Bool) : anyB (n + 1) b = (anyB n b || b n) := by
  unfold anyB
  rw [List.range_succ, List.any_append]
  simp
theorem f_By (l : List (Int × Int)) (m : Int) (hl : l.length ≤ 1000) :
    ∃ s, F_ref05_By l m = some (s, (anyB l.length fun i => decide (m ≤ manyI l (l.getD i (0, 0)).1 l.length)) && anyB l.length fun i => decide (m ≤ manyI l (l.getD i (0, 0)).2 l.length)) := by
  suffices h : ∃ y, F_ref05_By l m = some y ∧ y.2 = ((anyB l.length fun i => decide (m ≤ manyI l (l.getD i (0, 0)).1 l.length)) && anyB l.length fun i => decide (m ≤ manyI l (l.getD i (0, 0)).2 l.length)) by
    obtain ⟨⟨s, b⟩, h1, h2⟩ := h
    exact ⟨s, by rw [h1]; simp only at h2; rw [h2]⟩
  unfold F_ref05_By
  refine bind_inv (fun s => ∃ i : Nat, s.1 = (i : Int) ∧ i ≤ l.length ∧ s.2.1 = anyB i fun i => decide (m ≤ manyI l (l.getD i (0, 0)).1 l.length)) (fun s => (l.length - s.1).toNat)
    (fun x => x.1 = anyB l.length fun i => decide (m ≤ manyI l (l.getD i (0, 0)).1 l.length)) ⟨0, rfl, by omega, rfl⟩ ?_ ?_
  · rintro ⟨_, f, b1⟩ ⟨i, rfl, h, hf⟩
    simp only at hf ⊢
    by_cases hlt : i < l.length
    · right
      rw [decide_eq_true (show (i : Int) < l.length by omega), decide_eq_true (show (0 : Int) ≤ i by omega), Int.toNat_natCast, f_Many _ _ hl, wrap_ok (n := (i : Int) + 1) (by omega)]
      simp only [cond_true, Bool.and_self, Bool.true_or, chk_yes, Option.bind_some]
      have hs := anyB_succ i fun i => decide (m ≤ manyI l (l.getD i (0, 0)).1 l.length)
      rw [← hf] at hs
      cases hd : decide (m ≤ manyI l (l.getD i (0, 0)).1 l.length) with
      | false =>
        rw [hd, Bool.or_false] at hs
        exact ⟨_, rfl, ⟨i + 1, by simp, by omega, hs.symm⟩, by simp only; omega⟩
      | true =>
        rw [hd, Bool.or_true] at hs
        cases f with
        | false => exact ⟨_, rfl, ⟨i + 1, by simp, by omega, hs.symm⟩, by simp only; omega⟩
        | true =>
          simp only [Bool.not_true, cond_false, cond_true]
          cases decide ((l.getD i (0, 0)).1 < b1) <;> exact ⟨_, rfl, ⟨i + 1, by simp, by omega, hs.symm⟩, by simp only; omega⟩
    · left
      have : i = l.length := by omega
      rw [decide_eq_false (show ¬ (i : Int) < l.length by omega)]
      exact ⟨_, rfl, by simp only; rw [hf, this]⟩
  · rintro ⟨f, b1⟩ hf
    simp only at hf ⊢
    subst hf
    refine bind_inv (fun s => ∃ i : Nat, s.2.1 = (i : Int) ∧ i ≤ l.length ∧ s.2.2 = anyB i fun i => decide (m ≤ manyI l (l.getD i (0, 0)).2 l.length)) (fun s => (l.length - s.2.1).toNat)
      (fun x => x.2 = anyB l.length fun i => decide (m ≤ manyI l (l.getD i (0, 0)).2 l.length)) ⟨0, rfl, by omega, rfl⟩ ?_ ?_
    · rintro ⟨b2, _, f⟩ ⟨i, rfl, h, hf⟩
      simp only at hf ⊢
      by_cases hlt : i < l.length
      · right
        rw [decide_eq_true (show (i : Int) < l.length by omega), decide_eq_true (show (0 : Int) ≤ i by omega), Int.toNat_natCast, f_Many _ _ hl, wrap_ok (n := (i : Int) + 1) (by omega)]
        simp only [cond_true, Bool.and_self, Bool.true_or, chk_yes, Option.bind_some]
        have hs := anyB_succ i fun i => decide (m ≤ manyI l (l.getD i (0, 0)).2 l.length)
        rw [← hf] at hs
        cases hd : decide (m ≤ manyI l (l.getD i (0, 0)).2 l.length) with
        | false =>
          rw [hd, Bool.or_false] at hs
          exact ⟨_, rfl, ⟨i + 1, by simp, by omega, hs.symm⟩, by simp only; omega⟩
        | true =>
          rw [hd, Bool.or_true] at hs
          cases f with
          | false => exact ⟨_, rfl, ⟨i + 1, by simp, by omega, hs.symm⟩, by simp only; omega⟩
          | true =>
            simp only [Bool.not_true, cond_false, cond_true]
            cases decide (b2 < (l.getD i (0, 0)).2) <;> exact ⟨_, rfl, ⟨i + 1, by simp, by omega, hs.symm⟩, by simp only; omega⟩
      · left
        have : i = l.length := by omega
        rw [decide_eq_false (show ¬ (i : Int) < l.length by omega)]
        exact ⟨_, rfl, by simp only; rw [hf, this]⟩
    · rintro ⟨b2, f⟩ hf
      simp only at hf ⊢
      subst hf
      refine ⟨_, rfl, ?_⟩
      simp only
      cases (anyB l.length fun i => decide (m ≤ manyI l (l.getD i (0, 0)).1 l.length)) <;> rfl
theorem by3 (a b c : Int × Int) : ∃ s, F_ref05_By [a, b, c] 3 = some (s, commonV [a, b, c]) := by
  obtain ⟨s, h⟩ := f_By [a, b, c] 3 (by simp)
  refine ⟨s, ?_⟩
  rw [h, common3]
  refine congrArg some (congrArg (Prod.mk s) ?_)
  rw [Bool.eq_iff_iff]
  unfold cmnB
  have e0 : [a, b, c].getD 0 ((0 : Int), (0 : Int)) = a := rfl
  have e1 : [a, b, c].getD 1 ((0 : Int), (0 : Int)) = b := rfl
  have e2 : [a, b, c].getD 2 ((0 : Int), (0 : Int)) = c := rfl
  have hm : ∀ x : Int, (3 ≤ manyI [a, b, c] x 3) ↔ ((a.1 ≤ x ∧ x ≤ a.2) ∧ (b.1 ≤ x ∧ x ≤ b.2) ∧ (c.1 ≤ x ∧ x ≤ c.2)) := by
    intro x
    have hi : ∀ s : Int × Int, (bif decide (s.1 ≤ x) then decide (x ≤ s.2) else false) = decide (s.1 ≤ x ∧ x ≤ s.2) := by
      intro s
      rw [Bool.eq_iff_iff, decide_eq_true_eq]
      by_cases h1 : s.1 ≤ x <;> simp [h1]
    simp only [manyI, spIn, e0, e1, e2, hi]
    by_cases h1 : a.1 ≤ x ∧ x ≤ a.2 <;> by_cases h2 : b.1 ≤ x ∧ x ≤ b.2 <;> by_cases h3 : c.1 ≤ x ∧ x ≤ c.2 <;> simp [h1, h2, h3]
  have ha : ∀ q : Nat → Bool, anyB ([a, b, c] : List (Int × Int)).length q = (q 0 || (q 1 || (q 2 || false))) := fun q => rfl
  rw [ha, ha]
  simp only [e0, e1, e2, List.length_cons, List.length_nil, Nat.zero_add, Nat.reduceAdd, Bool.and_eq_true, Bool.or_eq_true, decide_eq_true_eq, hm, Bool.false_eq_true, or_false]
  omega
theorem f_rSensors (c : Cf) (s : Scr) (k : Nat) (h : Nums c s) (hk : k < s.2.2.2.2.2.1.length) :
    F_ref28_sensors c (refS s) (k : Int) = some (sensK c s.2.2.2.2.2.1 (countsL c.1 s.2.2.2.1.1 s.2.2.2.2.1.1 (fun t => t.2.1.1) s.2.2.2.2.2.1) (countsL c.1 s.2.2.2.1.2 s.2.2.2.2.1.2 (fun t => t.2.1.2) s.2.2.2.2.2.1) k) := by
  have hl := h.len
  have q0 : F_ref28_Fit (refS s) 0 (k : Int) = some (fitB 0 s.2.2.2.2.2.1 k) := f_rFit 0 k s (by omega) hk (by omega)
  have q1 : F_ref28_Fit (refS s) 1 (k : Int) = some (fitB 1 s.2.2.2.2.2.1 k) := f_rFit 1 k s (by omega) hk (by omega)
  have q2 : F_ref28_Fit (refS s) 2 (k : Int) = some (fitB 2 s.2.2.2.2.2.1 k) := f_rFit 2 k s (by omega) hk (by omega)
  have w0 := f_rWrong0 c s k hk
  have w1 := f_rWrong1 c s k hk
  have w2 := f_rWrong2 c s k h hk
  have s2 := f_rSays2 c s k h hk
  obtain ⟨g1, g2⟩ := radar_same c s k h hk
  rw [← g1] at w2
  rw [← g2] at s2
  have s0 : fitB 0 s.2.2.2.2.2.1 k = true → _ := fun hf => f_rSaysV0 c s k h hk (fit_pos (by omega) hf)
  have s1 : fitB 1 s.2.2.2.2.2.1 k = true → _ := fun hf => f_rSaysV1 c s k h hk (fit_pos (by omega) hf)
  clear g1 g2 hl
  unfold F_ref28_sensors sensK
  rw [q0, q1, q2, w0, w1, w2]
  clear q0 q1 q2 w0 w1 w2
  generalize tachoV c.2.1 c.2.2.1 c.1 ((countsL c.1 s.2.2.2.1.1 s.2.2.2.2.1.1 (fun t => t.2.1.1) s.2.2.2.2.2.1).getD (k - 1) 0) ((countsL c.1 s.2.2.2.1.1 s.2.2.2.2.1.1 (fun t => t.2.1.1) s.2.2.2.2.2.1).getD k 0) = x0 at *
  generalize tachoV c.2.1 c.2.2.1 c.1 ((countsL c.1 s.2.2.2.1.2 s.2.2.2.2.1.2 (fun t => t.2.1.2) s.2.2.2.2.2.1).getD (k - 1) 0) ((countsL c.1 s.2.2.2.1.2 s.2.2.2.2.1.2 (fun t => t.2.1.2) s.2.2.2.2.2.1).getD k 0) = x1 at *
  generalize radarV c (s.2.2.2.2.2.1.getD k tk0) = x2 at *
  generalize wrongR c (s.2.2.2.2.2.1.getD k tk0) = w2
  generalize ((s.2.2.2.2.2.1.getD k tk0).2.1.1 != 0) = w0
  generalize ((s.2.2.2.2.2.1.getD k tk0).2.1.2 != 0) = w1
  generalize fitB 0 s.2.2.2.2.2.1 k = f0 at *
  generalize fitB 1 s.2.2.2.2.2.1 k = f1 at *
  generalize fitB 2 s.2.2.2.2.2.1 k = f2 at *
  obtain ⟨sp, hb⟩ := by3 x0 x1 x2
  by_cases hall : f0 = true ∧ f1 = true ∧ f2 = true
  · obtain ⟨rfl, rfl, rfl⟩ := hall
    rw [s0 rfl, s1 rfl, s2]
    simp only [cond_true, Option.bind_some]
    rw [hb]
    unfold sensB saidL wrongN
    cases w0 <;> cases w1 <;> cases w2 <;> rfl
  · have s0' : ∀ z, F_ref28_Says c (refS s) 0 (k : Int) = z → True := fun _ _ => trivial
    generalize F_ref28_Says c (refS s) 0 (k : Int) = y0 at *
    generalize F_ref28_Says c (refS s) 1 (k : Int) = y1 at *
    generalize F_ref28_Says c (refS s) 2 (k : Int) = y2 at *
    clear s0 s1 s2 s0' hb
    unfold sensB saidL wrongN
    cases f0 <;> cases f1 <;> cases f2 <;> first
      | exact absurd ⟨rfl, rfl, rfl⟩ hall
      | (cases w0 <;> cases w1 <;> cases w2 <;> rfl)
theorem find_first {X : Type} {n r : Nat} {step : Nat → Option X} {x : X} (hr : r < n) (h1 : ∀ k, k < r → step k = none) (h2 : step r = some x) : (List.range n).findSome? step = some x := by
  have e : List.range n = List.range r ++ (List.range (n - r)).map (r + ·) := by
    rw [← List.range_add, Nat.add_sub_cancel' (by omega)]
  have e2 : (List.range (n - r)).map (r + ·) = r :: (List.range (n - r - 1)).map (fun j => r + (j + 1)) := by
    obtain ⟨m, hm⟩ : ∃ m, n - r = m + 1 := ⟨n - r - 1, by omega⟩
    rw [hm, List.range_succ_eq_map, List.map_cons, List.map_map]
    rfl
  rw [e, List.findSome?_append, find_none.2 h1, e2, List.findSome?_cons, h2]
  rfl
theorem f_rFind (t : Tk) (id : Int) (hl : t.2.length ≤ 4611686018427387903) (hs : ∀ a b : Nat, a ≤ b → b < t.2.length → (t.2.getD a gp0).1 ≤ (t.2.getD b gp0).1) :
    ∃ r : Nat, F_track_Track_Find t id = some ((r : Int), decide (r < t.2.length) && decide ((t.2.getD r gp0).1 = id)) ∧ F_ref27_Find t id = some (bif decide (r < t.2.length) && decide ((t.2.getD r gp0).1 = id) then (r : Int) else -1) := by
  obtain ⟨r, e, h1, h2, h3⟩ := f_Find t id hl hs
  refine ⟨r, e, ?_⟩
  unfold F_ref27_Find
  rw [loop_find t.2.length (fun i => bif (t.2.getD i gp0).1 == id then some (.inl (i : Int)) else none) (.inr ())]
  · by_cases hh : r < t.2.length ∧ (t.2.getD r gp0).1 = id
    · rw [find_first (r := r) (x := .inl (r : Int)) hh.1 (fun k hk => by
        have := h2 k hk
        rw [beq_false_of_ne (by omega)]; rfl) (by rw [hh.2]; simp), decide_eq_true hh.1, decide_eq_true hh.2]
      rfl
    · have : (List.range t.2.length).findSome? (fun i => bif (t.2.getD i gp0).1 == id then some (Sum.inl (i : Int) : Int ⊕ Unit) else none) = none := find_none.2 fun i hi => by
        have hne : (t.2.getD i gp0).1 ≠ id := by
          intro hid
          by_cases hir : i < r
          · have := h2 i hir; omega
          · have h4 := h3 r (Nat.le_refl r) (by omega)
            have h5 := hs r i (by omega) hi
            exact hh ⟨by omega, by omega⟩
        rw [beq_false_of_ne hne]; rfl
      have e2 : (decide (r < t.2.length) && decide ((t.2.getD r gp0).1 = id)) = false := by
        rw [Bool.eq_false_iff]
        intro h
        rw [Bool.and_eq_true, decide_eq_true_eq, decide_eq_true_eq] at h
        exact hh h
      rw [this, e2]
      rfl
  · intro i hi
    rw [decide_eq_true (show (i : Int) < t.2.length by omega), decide_eq_true (show (0 : Int) ≤ i by omega), Int.toNat_natCast, gp_def, wrap_ok (n := (i : Int) + 1) (by omega)]
    simp only [cond_true, Bool.and_self, chk_yes]
    cases ((t.2.getD i gp0).1 == id) <;> rfl
  · simp
theorem f_rNominal (t : Tk) (s : Scr) (r : Rd) (h : OnT t s.1) : F_ref27_Nominal t (refS s) r = some (nomV t s.1 r) := by
  rw [← f_NomV t s r h]
  obtain ⟨g, e1, e2⟩ := f_rFind t r.2.2.1 (by have := h.glen; omega) h.gord
  unfold F_ref27_Nominal F_world_Nominal refS
  rw [e1, e2, Option.bind_some, Option.bind_some]
  simp only []
  by_cases hf : g < t.2.length ∧ (t.2.getD g gp0).1 = r.2.2.1
  · rw [decide_eq_true hf.1, decide_eq_true hf.2]
    simp only [Bool.and_self, Bool.not_true, cond_true, cond_false]
    rw [decide_eq_false (show ¬ (g : Int) < 0 by omega)]
    simp only [cond_false]
    by_cases a1 : r.2.1 < 0
    · rw [decide_eq_true a1]
      simp only [cond_true, cond_false, Bool.not_true, Bool.not_false, Bool.or_true, chk_yes]
    · rw [decide_eq_false a1]
      by_cases a2 : (s.1.length : Int) ≤ r.2.1
      · rw [decide_eq_true a2]
        simp only [cond_true, cond_false, Bool.not_true, Bool.not_false, Bool.or_true, chk_yes]
      · rw [decide_eq_false a2]
        obtain ⟨k, hk⟩ : ∃ k : Nat, r.2.1 = (k : Int) := ⟨r.2.1.toNat, by omega⟩
        rw [hk, f_Start t s.1 k (by omega) h.rlen h.lens h.rin, f_rStart t s.1 k (by omega) h.rlen h.lens h.rin]
  · have e3 : (decide (g < t.2.length) && decide ((t.2.getD g gp0).1 = r.2.2.1)) = false := by
      rw [Bool.eq_false_iff]
      intro hh
      rw [Bool.and_eq_true, decide_eq_true_eq, decide_eq_true_eq] at hh
      exact hf hh
    rw [e3]
    have e4 : decide ((-1 : Int) < 0) = true := rfl
    simp only [cond_true, cond_false, Bool.not_true, Bool.not_false, Bool.or_true, chk_yes, e4]
theorem f_rAt (s : Scr) (L : Int) (n : Nat) (hn : n ≤ s.2.2.2.2.2.1.length) (hl : s.2.2.2.2.2.1.length ≤ 4096) (hL : L ≤ 4611686018427387903) (hp : ∀ i, i ≤ s.2.2.2.2.2.1.length → 0 ≤ posI s.2.1 s.2.2.2.2.2.1 i ∧ posI s.2.1 s.2.2.2.2.2.1 i ≤ L) :
    F_ref27_At (refS s) (n : Int) = some (posI s.2.1 s.2.2.2.2.2.1 n) := by
  unfold F_ref27_At refS
  simp only [List.length_map]
  generalize s.2.2.2.2.2.1 = tk at *
  rw [show ((0 : Int), s.2.1) = (((0 : Nat) : Int), posI s.2.1 tk 0) from rfl]
  rw [loop_run (n := n) (st := fun i => ((i : Int), posI s.2.1 tk i)) (x := posI s.2.1 tk n)]
  · rfl
  · intro i hi
    have h1 := hp (i + 1) (by omega)
    have e : posI s.2.1 tk (i + 1) = posI s.2.1 tk i + (tk.getD i tk0).1 := rfl
    rw [e] at h1
    simp only []
    rw [decide_eq_true (show (i : Int) < n by omega), decide_eq_true (show (0 : Int) ≤ i by omega), decide_eq_true (show (i : Int) < tk.length by omega), Int.toNat_natCast, rt_def, map_d]
    have r1 : (refT (tk.getD i tk0)).1 = (tk.getD i tk0).1 := rfl
    rw [r1, wrap_ok (n := (i : Int) + 1) (by omega), wrap_ok (n := posI s.2.1 tk i + (tk.getD i tk0).1) (by omega), e]
    rfl
  · simp
theorem f_farW (x far : Int) : F_ref28_far x far = some (!withW x far) := by
  unfold F_ref28_far withW
  simp only []
  rw [@not_le_dec x (IntKind.i64.wrap (0 - far)), @not_le_dec far x]
  cases decide (IntKind.i64.wrap (0 - far) ≤ x) <;> cases decide (x ≤ far) <;> rfl
structure OnS (s : Scr) (L : Int) : Prop where
  len : s.2.2.2.2.2.1.length ≤ 4096
  top : L ≤ 4611686018427387903
  pos : ∀ i, i ≤ s.2.2.2.2.2.1.length → 0 ≤ posI s.2.1 s.2.2.2.2.2.1 i ∧ posI s.2.1 s.2.2.2.2.2.1 i ≤ L
theorem f_rRead (c : Cf) (t : Tk) (s : Scr) (r : Rd) (ahead L : Int) (ht : OnT t s.1) (hS : OnS s L) (h0 : 0 ≤ r.1) (hn : r.1 < s.2.2.2.2.2.1.length) (ha : ahead < r.1) :
    F_ref28_read c t (refS s) r = some (readB t s.1 c.2.2.2.2.2.2.2.2.1 s.2.1 (placesL s.2.1 s.2.2.2.2.2.1) r s.2.2.2.2.2.1.length ahead) := by
  unfold F_ref28_read readB
  rw [f_rNominal t s r ht, Option.bind_some, decide_eq_true ha, decide_eq_true hn]
  simp only [Bool.true_and]
  obtain ⟨g, e1, e2⟩ := f_rFind t r.2.2.1 (by have := ht.glen; omega) ht.gord
  obtain ⟨y, hy, hy2⟩ := nom_total t s r ht
  rw [f_NomV t s r ht] at hy
  cases hy
  cases hb : (nomV t s.1 r).2 with
  | false => rfl
  | true =>
    obtain ⟨g', hg', hfind⟩ := hy2 hb
    rw [hfind] at e1
    simp only [Option.some.injEq, Prod.mk.injEq] at e1
    obtain ⟨eg, ed⟩ := e1
    obtain rfl : g' = g := by omega
    have hgo : grpOf t r.2.2.1 = t.2.getD g' gp0 := by unfold grpOf; rw [hfind]; rfl
    rw [hgo, e2, ← ed]
    obtain ⟨k, hk⟩ : ∃ k : Nat, r.1 = (k : Int) := ⟨r.1.toNat, by omega⟩
    have hl := hS.len
    have ek : IntKind.i64.wrap (r.1 + 1) = ((k + 1 : Nat) : Int) := by rw [hk, wrap_ok (by omega)]; omega
    simp only [Bool.not_true, cond_false, cond_true, Option.bind_some]
    rw [ek, hk, f_rAt s L k (by omega) hl hS.top hS.pos, f_rAt s L (k + 1) (by omega) hl hS.top hS.pos, Option.bind_some, Option.bind_some]
    have p1 : (placesL s.2.1 s.2.2.2.2.2.1).getD ((k : Int).toNat) 0 = posI s.2.1 s.2.2.2.2.2.1 (k + 1) := by
      unfold placesL
      rw [Int.toNat_natCast, map_getD (by omega)]
    have p2 : aheadI s.2.1 (placesL s.2.1 s.2.2.2.2.2.1) (k : Int) = posI s.2.1 s.2.2.2.2.2.1 k := by
      unfold aheadI
      by_cases hk0 : k = 0
      · subst hk0; rfl
      · rw [if_pos (by omega)]
        unfold placesL
        rw [map_getD (by omega), show ((k : Int) - 1).toNat + 1 = k by omega]
    rw [p1, p2, decide_eq_true (show (0 : Int) ≤ g' by omega), decide_eq_true (show (g' : Int) < t.2.length by omega), Int.toNat_natCast, gp_def]
    simp only [Bool.and_self, chk_yes]
    rw [f_farW]
    generalize posI s.2.1 s.2.2.2.2.2.1 k = a
    generalize posI s.2.1 s.2.2.2.2.2.1 (k + 1) = b
    cases decide ((if b < a then b else a) ≤ r.2.2.2) <;> cases decide (r.2.2.2 ≤ (if b > a then b else a)) <;> try rfl
    simp only [cond_true, Option.bind_some]
    cases withW (IntKind.i64.wrap (r.2.2.2 - (nomV t s.1 r).1)) (IntKind.i64.wrap ((t.2.getD g' gp0).2.2.2.1 + c.2.2.2.2.2.2.2.2.1)) <;> rfl
theorem readB_early {t : Tk} {rt : List Int} {an st : Int} {pl : List Int} {r : Rd} {n ahead : Int} (h : ¬ (ahead < r.1 ∧ r.1 < n)) : readB t rt an st pl r n ahead = false := by
  unfold readB
  by_cases h1 : ahead < r.1
  · rw [decide_eq_true h1, decide_eq_false (fun h2 => h ⟨h1, h2⟩)]; rfl
  · rw [decide_eq_false h1]; rfl
theorem f_rReads (c : Cf) (t : Tk) (s : Scr) (L : Int) (ht : OnT t s.1) (hS : OnS s L) (hrl : s.2.2.2.2.2.2.length ≤ 4611686018427387903) :
    F_ref28_reads c t (refS s) = some ((List.range s.2.2.2.2.2.2.length).all (readK t s.1 c.2.2.2.2.2.2.2.2.1 s.2.1 (placesL s.2.1 s.2.2.2.2.2.1) s.2.2.2.2.2.1.length s.2.2.2.2.2.2)) := by
  unfold F_ref28_reads
  have hrd : (refS s).2.2.2.2.2.2 = s.2.2.2.2.2.2 := rfl
  have htl : (refS s).2.2.2.2.2.1.length = s.2.2.2.2.2.1.length := by unfold refS; simp
  have hl := hS.len
  rw [hrd, htl]
  generalize hR : s.2.2.2.2.2.2 = rd at *
  generalize hN : s.2.2.2.2.2.1.length = N at *
  rw [loop_find_st rd.length (fun i => (i : Int)) (fun i => bif readK t s.1 c.2.2.2.2.2.2.2.2.1 s.2.1 (placesL s.2.1 s.2.2.2.2.2.1) N rd i then none else some (Sum.inl false)) (Sum.inr ()) (show ((0 : Nat) : Int) = (0 : Int) from rfl)]
  · rw [all_find]
    cases (List.range rd.length).all (readK t s.1 c.2.2.2.2.2.2.2.2.1 s.2.1 (placesL s.2.1 s.2.2.2.2.2.1) N rd) <;> rfl
  · intro i hi hprev
    have hah : ∀ j, j ≤ i → -1 ≤ prevC rd j ∧ (0 < j → 0 ≤ prevC rd j) := by
      intro j
      induction j with
      | zero => intro _; unfold prevC; rw [if_pos rfl]; omega
      | succ j ih =>
        intro hj
        have h1 := ih (by omega)
        have h2 := all_none (n := 0) hprev j (by omega)
        unfold readK at h2
        have h3 := read_gt h2
        unfold prevC
        rw [if_neg (by omega), Nat.add_sub_cancel]
        omega
    have ha := hah i (Nat.le_refl i)
    simp only []
    rw [decide_eq_true (show (i : Int) < rd.length by omega), decide_eq_true (show (0 : Int) ≤ i by omega), Int.toNat_natCast, rd_def, wrap_ok (n := (i : Int) + 1) (by omega), wrap_ok (n := (i : Int) - 1) (by omega)]
    simp only [cond_true, Bool.and_self, chk_yes]
    have early : ¬ (prevC rd i < (rd.getD i rd0).1 ∧ (rd.getD i rd0).1 < N) → readK t s.1 c.2.2.2.2.2.2.2.2.1 s.2.1 (placesL s.2.1 s.2.2.2.2.2.1) N rd i = false := fun h => readB_early h
    by_cases c1 : (rd.getD i rd0).1 < 0
    · rw [decide_eq_true c1]
      simp only [cond_true, Bool.not_true, Bool.and_false, Bool.not_false, Bool.or_true, chk_yes]
      rw [early (by omega)]; rfl
    · rw [decide_eq_false c1]
      by_cases c2 : (N : Int) ≤ (rd.getD i rd0).1
      · rw [decide_eq_true c2]
        simp only [cond_true, cond_false, Bool.not_true, Bool.and_false, Bool.not_false, Bool.or_true, chk_yes]
        rw [early (by omega)]; rfl
      · rw [decide_eq_false c2]
        simp only [cond_false, Bool.not_false, Bool.and_true]
        by_cases hi0 : i = 0
        · have e1 : decide ((0 : Int) < (i : Int)) = false := by simp [hi0]
          have hpc : prevC rd i = -1 := by unfold prevC; rw [if_pos hi0]
          rw [e1]
          simp only [Bool.not_false, Bool.or_true, chk_yes, cond_false]
          rw [f_rRead c t s (rd.getD i rd0) (prevC rd i) L ht hS (by omega) (by omega) (by omega), Option.bind_some]
          unfold readK
          rw [hN]
          cases readB t s.1 c.2.2.2.2.2.2.2.2.1 s.2.1 (placesL s.2.1 s.2.2.2.2.2.1) (rd.getD i rd0) N (prevC rd i) <;> rfl
        · have e1 : decide ((0 : Int) < (i : Int)) = true := by simp; omega
          have et : ((i : Int) - 1).toNat = i - 1 := by omega
          have hpc : prevC rd i = (rd.getD (i - 1) rd0).1 := by unfold prevC; rw [if_neg hi0]
          rw [e1, et, decide_eq_true (show (0 : Int) ≤ (i : Int) - 1 by omega), decide_eq_true (show (i : Int) - 1 < rd.length by omega)]
          simp only [Bool.and_self, Bool.true_or, chk_yes, cond_true]
          rw [rd_def rd (i - 1), ← hpc]
          by_cases c3 : (rd.getD i rd0).1 ≤ prevC rd i
          · rw [decide_eq_true c3]
            simp only [cond_true]
            rw [early (by omega)]; rfl
          · rw [decide_eq_false c3]
            simp only [cond_false]
            rw [f_rRead c t s (rd.getD i rd0) (prevC rd i) L ht hS (by omega) (by omega) (by omega), Option.bind_some]
            unfold readK
            rw [hN]
            cases readB t s.1 c.2.2.2.2.2.2.2.2.1 s.2.1 (placesL s.2.1 s.2.2.2.2.2.1) (rd.getD i rd0) N (prevC rd i) <;> rfl
  · simp
theorem and255 (k : Nat) (hk : k ≤ 4096) : bits .i64 .and (k : Int) 255 = ((k : Int)).tmod 256 := by
  show IntKind.i64.wrap (((BitVec.ofInt 64 (k : Int)) &&& (BitVec.ofInt 64 255)).toNat : Int) = _
  have e : ((BitVec.ofInt 64 (k : Int)) &&& (BitVec.ofInt 64 255)).toNat = k % 256 := by
    have e1 : BitVec.ofInt 64 (k : Int) = BitVec.ofNat 64 k := by
      apply BitVec.eq_of_toNat_eq
      rw [BitVec.toNat_ofInt, BitVec.toNat_ofNat]
      omega
    rw [e1, BitVec.toNat_and, BitVec.toNat_ofNat, Nat.mod_eq_of_lt (by omega)]
    exact Nat.and_two_pow_sub_one_eq_mod k 8
  rw [e, wrap_ok (by omega), Int.tmod_eq_emod_of_nonneg (by omega)]
  rfl
def JBytes (s : Scr) : Prop := ∀ t ∈ s.2.2.2.2.2.1, ∀ b ∈ t.2.2.2.2.2.1, Bytes b
theorem f_rJunk (s : Scr) (hl : s.2.2.2.2.2.1.length ≤ 4096) (hj : ∀ t ∈ s.2.2.2.2.2.1, ∀ b ∈ t.2.2.2.2.2.1, b.length ≤ 140737488351232) (hB : JBytes s) : F_ref28_junk (refS s) = some (junkB s.2.2.2.2.2.1) := by
  unfold F_ref28_junk junkB refS
  unfold JBytes at hB
  simp only [List.length_map]
  generalize s.2.2.2.2.2.1 = tk at *
  rw [loop_find tk.length (fun k => bif junkAt (k : Int) (tk.getD k tk0) then none else some (.inl false)) (.inr ())]
  · rw [all_find]
    cases ((List.range tk.length).all fun k => junkAt (k : Int) (tk.getD k tk0)) <;> rfl
  · intro i hi
    rw [decide_eq_true (show (i : Int) < tk.length by omega), decide_eq_true (show (0 : Int) ≤ i by omega), Int.toNat_natCast, wrap_ok (n := (i : Int) + 1) (by omega), rt_def, map_d]
    simp only [cond_true, Bool.and_self, chk_yes]
    have hm := hj _ (getD_mem (d := tk0) hi)
    have hb := hB _ (getD_mem (d := tk0) hi)
    generalize tk.getD i tk0 = t at hm hb ⊢
    have r1 : (refT t).2.2.2.2.2.1 = t.2.2.2.2.2.1 := rfl
    rw [r1]
    unfold junkAt
    generalize t.2.2.2.2.2.1 = l at hm hb ⊢
    by_cases h27 : 27 < l.length
    · rw [decide_eq_true (show (27 : Int) < l.length by omega), decide_eq_false (show ¬ l.length ≤ 27 by omega)]
      rfl
    rw [decide_eq_false (show ¬ (27 : Int) < l.length by omega), decide_eq_true (show l.length ≤ 27 by omega)]
    simp only [cond_false, Bool.true_and]
    rw [loop_find l.length (fun j => bif okJ (i : Int) (l.getD j []) then none else some (.inl false)) (.inr ())]
    · rw [all_find]
      cases ((List.range l.length).all fun j => okJ (i : Int) (l.getD j [])) <;> rfl
    · intro j hj'
      rw [decide_eq_true (show (j : Int) < l.length by omega), decide_eq_true (show (0 : Int) ≤ j by omega), Int.toNat_natCast, wrap_ok (n := (j : Int) + 1) (by omega)]
      simp only [cond_true, Bool.and_self, chk_yes]
      have q1 := hb _ (getD_mem (d := []) hj')
      have q2 := hm _ (getD_mem (d := []) hj')
      rw [f_frameGet07 _ q1 (by omega), Option.bind_some]
      unfold okJ getV
      rw [f_frameGet _ q1 (by omega), and255 i (by omega)]
      show (bif (bif (frameI (l.getD j [])).2 == 0 then (frameI (l.getD j [])).1.2.1 == (i : Int).tmod 256 else false) then some (Sum.inr (Sum.inl false)) else some (Sum.inl ((j : Int) + 1))) = some (stepOut ((j : Int) + 1) (bif !(bif (frameI (l.getD j [])).2 == 0 then (frameI (l.getD j [])).1.2.1 == (i : Int).tmod 256 else false) then none else some (Sum.inl false)))
      cases (bif (frameI (l.getD j [])).2 == 0 then (frameI (l.getD j [])).1.2.1 == (i : Int).tmod 256 else false) <;> rfl
    · simp
  · simp
theorem f_rAdmit (c : Cf) (t : Tk) (s : Scr) (hR : Rows t) (hS : ScrOK s) (hB : JBytes s) : F_ref28_Check c t (refS s) = some (admitI c t s) := by
  obtain ⟨r1, r2, r3⟩ := hR
  have hs : ∀ s ∈ t.1, s.2.1.length ≤ big ∧ s.2.2.length ≤ big := fun s hs => by have := r3 s hs; unfold big; omega
  have hN : ∀ s ∈ t.1, s.2.2.length ≤ 4611686018427387903 := fun s hs => by have := r3 s hs; omega
  obtain ⟨⟨i1, i2⟩, tl, rl, jl⟩ := hS
  unfold F_ref28_Check admitI
  rw [f_FitsR c t (fun _ => hs), Option.bind_some]
  by_cases hf : (fitsR c t).1 = 0
  · have e0 : ((fitsR c t).1 != 0) = false := by simp [hf]
    rw [e0]
    obtain ⟨hw, hc⟩ := fits_ok hf
    obtain ⟨k1', k2', k3', k4', k5'⟩ := check_ok' hc
    have hL := lens_ok k4'
    have hgo := ids_le k5'
    have R : 1 ≤ c.2.2.2.2.2.2.1 ∧ c.2.2.2.2.2.2.1 ≤ 16777216 := by obtain ⟨cp, lo, hi, rb, rp, ae, ms, ma, an, sl, ss, ro, ti, br⟩ := c; exact (right_iff.1 hw).hms
    have R2 : 1 ≤ c.2.2.2.2.2.2.2.1 ∧ c.2.2.2.2.2.2.2.1 ≤ 1048576 := by obtain ⟨cp, lo, hi, rb, rp, ae, ms, ma, an, sl, ss, ro, ti, br⟩ := c; exact (right_iff.1 hw).hma
    have R3 : 0 ≤ c.2.2.2.2.2.1 ∧ c.2.2.2.2.2.1 ≤ 1048576 := by obtain ⟨cp, lo, hi, rb, rp, ae, ms, ma, an, sl, ss, ro, ti, br⟩ := c; exact (right_iff.1 hw).hae
    have e1 : (refS s).1 = s.1 := rfl
    have etl : (refS s).2.2.2.2.2.1.length = s.2.2.2.2.2.1.length := by unfold refS; simp
    simp only [cond_false]
    rw [e1, f_rRoute t s.1 hN, Option.bind_some]
    cases hr : routeB t s.1 with
    | false => rfl
    | true =>
      obtain ⟨q1, q2, q3⟩ := route_in hr
      simp only [Bool.not_true, cond_false]
      rw [f_rOn t s (by omega) q2 hL q3, Option.bind_some]
      have hsb := start_bound (t := t) hL q3 s.1.length (Nat.le_refl _)
      cases ho : onB (startI t s.1 s.1.length) s.2.1 s.2.2.2.2.2.1 with
      | false => rfl
      | true =>
        obtain ⟨o1, o2, o3, o4, o5⟩ := on_facts ho
        simp only [Bool.not_true, cond_false]
        rw [f_rSpeeds c s (by omega) R R2, Option.bind_some]
        cases hsp : speedsB c.2.2.2.2.2.2.1 c.2.2.2.2.2.2.2.1 s.2.2.1 s.2.2.2.2.2.1 with
        | false => rfl
        | true =>
          simp only [Bool.not_true, cond_false]
          rw [f_rNumbers c s (by omega) R3, Option.bind_some]
          cases hwh : (wheelB c.2.1 c.2.2.1 s.2.2.2.1.1 s.2.2.2.2.1.1 && wheelB c.2.1 c.2.2.1 s.2.2.2.1.2 s.2.2.2.2.1.2) with
          | false => rfl
          | true =>
            cases hnu : numbersB c.2.2.2.2.2.1 s.2.2.2.2.2.1 with
            | false => rfl
            | true =>
              have hNu : Nums c s := nums_of hw o1 hsp hwh hnu
              have hb : startI t s.1 s.1.length ≤ 439804651110400 := by
                have : (s.1.length : Int) * 1099511627776 ≤ 400 * 1099511627776 := by omega
                omega
              have e00 : ((0 : Int) != 0) = false := rfl
              simp only [Bool.not_true, cond_false, e00]
              rw [etl]
              rw [loop_find s.2.2.2.2.2.1.length (fun k => bif sensK c s.2.2.2.2.2.1 (countsL c.1 s.2.2.2.1.1 s.2.2.2.2.1.1 (fun t => t.2.1.1) s.2.2.2.2.2.1) (countsL c.1 s.2.2.2.1.2 s.2.2.2.2.1.2 (fun t => t.2.1.2) s.2.2.2.2.2.1) k then none else some (.inl 7)) (.inr ())]
              · rw [all_find]
                cases ((List.range s.2.2.2.2.2.1.length).all (sensK c s.2.2.2.2.2.1 (countsL c.1 s.2.2.2.1.1 s.2.2.2.2.1.1 (fun t => t.2.1.1) s.2.2.2.2.2.1) (countsL c.1 s.2.2.2.1.2 s.2.2.2.2.1.2 (fun t => t.2.1.2) s.2.2.2.2.2.1))) with
                | false => rfl
                | true =>
                  simp only [cond_true, Option.bind_some, Bool.not_true, cond_false]
                  rw [f_rReads c t s (startI t s.1 s.1.length) ⟨k3', hgo, hL, q2, q3⟩ ⟨o1, by omega, o4⟩ (by omega), Option.bind_some]
                  cases ((List.range s.2.2.2.2.2.2.length).all (readK t s.1 c.2.2.2.2.2.2.2.2.1 s.2.1 (placesL s.2.1 s.2.2.2.2.2.1) s.2.2.2.2.2.1.length s.2.2.2.2.2.2)) with
                  | false => rfl
                  | true =>
                    simp only [Bool.not_true, cond_false]
                    rw [f_rJunk s o1 jl hB, Option.bind_some]
                    cases junkB s.2.2.2.2.2.1 <;> rfl
              · intro i hi
                rw [decide_eq_true (show (i : Int) < s.2.2.2.2.2.1.length by omega), f_rSensors c s i hNu hi, Option.bind_some, wrap_ok (n := (i : Int) + 1) (by omega)]
                simp only [cond_true]
                cases sensK c s.2.2.2.2.2.1 (countsL c.1 s.2.2.2.1.1 s.2.2.2.2.1.1 (fun t => t.2.1.1) s.2.2.2.2.2.1) (countsL c.1 s.2.2.2.1.2 s.2.2.2.2.1.2 (fun t => t.2.1.2) s.2.2.2.2.2.1) i <;> rfl
              · simp
  · have e0 : ((fitsR c t).1 != 0) = true := by simp [hf]
    rw [e0]; rfl
end Go.Proofs.YtlkcanjbgaeceaaGreat
