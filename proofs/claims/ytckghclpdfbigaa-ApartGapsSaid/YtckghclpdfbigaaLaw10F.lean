/- The laws of chapter 10: what their readings say is true. -/
import Derived.Test.YtckghclpdfbigaaSearchF
set_option linter.unusedSimpArgs false
set_option linter.unusedVariables false
namespace Go.Proofs.Ytckghclpdfbigaa
open Go.RowKit
abbrev Pc := Int × Int
def pc0 : Pc := (0, 0)
/-- A loop of n rounds whose states are known. -/
theorem loop_run {S X : Type} {f : S → Option (S ⊕ X)} (n : Nat) (st : Nat → S) (x : X) (h : ∀ i, i < n → f (st i) = some (.inl (st (i + 1)))) (he : f (st n) = some (.inr x)) : loopO f (st 0) = some x := by
  have key : ∀ k j : Nat, j + k = n → loopN f (k + 1) (st j) = some x := by
    intro k
    induction k with
    | zero => intro j hj; obtain rfl : j = n := by omega
              rw [loopN, he]
    | succ k ih => intro j hj; rw [loopN, h j (by omega)]; exact ih (j + 1) (by omega)
  exact loopO_of (key n 0 (by omega))
theorem take_succ_getD {α : Type} {l : List α} {i : Nat} {d : α} (h : i < l.length) : l.take i ++ [l.getD i d] = l.take (i + 1) := by
  rw [getD_lt h, List.take_add_one, List.getElem?_eq_getElem h]; rfl
theorem f_refs10 (l : List Pc) (h : l.length ≤ 1000) : F_law10_refs l = some l := by
  unfold F_law10_refs
  rw [show ((0 : Int), ([] : List (Int × Int))) = (((0 : Nat) : Int), l.take 0) from rfl]
  rw [loop_run (n := l.length) (st := fun i => ((i : Int), l.take i)) (x := l)]
  · rfl
  · intro i hi
    simp only []
    rw [decide_eq_true (show (i : Int) < l.length by omega), decide_eq_true (show (0 : Int) ≤ i by omega)]
    simp only [cond_true, Bool.and_self, chk_yes]
    rw [Int.toNat_natCast, chk_yes (by simp; omega), wrap_ok (n := (i : Int) + 1) (by omega), take_succ_getD hi]
    rfl
  · simp
theorem f_May (l : List Pc) (len : Int) (hl : l.length ≤ 9223372036854775806) : F_ref10_May l len = some (gradeB l len) := by
  unfold F_ref10_May gradeB
  by_cases h0 : l.length = 0
  · simp [h0, chk]
  by_cases h1 : 64 < l.length
  · have e1 : decide ((l.length : Int) < 1) = false := by simp; omega
    have e2 : decide ((64 : Int) < l.length) = true := by simp; omega
    have e4 : decide (l.length ≤ 64) = false := by simp; omega
    simp [e1, e2, e4, chk]
  have e1 : decide ((l.length : Int) < 1) = false := by simp; omega
  have e2 : decide ((64 : Int) < l.length) = false := by simp; omega
  have e3 : decide ((0 : Int) < l.length) = true := by simp; omega
  have e4 : decide (l.length ≤ 64) = true := by simp; omega
  have e5 : decide (1 ≤ l.length) = true := by simp; omega
  rw [e1, e2, e3, e4, e5]
  simp only [cond_false, Bool.true_and, Bool.and_self, Bool.true_or, chk_yes]
  by_cases h2 : (l.getD 0 (0, 0)).1 = 0
  · have e6 : ((l.getD (0 : Int).toNat ((0 : Int), (0 : Int))).1 != 0) = false := by simpa using h2
    have e7 : decide ((l.getD 0 ((0 : Int), (0 : Int))).1 = 0) = true := by simpa using h2
    rw [e6, e7]
    simp only [cond_false, Bool.true_and]
    rw [loop_find l.length (fun i => bif pieceB l len i then none else some (.inl false)) (.inr ())]
    · rw [all_find]
      cases (List.range l.length).all (pieceB l len) <;> rfl
    · intro i hi
      rw [decide_eq_true (show (i : Int) < l.length by omega), decide_eq_true (show (0 : Int) ≤ i by omega)]
      simp only [cond_true, Bool.and_self, Bool.true_or, chk_yes]
      rw [Int.toNat_natCast]
      have ew : IntKind.i64.wrap ((i : Int) - 1) = i - 1 := wrap_ok (by omega)
      have ew2 : IntKind.i64.wrap ((i : Int) + 1) = i + 1 := wrap_ok (by omega)
      rw [ew, ew2]
      have fin : ∀ a b c d e : Bool, e = (!a && !b && !c && !d) → (bif (bif (bif a then true else b) then true else c) then some (Sum.inr (Sum.inl false)) else (bif d then some (Sum.inr (Sum.inl false)) else some (Sum.inl ((i : Int) + 1)))) = some (stepOut ((i : Int) + 1) (bif e then none else some (Sum.inl false) : Option (Bool ⊕ Unit))) := by
        rintro a b c d e rfl; cases a <;> cases b <;> cases c <;> cases d <;> rfl
      by_cases hi0 : i = 0
      · rw [chk_yes (by simp [hi0])]
        refine fin _ _ _ _ _ ?_
        unfold pieceB
        rw [decide_eq_true hi0, show decide ((0 : Int) < (i : Int)) = false by simp [hi0], @not_lt_dec (-1048576) (l.getD i (0, 0)).2, @not_lt_dec (l.getD i (0, 0)).2 1048576, @not_le_dec (l.getD i (0, 0)).1 len]
        rfl
      · have et : ((i : Int) - 1).toNat = i - 1 := by omega
        rw [chk_yes (by simp; omega), et]
        refine fin _ _ _ _ _ ?_
        unfold pieceB
        rw [decide_eq_false hi0, show decide ((0 : Int) < (i : Int)) = true by simp; omega, @not_lt_dec (-1048576) (l.getD i (0, 0)).2, @not_lt_dec (l.getD i (0, 0)).2 1048576, @not_le_dec (l.getD i (0, 0)).1 len, @not_le_dec (l.getD (i - 1) (0, 0)).1 (l.getD i (0, 0)).1]
        rfl
    · simp
  · have e6 : ((l.getD (0 : Int).toNat ((0 : Int), (0 : Int))).1 != 0) = true := by simpa using h2
    have e7 : decide ((l.getD 0 ((0 : Int), (0 : Int))).1 = 0) = false := by simpa using h2
    rw [e6, e7]; rfl
/-- What it means that pieces may be. -/
theorem grade_ok {l : List Pc} {len : Int} (h : gradeB l len = true) : 1 ≤ l.length ∧ l.length ≤ 64 ∧ (l.getD 0 pc0).1 = 0 ∧ (∀ i, i < l.length → -1048576 ≤ (l.getD i pc0).2 ∧ (l.getD i pc0).2 ≤ 1048576 ∧ (l.getD i pc0).1 < len) ∧
    (∀ i j, i < j → j < l.length → (l.getD i pc0).1 < (l.getD j pc0).1) := by
  unfold gradeB at h
  simp only [Bool.and_eq_true, decide_eq_true_eq, List.all_eq_true, List.mem_range] at h
  obtain ⟨⟨⟨h1, h2⟩, h3⟩, h4⟩ := h
  have h5 : ∀ i, i < l.length → (-1048576 ≤ (l.getD i pc0).2 ∧ (l.getD i pc0).2 ≤ 1048576 ∧ (l.getD i pc0).1 < len) ∧ (i = 0 ∨ (l.getD (i - 1) pc0).1 < (l.getD i pc0).1) := by
    intro i hi
    have := h4 i hi
    unfold pieceB at this
    simp only [Bool.and_eq_true, Bool.or_eq_true, decide_eq_true_eq] at this
    exact ⟨⟨this.1.1.1, this.1.1.2, this.1.2⟩, this.2⟩
  refine ⟨h1, h2, h3, fun i hi => (h5 i hi).1, fun i j hij hj => ?_⟩
  induction j with
  | zero => omega
  | succ j ih =>
    have a := (h5 (j + 1) hj).2
    rw [Nat.add_sub_cancel] at a
    by_cases hi : i = j
    · subst hi; omega
    · have := ih (by omega) (by omega); omega
/-- Does the i-th piece reach some places? -/
def reachI (l : List Pc) (lo hi : Int) (i : Nat) : Prop := (i = 0 ∨ (l.getD i pc0).1 ≤ hi) ∧ (l.length ≤ i + 1 ∨ lo ≤ (l.getD (i + 1) pc0).1)
instance (l : List Pc) (lo hi : Int) (i : Nat) : Decidable (reachI l lo hi i) := by unfold reachI; infer_instance
/-- These are the least and the greatest grade of the first n pieces that reach. -/
def Bnd (l : List Pc) (lo hi : Int) (n : Nat) (a b : Int) : Prop :=
  (∀ j, j < n → reachI l lo hi j → a ≤ (l.getD j pc0).2 ∧ (l.getD j pc0).2 ≤ b) ∧ (∃ j, j < n ∧ reachI l lo hi j ∧ (l.getD j pc0).2 = a) ∧ ∃ j, j < n ∧ reachI l lo hi j ∧ (l.getD j pc0).2 = b
theorem Bnd.unique {l : List Pc} {lo hi : Int} {n : Nat} {a b c d : Int} (h : Bnd l lo hi n a b) (k : Bnd l lo hi n c d) : a = c ∧ b = d := by
  obtain ⟨h1, ⟨j1, p1, p2, p3⟩, j2, q1, q2, q3⟩ := h
  obtain ⟨k1, ⟨i1, r1, r2, r3⟩, i2, s1, s2, s3⟩ := k
  have a1 := k1 j1 p1 p2
  have a2 := k1 j2 q1 q2
  have a3 := h1 i1 r1 r2
  have a4 := h1 i2 s1 s2
  omega
/-- Some piece reaches. -/
theorem reach_some {l : List Pc} {len lo hi : Int} (hg : gradeB l len = true) (h : lo ≤ hi) : ∃ j, j < l.length ∧ reachI l lo hi j := by
  obtain ⟨h1, h2, h3, h4, h5⟩ := grade_ok hg
  have key : ∀ n, n < l.length → (∃ j, j < l.length ∧ reachI l lo hi j) ∨ (n = 0 ∨ (l.getD n pc0).1 ≤ hi) := by
    intro n
    induction n with
    | zero => intro _; exact .inr (.inl rfl)
    | succ n ih =>
      intro hn
      rcases ih (by omega) with h | h
      · exact .inl h
      · by_cases hc : (l.getD (n + 1) pc0).1 ≤ hi
        · exact .inr (.inr hc)
        · exact .inl ⟨n, by omega, h, .inr (by omega)⟩
  rcases key (l.length - 1) (by omega) with h | h
  · exact h
  · exact ⟨l.length - 1, by omega, h, .inl (by omega)⟩
theorem f_Hull1 (a b g : Int) (h : a ≤ b) : F_span_Span_Hull (a, b) (g, g) = some (if g < a then g else a, if g > b then g else b) := by
  unfold F_span_Span_Hull F_span_Span_Right
  simp only [Option.bind_some, decide_eq_true h, decide_eq_true (Int.le_refl g), Bool.not_true, cond_false]
theorem f_Bounds (l : List Pc) (s : Int × Int) (hl : l.length ≤ 4611686018427387903) :
    ∃ a b f, F_grade_Bounds l s = some ((a, b), f) ∧ (f = true → s.1 ≤ s.2 ∧ Bnd l s.1 s.2 l.length a b) ∧ (f = false → a = 0 ∧ b = 0 ∧ (s.1 ≤ s.2 → ∀ j, j < l.length → ¬ reachI l s.1 s.2 j)) := by
  unfold F_grade_Bounds
  have := loopO_inv (X := Int × (Int × Bool)) (f := fun (s_3 : (Int × (Int × (Int × Bool)))) =>
      let b2_4 : Int := s_3.1
      let t14_5 : Int := s_3.2.1
      let b2_6 : Int := s_3.2.2.1
      let found_7 : Bool := s_3.2.2.2
      let t15_8 : Bool := (decide (t14_5 < (l.length : Int)))
      (bif t15_8 then
        Option.bind (
          chk none ((decide ((0 : Int) ≤ t14_5)) && (decide (t14_5 < (l.length : Int)))) <|
          let t18_9 : (Int × Int) := (l.getD t14_5.toNat ((0 : Int), (0 : Int)))
          let t20_10 : Bool := (decide ((0 : Int) < t14_5))
          let t26_11 : Bool := (decide (s.2 < t18_9.1))
          let t27_12 : Bool := (bif t20_10 then t26_11 else false)
          let t29_13 : Int := (IntKind.wrap .i64 (t14_5 + (1 : Int)))
          let t32_14 : Bool := (decide (t29_13 < (l.length : Int)))
          let t36_15 : Int := (IntKind.wrap .i64 (t14_5 + (1 : Int)))
          chk none (((decide ((0 : Int) ≤ t36_15)) && (decide (t36_15 < (l.length : Int)))) || !t32_14) <|
          let e_16 : (Int × Int) := (l.getD t36_15.toNat ((0 : Int), (0 : Int)))
          let t42_17 : Bool := (decide (e_16.1 < s.1))
          let t43_18 : Bool := (bif t32_14 then t42_17 else false)
          let t47_19 : Bool := (bif t27_12 then true else t43_18)
          (bif !t47_19 then F_span_Span_Right s else some false).bind fun t50_20 =>
          let t52_21 : Bool := (bif t47_19 then true else (!t50_20))
          (bif t52_21 then
            some (b2_4, b2_6, found_7)
          else
            Option.bind (
              (bif (!found_7) then
                (F_span_At t18_9.2).bind fun t57_22 =>
                some (true, t57_22.2, t57_22.1)
              else
                some (found_7, b2_4, b2_6))) fun r_23 =>
            let found_24 : Bool := r_23.1
            let b2_25 : Int := r_23.2.1
            let b2_26 : Int := r_23.2.2
            (F_span_At t18_9.2).bind fun t61_27 =>
            (F_span_Span_Hull (b2_26, b2_25) t61_27).bind fun t62_28 =>
            some (t62_28.2, t62_28.1, found_24))) fun r_29 =>
        let b2_30 : Int := r_29.1
        let b2_31 : Int := r_29.2.1
        let found_32 : Bool := r_29.2.2
        let t63_33 : Int := (IntKind.wrap .i64 (t14_5 + (1 : Int)))
        some (.inl (b2_30, t63_33, b2_31, found_32))
      else
        some (.inr (b2_4, b2_6, found_7)))) (fun t => ∃ i : Nat, t.2.1 = (i : Int) ∧ i ≤ l.length ∧ (t.2.2.2 = true → s.1 ≤ s.2 ∧ Bnd l s.1 s.2 i t.2.2.1 t.1) ∧ (t.2.2.2 = false → t.2.2.1 = 0 ∧ t.1 = 0 ∧ (s.1 ≤ s.2 → ∀ j, j < i → ¬ reachI l s.1 s.2 j)))
    (fun t => (l.length - t.2.1).toNat)
    (fun x => (x.2.2 = true → s.1 ≤ s.2 ∧ Bnd l s.1 s.2 l.length x.2.1 x.1) ∧ (x.2.2 = false → x.2.1 = 0 ∧ x.1 = 0 ∧ (s.1 ≤ s.2 → ∀ j, j < l.length → ¬ reachI l s.1 s.2 j))) ?_ (0, 0, 0, false) ⟨0, rfl, by omega, fun h => (by cases h), fun _ => ⟨rfl, rfl, fun _ j hj => by omega⟩⟩
  · obtain ⟨⟨b, a, f⟩, e, h1, h2⟩ := this
    rw [e]
    exact ⟨a, b, f, rfl, h1, h2⟩
  · rintro ⟨b, _, a, f⟩ ⟨i, rfl, h1, h2, h3⟩
    simp only at h2 h3
    by_cases hlt : i < l.length
    · right
      simp only []
      rw [decide_eq_true (show (i : Int) < l.length by omega), decide_eq_true (show (0 : Int) ≤ i by omega), Int.toNat_natCast, wrap_ok (n := (i : Int) + 1) (by omega)]
      simp only [Bool.and_self, chk_yes, cond_true]
      rw [chk_yes (by by_cases h : (i : Int) + 1 < l.length <;> simp [h]; omega)]
      have et : ((i : Int) + 1).toNat = i + 1 := by omega
      rw [et]
      have hdef : ∀ k, l.getD k ((0 : Int), (0 : Int)) = l.getD k pc0 := fun _ => rfl
      rw [hdef, hdef]
      have key : (bif (bif decide ((0 : Int) < i) then decide (s.2 < (l.getD i pc0).1) else false) then true else (bif decide ((i : Int) + 1 < l.length) then decide ((l.getD (i + 1) pc0).1 < s.1) else false)) = !decide (reachI l s.1 s.2 i) := by
        rw [Bool.eq_iff_iff]
        unfold reachI
        by_cases c1 : (0 : Int) < i <;> by_cases c2 : (i : Int) + 1 < l.length <;> simp [c1, c2] <;> omega
      rw [key]
      unfold F_span_Span_Right F_span_At
      by_cases hr : reachI l s.1 s.2 i
      · rw [decide_eq_true hr]
        simp only [Bool.not_true, Bool.not_false, cond_false, cond_true, Option.bind_some]
        by_cases hs : s.1 ≤ s.2
        · rw [decide_eq_true hs]
          simp only [Bool.not_true, cond_false]
          obtain ⟨g, hg⟩ : ∃ g, (l.getD i pc0).2 = g := ⟨_, rfl⟩
          rw [hg]
          cases f with
          | false =>
            simp only [Bool.not_false, cond_true, Option.bind_some]
            rw [f_Hull1 g g g (Int.le_refl g), Option.bind_some, if_neg (Int.lt_irrefl g), Option.bind_some]
            have h4 := (h3 rfl).2.2 hs
            refine ⟨_, rfl, ⟨i + 1, by simp, by omega, fun _ => ⟨hs, fun j hj hrj => ?_, ⟨i, by omega, hr, hg⟩, i, by omega, hr, hg⟩, fun h => (by cases h)⟩, by simp only; omega⟩
            rcases Nat.lt_succ_iff_lt_or_eq.1 hj with hj | rfl
            · exact absurd hrj (h4 j hj)
            · simp only; omega
          | true =>
            simp only [Bool.not_true, cond_false, Option.bind_some]
            obtain ⟨k1, ⟨j1, p1, p2, p3⟩, j2, q1, q2, q3⟩ := (h2 rfl).2
            have hab : a ≤ b := by have := k1 j1 p1 p2; omega
            rw [f_Hull1 a b g hab, Option.bind_some, Option.bind_some]
            refine ⟨_, rfl, ⟨i + 1, by simp, by omega, fun _ => ⟨hs, fun j hj hrj => ?_, ?_, ?_⟩, fun h => (by cases h)⟩, by simp only; omega⟩
            · rcases Nat.lt_succ_iff_lt_or_eq.1 hj with hj | rfl
              · have := k1 j hj hrj; simp only; split <;> split <;> omega
              · simp only; split <;> split <;> omega
            · simp only
              by_cases hc : g < a
              · rw [if_pos hc]; exact ⟨i, by omega, hr, hg⟩
              · rw [if_neg hc]; exact ⟨j1, by omega, p2, p3⟩
            · simp only
              by_cases hc : g > b
              · rw [if_pos hc]; exact ⟨i, by omega, hr, hg⟩
              · rw [if_neg hc]; exact ⟨j2, by omega, q2, q3⟩
        · rw [decide_eq_false hs]
          simp only [Bool.not_false, cond_true, Option.bind_some]
          refine ⟨_, rfl, ⟨i + 1, by simp, by omega, fun h => absurd (h2 h).1 hs, fun h => ⟨(h3 h).1, (h3 h).2.1, fun h => absurd h hs⟩⟩, by simp only; omega⟩
      · rw [decide_eq_false hr]
        simp only [Bool.not_true, Bool.not_false, cond_false, cond_true, Option.bind_some]
        refine ⟨_, rfl, ⟨i + 1, by simp, by omega, fun h => ⟨(h2 h).1, ?_⟩, fun h => ⟨(h3 h).1, (h3 h).2.1, fun h' j hj => ?_⟩⟩, by simp only; omega⟩
        · obtain ⟨k1, ⟨j1, p1, p2, p3⟩, j2, q1, q2, q3⟩ := (h2 h).2
          refine ⟨fun j hj hrj => k1 j (by rcases Nat.lt_succ_iff_lt_or_eq.1 hj with h | rfl; exact h; exact absurd hrj hr) hrj, ⟨j1, by omega, p2, p3⟩, j2, by omega, q2, q3⟩
        · rcases Nat.lt_succ_iff_lt_or_eq.1 hj with hj | rfl
          · exact (h3 h).2.2 h' j hj
          · exact hr
    · left
      have : i = l.length := by omega
      subst this
      simp only [decide_eq_false (Int.lt_irrefl (l.length : Int)), cond_false]
      exact ⟨_, rfl, h2, h3⟩
theorem f_Reaches (l : List Pc) (i : Nat) (lo hi : Int) (hl : l.length ≤ 4611686018427387903) (h : i < l.length) : F_ref10_Reaches l i lo hi = some (decide (reachI l lo hi i)) := by
  unfold F_ref10_Reaches
  rw [chk_yes (by simp; omega)]
  simp only []
  rw [wrap_ok (n := (i : Int) + 1) (by omega), chk_yes (by by_cases h : (l.length : Int) ≤ (i : Int) + 1 <;> simp [h]; omega), Int.toNat_natCast]
  have et : ((i : Int) + 1).toNat = i + 1 := by omega
  rw [et]
  have hdef : ∀ k, l.getD k ((0 : Int), (0 : Int)) = l.getD k pc0 := fun _ => rfl
  rw [hdef, hdef]
  have e : ∀ c d : Bool, (bif c then some false else some d) = some (!c && d) := by intro c d; cases c <;> rfl
  rw [e]
  refine congrArg some ?_
  rw [Bool.eq_iff_iff]
  unfold reachI
  by_cases c1 : (0 : Int) < i <;> by_cases c2 : (l.length : Int) ≤ (i : Int) + 1 <;> simp [c1, c2] <;> omega
theorem f_BoundsR (l : List Pc) (lo hi : Int) (hl : l.length ≤ 4611686018427387903) (hg : ∀ i, i < l.length → -1048576 ≤ (l.getD i pc0).2 ∧ (l.getD i pc0).2 ≤ 1048576) (hr : ∃ j, j < l.length ∧ reachI l lo hi j) :
    ∃ a b, F_ref10_Bounds l lo hi = some (a, b) ∧ Bnd l lo hi l.length a b := by
  unfold F_ref10_Bounds
  have := loopO_inv (X := Int × Int) (f := fun (s_4 : (Int × (Int × Int))) =>
      let least_5 : Int := s_4.1
      let i_6 : Int := s_4.2.1
      let most_7 : Int := s_4.2.2
      let t14_8 : Bool := (decide (i_6 < (l.length : Int)))
      (bif t14_8 then
        (F_ref10_Reaches l i_6 lo hi).bind fun t21_9 =>
        Option.bind (
          (bif t21_9 then
            chk none ((decide ((0 : Int) ≤ i_6)) && (decide (i_6 < (l.length : Int)))) <|
            let e_10 : (Int × Int) := (l.getD i_6.toNat ((0 : Int), (0 : Int)))
            let t28_11 : Bool := (decide (e_10.2 < least_5))
            Option.bind (
              (bif t28_11 then
                chk none ((decide ((0 : Int) ≤ i_6)) && (decide (i_6 < (l.length : Int)))) <|
                let e_12 : (Int × Int) := (l.getD i_6.toNat ((0 : Int), (0 : Int)))
                some e_12.2
              else
                some least_5)) fun r_13 =>
            chk none ((decide ((0 : Int) ≤ i_6)) && (decide (i_6 < (l.length : Int)))) <|
            let e_14 : (Int × Int) := (l.getD i_6.toNat ((0 : Int), (0 : Int)))
            let t40_15 : Bool := (decide (most_7 < e_14.2))
            Option.bind (
              (bif t40_15 then
                chk none ((decide ((0 : Int) ≤ i_6)) && (decide (i_6 < (l.length : Int)))) <|
                let e_16 : (Int × Int) := (l.getD i_6.toNat ((0 : Int), (0 : Int)))
                some e_16.2
              else
                some most_7)) fun r_17 =>
            some (r_13, r_17)
          else
            some (least_5, most_7))) fun r_18 =>
        let least_19 : Int := r_18.1
        let most_20 : Int := r_18.2
        let t16_21 : Int := (IntKind.wrap .i64 (i_6 + (1 : Int)))
        some (.inl (least_19, t16_21, most_20))
      else
        some (.inr (least_5, most_7)))) (fun t => ∃ i : Nat, t.2.1 = (i : Int) ∧ i ≤ l.length ∧ (Bnd l lo hi i t.1 t.2.2 ∨ (t.1 = 1048577 ∧ t.2.2 = -1048577 ∧ ∀ j, j < i → ¬ reachI l lo hi j)))
    (fun t => (l.length - t.2.1).toNat) (fun x => Bnd l lo hi l.length x.1 x.2) ?_ (1048577, 0, -1048577) ⟨0, rfl, by omega, .inr ⟨rfl, rfl, fun j hj => by omega⟩⟩
  · obtain ⟨⟨a, b⟩, e, h⟩ := this
    rw [e]
    exact ⟨a, b, rfl, h⟩
  · rintro ⟨a, _, b⟩ ⟨i, rfl, h1, h2⟩
    simp only at h2
    by_cases hlt : i < l.length
    · right
      simp only []
      rw [decide_eq_true (show (i : Int) < l.length by omega), f_Reaches l i lo hi hl hlt, decide_eq_true (show (0 : Int) ≤ i by omega), Int.toNat_natCast, wrap_ok (n := (i : Int) + 1) (by omega)]
      simp only [Bool.and_self, chk_yes, cond_true, Option.bind_some]
      have hdef : ∀ k, l.getD k ((0 : Int), (0 : Int)) = l.getD k pc0 := fun _ => rfl
      rw [hdef]
      obtain ⟨g, hgi⟩ : ∃ g, (l.getD i pc0).2 = g := ⟨_, rfl⟩
      have hgb := hg i hlt
      rw [hgi] at hgb ⊢
      by_cases hr : reachI l lo hi i
      · rw [decide_eq_true hr]
        simp only [cond_true]
        have em : ∀ (c : Prop) [Decidable c] (x y : Int), (bif decide c then some x else some y) = some (if c then x else y) := by
          intro c _ x y; by_cases h : c <;> simp [h]
        rw [em, em]
        simp only [Option.bind_some]
        refine ⟨_, rfl, ⟨i + 1, by simp, by omega, .inl ?_⟩, by simp only; omega⟩
        rcases h2 with ⟨k1, ⟨j1, p1, p2, p3⟩, j2, q1, q2, q3⟩ | ⟨rfl, rfl, h2⟩
        · refine ⟨fun j hj hrj => ?_, ?_, ?_⟩
          · rcases Nat.lt_succ_iff_lt_or_eq.1 hj with hj | rfl
            · have := k1 j hj hrj; simp only; split <;> split <;> omega
            · simp only; split <;> split <;> omega
          · simp only
            by_cases hc : g < a
            · rw [if_pos hc]; exact ⟨i, by omega, hr, hgi⟩
            · rw [if_neg hc]; exact ⟨j1, by omega, p2, p3⟩
          · simp only
            by_cases hc : b < g
            · rw [if_pos hc]; exact ⟨i, by omega, hr, hgi⟩
            · rw [if_neg hc]; exact ⟨j2, by omega, q2, q3⟩
        · rw [if_pos (show g < 1048577 by omega), if_pos (show (-1048577 : Int) < g by omega)]
          refine ⟨fun j hj hrj => ?_, ⟨i, by omega, hr, hgi⟩, i, by omega, hr, hgi⟩
          rcases Nat.lt_succ_iff_lt_or_eq.1 hj with hj | rfl
          · exact absurd hrj (h2 j hj)
          · simp only; omega
      · rw [decide_eq_false hr]
        simp only [cond_false, Option.bind_some]
        refine ⟨_, rfl, ⟨i + 1, by simp, by omega, ?_⟩, by simp only; omega⟩
        rcases h2 with ⟨k1, ⟨j1, p1, p2, p3⟩, j2, q1, q2, q3⟩ | ⟨h3, h4, h2⟩
        · refine .inl ⟨fun j hj hrj => k1 j (by rcases Nat.lt_succ_iff_lt_or_eq.1 hj with h | rfl; exact h; exact absurd hrj hr) hrj, ⟨j1, by omega, p2, p3⟩, j2, by omega, q2, q3⟩
        · refine .inr ⟨h3, h4, fun j hj => ?_⟩
          rcases Nat.lt_succ_iff_lt_or_eq.1 hj with hj | rfl
          · exact h2 j hj
          · exact hr
    · left
      have : i = l.length := by omega
      subst this
      simp only [decide_eq_false (Int.lt_irrefl (l.length : Int)), cond_false]
      refine ⟨_, rfl, ?_⟩
      rcases h2 with h2 | ⟨_, _, h2⟩
      · exact h2
      · obtain ⟨j, hj, hrj⟩ := hr
        exact absurd hrj (h2 j hj)
/-- How many pieces begin no later than at a place. -/
theorem f_search10 (l : List Pc) (at_ : Int) (hl : l.length ≤ 4611686018427387903) (hs : ∀ a b : Nat, a < b → b < l.length → (l.getD a pc0).1 < (l.getD b pc0).1) :
    ∃ r : Nat, ∃ q, F_slices_BinarySearchFunc_grade_Piece_grade_Piece_int64 l at_ = some ((r : Int), q) ∧ r ≤ l.length ∧
      (∀ k, k < r → (l.getD k pc0).1 ≤ at_) ∧ ∀ k, r ≤ k → k < l.length → at_ < (l.getD k pc0).1 := by
  have hc : ∀ g : Pc, F_grade_At_1 g at_ = some (bif decide (g.1 ≤ at_) then -1 else 1) := by
    intro g
    unfold F_grade_At_1
    cases decide (g.1 ≤ at_) <;> rfl
  have hb := bsearch (f := fun (s_3 : (Int × Int)) =>
      let j_4 : Int := s_3.1
      let i_5 : Int := s_3.2
      (bif (decide (i_5 < j_4)) then
        let t20_6 : Int := (IntKind.wrap .i64 (i_5 + j_4))
        let t21_7 : Int := (IntKind.wrap .u64 t20_6)
        let t23_8 : Int := (IntKind.wrap .i64 (t21_7.fdiv (2 ^ 1)))
        chk none ((decide ((0 : Int) ≤ t23_8)) && (decide (t23_8 < (l.length : Int)))) <|
        let t28_9 : (Int × Int) := (l.getD t23_8.toNat ((0 : Int), (0 : Int)))
        (F_grade_At_1 t28_9 at_).bind fun t30_10 =>
        let t31_11 : Bool := (decide (t30_10 < (0 : Int)))
        Option.bind (
          (bif t31_11 then
            let t33_12 : Int := (IntKind.wrap .i64 (t23_8 + (1 : Int)))
            some (t33_12, j_4)
          else
            some (i_5, t23_8))) fun r_13 =>
        let i_14 : Int := r_13.1
        let j_15 : Int := r_13.2
        some (.inl (j_15, i_14))
      else
        some (.inr i_5))) l.length (fun k => decide ((l.getD k pc0).1 ≤ at_)) ?_ ?_ ?_
  · obtain ⟨r, e, h1, h2, h3⟩ := hb
    suffices ∃ q, F_slices_BinarySearchFunc_grade_Piece_grade_Piece_int64 l at_ = some ((r : Int), q) by
      obtain ⟨q, hq⟩ := this
      refine ⟨r, q, hq, h1, fun k hk => of_decide_eq_true (h2 k hk), fun k q1 q2 => ?_⟩
      have := h3 k q1 q2
      rw [decide_eq_false_iff_not] at this
      omega
    unfold F_slices_BinarySearchFunc_grade_Piece_grade_Piece_int64
    rw [e, Option.bind_some]
    by_cases hr : r < l.length
    · have e1 : decide ((r : Int) < l.length) = true := by simp; omega
      have e2 : decide ((0 : Int) ≤ r) = true := by simp
      simp only [e1, e2, Bool.and_self, Bool.true_or, chk_yes, cond_true, Int.toNat_natCast, hc, Option.bind_some]
      exact ⟨_, rfl⟩
    · have e1 : decide ((r : Int) < l.length) = false := by simp; omega
      simp only [e1, Bool.and_false, Bool.not_false, Bool.or_true, chk_yes, cond_false, Option.bind_some]
      exact ⟨_, rfl⟩
  · intro i j hij hj
    have e0 : decide ((i : Int) < j) = true := by simp; omega
    simp only [e0, cond_true, half_nat i j (by omega)]
    have e1 : decide ((0 : Int) ≤ (((i + j) / 2 : Nat) : Int)) = true := decide_eq_true (Int.natCast_nonneg _)
    have e2 : decide ((((i + j) / 2 : Nat) : Int) < l.length) = true := by simp; omega
    simp only [e1, e2, Bool.and_self, chk_yes, Int.toNat_natCast, hc, Option.bind_some]
    show _ = some (Sum.inl (bif decide ((l.getD ((i + j) / 2) ((0 : Int), (0 : Int))).1 ≤ at_) then _ else _))
    cases decide ((l.getD ((i + j) / 2) ((0 : Int), (0 : Int))).1 ≤ at_)
    · rfl
    · simp only [cond_true, Option.bind_some]
      rw [wrap_ok (by omega)]
      rfl
  · intro i j hij
    have e0 : decide ((i : Int) < j) = false := by simp; omega
    simp only [e0, cond_false]
  · intro a b hab hb h
    rw [decide_eq_true_eq] at h ⊢
    rcases Nat.lt_or_eq_of_le hab with hab | rfl
    · have := hs a b hab hb
      omega
    · exact h
/-- The grade at a place: of the last piece that begins no later (or of the first one). -/
def AtP (l : List Pc) (at_ : Int) (j : Nat) : Prop := j < l.length ∧ (∀ k, k < j + 1 → k = 0 ∨ (l.getD k pc0).1 ≤ at_) ∧ ∀ k, j < k → k < l.length → at_ < (l.getD k pc0).1
theorem f_At10 (l : List Pc) (at_ len : Int) (hg : gradeB l len = true) : ∃ j, AtP l at_ j ∧ F_grade_At l at_ = some (l.getD j pc0).2 := by
  obtain ⟨h1, h2, h3, h4, h5⟩ := grade_ok hg
  obtain ⟨r, q, e, hr, h6, h7⟩ := f_search10 l at_ (by omega) h5
  refine ⟨r - 1, ⟨by omega, fun k hk => ?_, fun k q1 q2 => h7 k (by omega) q2⟩, ?_⟩
  · by_cases h : k = 0
    · exact .inl h
    · exact .inr (h6 k (by omega))
  · unfold F_grade_At
    rw [e, Option.bind_some]
    simp only []
    rw [wrap_ok (n := (r : Int) - 1) (by omega)]
    have em : (if (0 : Int) > (r : Int) - 1 then (0 : Int) else (r : Int) - 1) = ((r - 1 : Nat) : Int) := by split <;> omega
    rw [em, decide_eq_true (show (((r - 1 : Nat)) : Int) < l.length by omega), decide_eq_true (show (0 : Int) ≤ ((r - 1 : Nat) : Int) by omega), Int.toNat_natCast]
    rfl
theorem f_AtR (l : List Pc) (at_ len : Int) (hg : gradeB l len = true) (j : Nat) (hj : AtP l at_ j) : F_ref10_At l at_ = some (l.getD j pc0).2 := by
  obtain ⟨h1, h2, h3, h4, h5⟩ := grade_ok hg
  obtain ⟨j1, j2, j3⟩ := hj
  unfold F_ref10_At
  rw [decide_eq_true (show (0 : Int) < l.length by omega)]
  simp only [Bool.and_self, chk_yes]
  have e0 : ((l.getD (0 : Int).toNat ((0 : Int), (0 : Int))).2, (0 : Int)) = ((l.getD (min 0 (j + 1) - 1) pc0).2, ((0 : Nat) : Int)) := by simp; rfl
  rw [e0, loop_run (n := l.length) (st := fun i => ((l.getD (min i (j + 1) - 1) pc0).2, (i : Int))) (x := (l.getD j pc0).2)]
  · rfl
  · intro i hi
    simp only []
    rw [decide_eq_true (show (i : Int) < l.length by omega), decide_eq_true (show (0 : Int) ≤ i by omega), Int.toNat_natCast, wrap_ok (n := (i : Int) + 1) (by omega)]
    simp only [Bool.and_self, chk_yes, cond_true]
    have hdef : ∀ k, l.getD k ((0 : Int), (0 : Int)) = l.getD k pc0 := fun _ => rfl
    rw [hdef]
    by_cases hij : i ≤ j
    · rcases j2 i (by omega) with rfl | h
      · have em : min (0 + 1) (j + 1) - 1 = 0 := by omega
        have em2 : min 0 (j + 1) - 1 = 0 := by omega
        rw [em, em2]
        cases decide ((l.getD 0 pc0).1 ≤ at_) <;> rfl
      · rw [decide_eq_true h]
        have em : min (i + 1) (j + 1) - 1 = i := by omega
        rw [em]
        rfl
    · rw [decide_eq_false (show ¬ (l.getD i pc0).1 ≤ at_ by have := j3 i (by omega) hi; omega)]
      have em : min (i + 1) (j + 1) = min i (j + 1) := by omega
      rw [em]
      rfl
  · simp only [decide_eq_false (Int.lt_irrefl (l.length : Int)), cond_false]
    have em : min l.length (j + 1) - 1 = j := by omega
    rw [em]
theorem f_anchor10 : F_law10_anchor () = some true := by
  unfold F_law10_anchor
  simp only []
  have hg : gradeB [((0 : Int), (5 : Int)), ((10 : Int), (-3 : Int))] 11 = true := by decide
  obtain ⟨a, b, f, e, h1, h2⟩ := f_Bounds ([((0 : Int), (5 : Int)), ((10 : Int), (-3 : Int))] : List (Int × Int)) (10, 12) (by decide)
  obtain ⟨j, hj, e2⟩ := f_At10 ([((0 : Int), (5 : Int)), ((10 : Int), (-3 : Int))] : List (Int × Int)) 10 11 hg
  have hj1 : j = 1 := by
    have hl := hj.1
    have hl : j < 2 := hl
    have := hj.2.2 1
    by_cases h : j = 0
    · subst h
      exact absurd (this (by omega) (by decide)) (by decide)
    · omega
  subst hj1
  rw [e, Option.bind_some, f_gradeCheck _ _ (by decide), hg, Option.bind_some]
  simp only [cond_true]
  rw [e2]
  cases f with
  | false =>
    exact absurd (show reachI [((0 : Int), (5 : Int)), ((10 : Int), (-3 : Int))] 10 12 0 by decide) ((h2 rfl).2.2 (by decide) 0 (by decide))
  | true =>
    have hb : Bnd ([((0 : Int), (5 : Int)), ((10 : Int), (-3 : Int))] : List (Int × Int)) 10 12 2 (-3) 5 := by
      refine ⟨fun j hj _ => ?_, ⟨1, by decide, by decide, by decide⟩, 0, by decide, by decide, by decide⟩
      have : j = 0 ∨ j = 1 := by omega
      rcases this with rfl | rfl <;> decide
    obtain ⟨rfl, rfl⟩ := (h1 rfl).2.unique hb
    decide
theorem f_GradeChecks (l : List Pc) (len : Int) (h : l.length ≤ 140737488351232) : F_law10_GradeChecks l len = some true := by
  unfold F_law10_GradeChecks
  rw [f_anchor10, Option.bind_some]
  simp only [Bool.not_true, cond_false]
  by_cases h2 : (200 : Int) < l.length
  · rw [decide_eq_true h2]; rfl
  rw [decide_eq_false h2, f_gradeCheck l len (by omega), f_refs10 l (by omega)]
  simp only [Option.bind_some, cond_false]
  rw [f_May l len (by omega), Option.bind_some]
  cases gradeB l len <;> rfl
theorem f_GradeBounds (l : List Pc) (s : Int × Int) (h : l.length ≤ 140737488351232) : F_law10_GradeBounds l s = some true := by
  unfold F_law10_GradeBounds
  rw [f_anchor10, Option.bind_some]
  simp only [Bool.not_true, cond_false]
  by_cases h2 : (200 : Int) < l.length
  · rw [decide_eq_true h2]; rfl
  rw [decide_eq_false h2, f_refs10 l (by omega)]
  simp only [Option.bind_some, cond_false, cond_true, Bool.not_false]
  rw [f_May l _ (by omega), Option.bind_some]
  cases hg : gradeB l 9223372036854775807 with
  | false => rfl
  | true =>
    obtain ⟨a, b, f, e, k1, k2⟩ := f_Bounds l s (by omega)
    simp only [Bool.not_true, cond_false]
    rw [e, Option.bind_some]
    by_cases hs : s.2 < s.1
    · rw [decide_eq_true hs]
      cases f with
      | true => have := (k1 rfl).1; omega
      | false => obtain ⟨rfl, rfl, _⟩ := k2 rfl; rfl
    · rw [decide_eq_false hs]
      obtain ⟨g1, g2, g3, g4, g5⟩ := grade_ok hg
      have hr := reach_some hg (show s.1 ≤ s.2 by omega)
      obtain ⟨c, d, e2, k3⟩ := f_BoundsR l s.1 s.2 (by omega) (fun i hi => ⟨(g4 i hi).1, (g4 i hi).2.1⟩) hr
      simp only [cond_false]
      rw [e2, Option.bind_some]
      cases f with
      | false => obtain ⟨j, q1, q2⟩ := hr; exact absurd q2 ((k2 rfl).2.2 (by omega) j q1)
      | true =>
        obtain ⟨rfl, rfl⟩ := (k1 rfl).2.unique k3
        simp
theorem f_Has1 (a b x : Int) : F_span_Span_Has (a, b) x = some (decide (a ≤ x) && decide (x ≤ b)) := by
  unfold F_span_Span_Has
  cases decide (a ≤ x) <;> rfl
theorem at_reach {l : List Pc} {x lo hi : Int} {j : Nat} (h : AtP l x j) (h1 : lo ≤ x) (h2 : x ≤ hi) : reachI l lo hi j := by
  obtain ⟨j1, j2, j3⟩ := h
  refine ⟨?_, ?_⟩
  · rcases j2 j (by omega) with h | h
    · exact .inl h
    · exact .inr (by omega)
  · by_cases hj : l.length ≤ j + 1
    · exact .inl hj
    · have := j3 (j + 1) (by omega) (by omega); exact .inr (by omega)
theorem f_GradeAt (l : List Pc) (x : Int) (s : Int × Int) (h : l.length ≤ 140737488351232) : F_law10_GradeAt l x s = some true := by
  unfold F_law10_GradeAt
  rw [f_anchor10, Option.bind_some]
  simp only [Bool.not_true, cond_false]
  by_cases h2 : (200 : Int) < l.length
  · rw [decide_eq_true h2]; rfl
  rw [decide_eq_false h2, f_refs10 l (by omega)]
  simp only [Option.bind_some, cond_false, cond_true, Bool.not_false]
  rw [f_May l _ (by omega), Option.bind_some]
  cases hg : gradeB l 9223372036854775807 with
  | false => rfl
  | true =>
    obtain ⟨a, b, f, e, k1, k2⟩ := f_Bounds l s (by omega)
    obtain ⟨j, hj, e2⟩ := f_At10 l x _ hg
    simp only [Bool.not_true, cond_false]
    rw [e, e2, f_AtR l x _ hg j hj]
    have hsx : F_span_Span_Has s x = some (decide (s.1 ≤ x) && decide (x ≤ s.2)) := f_Has1 s.1 s.2 x
    simp only [Option.bind_some, beq_self_eq_true, cond_true, f_Has1, hsx]
    by_cases hx : s.1 ≤ x ∧ x ≤ s.2
    · have hr := at_reach hj hx.1 hx.2
      rw [decide_eq_true hx.1, decide_eq_true hx.2]
      cases f with
      | false => exact absurd hr ((k2 rfl).2.2 (by omega) j hj.1)
      | true =>
        have := (k1 rfl).2.1 j hj.1 hr
        rw [decide_eq_true this.1, decide_eq_true this.2]
        rfl
    · have : (decide (s.1 ≤ x) && decide (x ≤ s.2)) = false := by
        rw [Bool.eq_false_iff]; simp; omega
      rw [this]
      cases f <;> rfl
theorem f_GradeWiden (l : List Pc) (s t : Int × Int) (x : Int) (h : l.length ≤ 140737488351232) : F_law10_GradeWiden l s t x = some true := by
  unfold F_law10_GradeWiden
  rw [f_anchor10, Option.bind_some]
  simp only [Bool.not_true, cond_false]
  by_cases h2 : (200 : Int) < l.length
  · rw [decide_eq_true h2]; rfl
  rw [decide_eq_false h2, f_refs10 l (by omega)]
  simp only [Option.bind_some, cond_false, cond_true, Bool.not_false]
  rw [f_May l _ (by omega), Option.bind_some]
  cases hg : gradeB l 9223372036854775807 with
  | false => rfl
  | true =>
    obtain ⟨a, b, f, e, k1, k2⟩ := f_Bounds l s (by omega)
    obtain ⟨c, d, f', e', k3, k4⟩ := f_Bounds l t (by omega)
    obtain ⟨u, v, w, e3, k5, k6⟩ := f_Bounds l (x, x) (by omega)
    obtain ⟨j, hj, e2⟩ := f_At10 l x _ hg
    simp only [Bool.not_true, cond_false]
    unfold F_span_At
    rw [e, e', e2]
    simp only [Option.bind_some]
    rw [e3]
    simp only [Option.bind_some, f_Has1]
    have hr := at_reach hj (Int.le_refl x) (Int.le_refl x)
    cases w with
    | false => exact absurd hr ((k6 rfl).2.2 (by simp) j hj.1)
    | true =>
      have hb := (k5 rfl).2.1 j hj.1 hr
      simp only [cond_true, Option.bind_some, decide_eq_true hb.1, decide_eq_true hb.2, Bool.and_self]
      suffices hh : (bif (bif (bif decide (s.1 ≤ s.2) then decide (t.1 ≤ s.1) else false) then decide (s.2 ≤ t.2) else false) then (bif (bif (bif (!f) then true else (!f')) then true else decide (a < c)) then true else decide (d < b)) else false) = false by
        rw [hh]; rfl
      by_cases hs : s.1 ≤ s.2
      · by_cases ht : t.1 ≤ s.1
        · by_cases hst : s.2 ≤ t.2
          · rw [decide_eq_true hs, decide_eq_true ht, decide_eq_true hst]
            obtain ⟨i, q1, q2⟩ := reach_some hg hs
            have mono : ∀ i, reachI l s.1 s.2 i → reachI l t.1 t.2 i := by
              rintro i ⟨h1, h2⟩
              exact ⟨by omega, by omega⟩
            cases f with
            | false => exact absurd q2 ((k2 rfl).2.2 hs i q1)
            | true =>
              cases f' with
              | false => exact absurd (mono i q2) ((k4 rfl).2.2 (by omega) i q1)
              | true =>
                obtain ⟨_, ⟨j1, p1, p2, p3⟩, j2, r1, r2, r3⟩ := (k1 rfl).2
                have z1 := (k3 rfl).2.1 j1 p1 (mono _ p2)
                have z2 := (k3 rfl).2.1 j2 r1 (mono _ r2)
                simp only [cond_true, Bool.not_true, cond_false]
                rw [decide_eq_false (show ¬ a < c by omega), decide_eq_false (show ¬ d < b by omega)]
                rfl
          · rw [decide_eq_false hst]; simp
        · rw [decide_eq_false ht]; simp
      · rw [decide_eq_false hs]; simp
end Go.Proofs.Ytckghclpdfbigaa
