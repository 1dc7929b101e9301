/- Tracks as the document has them: what their readings say. -/
import Derived.Test.YtlkcanjbgaeceaaGreatTrackF
set_option linter.unusedSimpArgs false
set_option linter.unusedVariables false
namespace Go.Proofs.YtlkcanjbgaeceaaGreat
open Go.RowKit
theorem loop_run {S X : Type} {f : S → Option (S ⊕ X)} (n : Nat) (st : Nat → S) (x : X) (h : ∀ i, i < n → f (st i) = some (.inl (st (i + 1)))) (he : f (st n) = some (.inr x)) : loopO f (st 0) = some x := by
  have key : ∀ k j : Nat, j + k = n → loopN f (k + 1) (st j) = some x := by
    intro k
    induction k with
    | zero => intro j hj; obtain rfl : j = n := by omega
              rw [loopN, he]
    | succ k ih => intro j hj; rw [loopN, h j (by omega)]; exact ih (j + 1) (by omega)
  exact loopO_of (key n 0 (by omega))
theorem take_succ_getD {α : Type} {l : List α} {i : Nat} {d : α} (h : i < l.length) : l.take i ++ [l.getD i d] = l.take (i + 1) := by
  rw [getD_lt h, List.take_add_one, List.getElem?_eq_getElem h]; rfl
theorem f_May (l : List (Int × Int)) (len : Int) (hl : l.length ≤ 9223372036854775806) : F_ref10_May l len = some (gradeB l len) := by
  unfold F_ref10_May gradeB
  by_cases h0 : l.length = 0
  · simp [h0, chk]
  by_cases h1 : 64 < l.length
  · have e1 : decide ((l.length : Int) < 1) = false := by simp; omega
    have e2 : decide ((64 : Int) < l.length) = true := by simp; omega
    have e4 : decide (l.length ≤ 64) = false := by simp; omega
    simp [e1, e2, e4, chk]
  have e1 : decide ((l.length : Int) < 1) = false := by simp; omega
  have e2 : decide ((64 : Int) < l.length) = false := by simp; omega
  have e3 : decide ((0 : Int) < l.length) = true := by simp; omega
  have e4 : decide (l.length ≤ 64) = true := by simp; omega
  have e5 : decide (1 ≤ l.length) = true := by simp; omega
  rw [e1, e2, e3, e4, e5]
  simp only [cond_false, Bool.true_and, Bool.and_self, Bool.true_or, chk_yes]
  by_cases h2 : (l.getD 0 (0, 0)).1 = 0
  · have e6 : ((l.getD (0 : Int).toNat ((0 : Int), (0 : Int))).1 != 0) = false := by simpa using h2
    have e7 : decide ((l.getD 0 ((0 : Int), (0 : Int))).1 = 0) = true := by simpa using h2
    rw [e6, e7]
    simp only [cond_false, Bool.true_and]
    rw [loop_find l.length (fun i => bif pieceB l len i then none else some (.inl false)) (.inr ())]
    · rw [all_find]
      cases (List.range l.length).all (pieceB l len) <;> rfl
    · intro i hi
      rw [decide_eq_true (show (i : Int) < l.length by omega), decide_eq_true (show (0 : Int) ≤ i by omega)]
      simp only [cond_true, Bool.and_self, Bool.true_or, chk_yes]
      rw [Int.toNat_natCast]
      have ew : IntKind.i64.wrap ((i : Int) - 1) = i - 1 := wrap_ok (by omega)
      have ew2 : IntKind.i64.wrap ((i : Int) + 1) = i + 1 := wrap_ok (by omega)
      rw [ew, ew2]
      have fin : ∀ a b c d e : Bool, e = (!a && !b && !c && !d) → (bif (bif (bif a then true else b) then true else c) then some (Sum.inr (Sum.inl false)) else (bif d then some (Sum.inr (Sum.inl false)) else some (Sum.inl ((i : Int) + 1)))) = some (stepOut ((i : Int) + 1) (bif e then none else some (Sum.inl false) : Option (Bool ⊕ Unit))) := by
        rintro a b c d e rfl; cases a <;> cases b <;> cases c <;> cases d <;> rfl
      by_cases hi0 : i = 0
      · rw [chk_yes (by simp [hi0])]
        refine fin _ _ _ _ _ ?_
        unfold pieceB
        rw [decide_eq_true hi0, show decide ((0 : Int) < (i : Int)) = false by simp [hi0], @not_lt_dec (-1048576) (l.getD i (0, 0)).2, @not_lt_dec (l.getD i (0, 0)).2 1048576, @not_le_dec (l.getD i (0, 0)).1 len]
        rfl
      · have et : ((i : Int) - 1).toNat = i - 1 := by omega
        rw [chk_yes (by simp; omega), et]
        refine fin _ _ _ _ _ ?_
        unfold pieceB
        rw [decide_eq_false hi0, show decide ((0 : Int) < (i : Int)) = true by simp; omega, @not_lt_dec (-1048576) (l.getD i (0, 0)).2, @not_lt_dec (l.getD i (0, 0)).2 1048576, @not_le_dec (l.getD i (0, 0)).1 len, @not_le_dec (l.getD (i - 1) (0, 0)).1 (l.getD i (0, 0)).1]
        rfl
    · simp
  · have e6 : ((l.getD (0 : Int).toNat ((0 : Int), (0 : Int))).1 != 0) = true := by simpa using h2
    have e7 : decide ((l.getD 0 ((0 : Int), (0 : Int))).1 = 0) = false := by simpa using h2
    rw [e6, e7]; rfl
theorem loop_find_st {S X : Type} {f : S → Option (S ⊕ X)} (n : Nat) (st : Nat → S) (step : Nat → Option X) (xe : X) {s0 : S} (h0 : st 0 = s0)
    (h : ∀ i : Nat, i < n → (∀ j, j < i → step j = none) → f (st i) = some (match step i with | some x => .inr x | none => .inl (st (i + 1)))) (he : f (st n) = some (.inr xe)) :
    loopO f s0 = some (((List.range n).findSome? step).getD xe) := by
  subst h0
  have key : ∀ (k j : Nat), j + k = n → (∀ i, i < j → step i = none) → loopN f (k + 1) (st j) = some (((List.range' j k).findSome? step).getD xe) := by
    intro k
    induction k with
    | zero =>
      intro j hj _
      have : j = n := by omega
      subst this
      simp [loopN, he]
    | succ k ih =>
      intro j hj hn
      rw [loopN, h j (by omega) hn, range'_findSome_cons]
      cases hs : step j with
      | some x => rfl
      | none =>
        have := ih (j + 1) (by omega) (fun i hi => by rcases Nat.lt_succ_iff_lt_or_eq.1 hi with hi | rfl; exact hn i hi; exact hs)
        rw [← this]
  have := loopO_of (key n 0 (by omega) (fun i hi => by omega))
  rw [List.range_eq_range']
  exact this
theorem f_segmentR (s : Sg) (n : Nat) (h2 : s.2.1.length ≤ big) : F_ref11_segment s (n : Int) = some (segB n s) := by
  unfold big at *
  unfold F_ref11_segment segB
  rw [f_May _ _ h2, @not_lt_dec 1 s.1, @not_lt_dec s.1 1099511627776]
  simp only []
  cases decide (s.1 < 1) <;> cases decide (1099511627776 < s.1) <;> cases hg : gradeB s.2.1 s.1 <;> first | rfl | skip
  by_cases h4 : 2 < (s.2.2.length : Int)
  · have e : decide (s.2.2.length ≤ 2) = false := by simp; omega
    rw [decide_eq_true h4, e]; rfl
  · have e : decide (s.2.2.length ≤ 2) = true := by simp; omega
    rw [decide_eq_false h4, e]
    simp only [cond_false, cond_true, Bool.not_false, Option.bind_some, Bool.true_and, bne_self_eq_false, Bool.not_true, Bool.and_self]
    rw [loop_find s.2.2.length (fun i => bif (decide (0 ≤ s.2.2.getD i 0) && decide (s.2.2.getD i 0 < n)) then none else some (.inl false)) (.inr ())]
    · rw [all_find]
      generalize hl : s.2.2 = l at *
      match l, h4 with
      | [], _ => rfl
      | [a], _ =>
        simp [wayB, List.range_succ]
        cases hb : (decide (0 ≤ a) && decide (a < (n : Int))) <;> rfl
      | [a, b], _ =>
        simp [wayB, List.range_succ, chk]
        cases hb : (decide (0 ≤ a) && decide (a < (n : Int))) <;> cases hc : (decide (0 ≤ b) && decide (b < (n : Int))) <;> cases hd : decide (a < b) <;> rfl
      | a :: b :: c :: l, h4 => simp at h4; omega
    · intro i hi
      have ew2 : IntKind.i64.wrap ((i : Int) + 1) = i + 1 := wrap_ok (by omega)
      rw [decide_eq_true (show (i : Int) < s.2.2.length by omega), decide_eq_true (show (0 : Int) ≤ i by omega), ew2, Int.toNat_natCast]
      simp only [cond_true, Bool.and_self, Bool.true_or, chk_yes]
      rw [@not_lt_dec 0 (s.2.2.getD i 0), @not_le_dec (s.2.2.getD i 0) n]
      cases decide (s.2.2.getD i 0 < 0) <;> cases decide ((n : Int) ≤ s.2.2.getD i 0) <;> rfl
    · simp
def lastI (t : Tk) (i : Nat) : Int := if i = 0 then 0 else (t.2.getD (i - 1) gp0).1
theorem f_CheckR (t : Tk) (h : t.1.length ≤ 200 → ∀ s ∈ t.1, s.2.1.length ≤ big ∧ s.2.2.length ≤ big) : F_ref11_Check t = some (checkI t) := by
  unfold F_ref11_Check checkI
  by_cases h1 : t.1.length = 0
  · rw [if_pos (.inl h1)]; simp [h1]
  by_cases h2 : 200 < t.1.length
  · rw [if_pos (.inr (.inl h2)), decide_eq_true (show (200 : Int) < t.1.length by omega)]; simp
  by_cases h3 : 400 < t.2.length
  · rw [if_pos (.inr (.inr h3)), decide_eq_true (show (400 : Int) < t.2.length by omega)]; simp
  rw [if_neg (by omega), decide_eq_false (show ¬ (t.1.length : Int) < 1 by omega), decide_eq_false (show ¬ (200 : Int) < t.1.length by omega), decide_eq_false (show ¬ (400 : Int) < t.2.length by omega)]
  simp only [cond_false]
  rw [loop_find t.1.length (fun i => bif segB t.1.length (t.1.getD i sg0) then none else some (.inl ((i : Int), 11))) (.inr ())]
  · rw [findSome_map (α := Unit)]
    cases h4 : firstN (fun i => segB t.1.length (t.1.getD i sg0)) t.1.length with
    | some i => rfl
    | none =>
      simp only [Option.map_none, Option.getD_none, Option.bind_some]
      rw [loop_find_st (X := (Int × Int) ⊕ Unit) t.2.length (fun i => (lastI t i, (i : Int))) (fun i => bif grpB t i (t.2.getD i gp0) then none else some (Sum.inl (16, (i : Int)))) (Sum.inr () : (Int × Int) ⊕ Unit) (show (lastI t 0, ((0 : Nat) : Int)) = ((0 : Int), (0 : Int)) from rfl)]
      · rw [findSome_map (α := Unit)]
        cases h5 : firstN (fun i => grpB t i (t.2.getD i gp0)) t.2.length <;> rfl
      · intro i hi hprev
        simp only []
        rw [decide_eq_true (show (i : Int) < t.2.length by omega), decide_eq_true (show (0 : Int) ≤ i by omega), Int.toNat_natCast, wrap_ok (n := (i : Int) + 1) (by omega)]
        have hdef : t.2.getD i ((0 : Int), ((0 : Int), ((0 : Int), ((0 : Int), (0 : Int))))) = t.2.getD i gp0 := rfl
        rw [hdef]
        simp only [cond_true, Bool.and_self, chk_yes]
        have hl : lastI t (i + 1) = (t.2.getD i gp0).1 := by unfold lastI; rw [if_neg (by omega)]; rfl
        obtain ⟨g, hg⟩ : ∃ g, t.2.getD i gp0 = g := ⟨_, rfl⟩
        rw [hl, hg]
        have hlast : 0 ≤ lastI t i := by
          unfold lastI
          by_cases h0 : i = 0
          · rw [if_pos h0]; omega
          · rw [if_neg h0]
            have := hprev (i - 1) (by omega)
            cases hb : grpB t (i - 1) (t.2.getD (i - 1) gp0) with
            | false => rw [hb] at this; cases this
            | true =>
              unfold grpB at hb
              simp only [Bool.and_eq_true, decide_eq_true_eq] at hb
              omega
        have h11 : decide (g.1 ≤ lastI t i) = !(decide (1 ≤ g.1) && (decide (i = 0) || decide ((t.2.getD (i - 1) gp0).1 < g.1))) := by
          rw [Bool.eq_iff_iff]
          unfold lastI at hlast ⊢
          by_cases h0 : i = 0
          · simp [h0]; omega
          · simp [h0] at hlast ⊢; omega
        rw [h11]
        unfold grpB
        rw [@not_lt_dec g.1 65535, @not_lt_dec 0 g.2.1, @not_le_dec g.2.1 t.1.length, @not_lt_dec 0 g.2.2.1, @not_lt_dec g.2.2.1 _, @not_lt_dec 0 g.2.2.2.1, @not_lt_dec g.2.2.2.1 1048576, @not_lt_dec 0 g.2.2.2.2, @not_lt_dec g.2.2.2.2 16777216]
        have hseg : ∀ s, t.1.getD s ((0 : Int), ([], [])) = t.1.getD s sg0 := fun _ => rfl
        rw [hseg]
        cases decide (1 ≤ g.1) <;> first | rfl | skip
        · cases hq : (decide (i = 0) || decide ((t.2.getD (i - 1) gp0).1 < g.1)) with
          | false => cases decide (65535 < g.1) <;> rfl
          | true =>
            cases decide (65535 < g.1) <;> first | rfl | skip
            cases a3 : decide (g.2.1 < 0) <;> first | rfl | skip
            cases a4 : decide ((t.1.length : Int) ≤ g.2.1) <;> first | rfl | skip
            simp only [Bool.and_self, Bool.true_or, chk_yes, cond_false, cond_true, Bool.not_true, Bool.not_false, Bool.true_and]
            cases decide (g.2.2.1 < 0) <;> cases decide ((t.1.getD g.2.1.toNat sg0).1 < g.2.2.1) <;> cases decide (g.2.2.2.1 < 0) <;> cases decide (1048576 < g.2.2.2.1) <;> cases decide (g.2.2.2.2 < 0) <;> cases decide (16777216 < g.2.2.2.2) <;> rfl
      · simp
  · intro i hi
    rw [decide_eq_true (show (i : Int) < t.1.length by omega), decide_eq_true (show (0 : Int) ≤ i by omega), Int.toNat_natCast, wrap_ok (n := (i : Int) + 1) (by omega)]
    have hdef : t.1.getD i ((0 : Int), ([], [])) = t.1.getD i sg0 := rfl
    rw [hdef]
    simp only [cond_true, Bool.and_self, chk_yes]
    have hm : t.1.getD i sg0 ∈ t.1 := by rw [getD_lt hi]; exact List.getElem_mem hi
    rw [f_segmentR _ _ (h (by omega) _ hm).1, Option.bind_some]
    cases segB t.1.length (t.1.getD i sg0) <;> rfl
  · simp
end Go.Proofs.YtlkcanjbgaeceaaGreat
