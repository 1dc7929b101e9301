/- The other laws of chapter 11: what their readings say is true. -/
import Derived.Test.YtckghclpdfbigaaLaw11F
import Derived.Test.YtckghclpdfbigaaLaw10F
set_option linter.unusedSimpArgs false
set_option linter.unusedVariables false
namespace Go.Proofs.Ytckghclpdfbigaa
open Go.RowKit
theorem loop_find_st {S X : Type} {f : S → Option (S ⊕ X)} (n : Nat) (st : Nat → S) (step : Nat → Option X) (xe : X) {s0 : S} (h0 : st 0 = s0)
    (h : ∀ i : Nat, i < n → (∀ j, j < i → step j = none) → f (st i) = some (match step i with | some x => .inr x | none => .inl (st (i + 1)))) (he : f (st n) = some (.inr xe)) :
    loopO f s0 = some (((List.range n).findSome? step).getD xe) := by
  subst h0
  have key : ∀ (k j : Nat), j + k = n → (∀ i, i < j → step i = none) → loopN f (k + 1) (st j) = some (((List.range' j k).findSome? step).getD xe) := by
    intro k
    induction k with
    | zero =>
      intro j hj _
      have : j = n := by omega
      subst this
      simp [loopN, he]
    | succ k ih =>
      intro j hj hn
      rw [loopN, h j (by omega) hn, range'_findSome_cons]
      cases hs : step j with
      | some x => rfl
      | none =>
        have := ih (j + 1) (by omega) (fun i hi => by rcases Nat.lt_succ_iff_lt_or_eq.1 hi with hi | rfl; exact hn i hi; exact hs)
        rw [← this]
  have := loopO_of (key n 0 (by omega) (fun i hi => by omega))
  rw [List.range_eq_range']
  exact this
theorem f_refs11 (t : Tk) (h1 : t.1.length + t.2.length ≤ 2000) (h2 : ∀ s ∈ t.1, s.2.1.length ≤ 20000 ∧ s.2.2.length ≤ 20000) : F_law11_refs t = some t := by
  unfold F_law11_refs
  rw [show ((0 : Int), ([] : List Sg)) = (((0 : Nat) : Int), t.1.take 0) from rfl]
  rw [loop_run (n := t.1.length) (st := fun i => ((i : Int), t.1.take i)) (x := t.1)]
  · rw [Option.bind_some]
    rw [show (([] : List Gp), (0 : Int)) = (t.2.take 0, ((0 : Nat) : Int)) from rfl]
    rw [loop_run (n := t.2.length) (st := fun i => (t.2.take i, (i : Int))) (x := t.2)]
    · rfl
    · intro i hi
      simp only []
      rw [decide_eq_true (show (i : Int) < t.2.length by omega), decide_eq_true (show (0 : Int) ≤ i by omega)]
      simp only [cond_true, Bool.and_self, chk_yes]
      rw [Int.toNat_natCast, chk_yes (by simp; omega), wrap_ok (n := (i : Int) + 1) (by omega), take_succ_getD hi]
      rfl
    · simp
  · intro i hi
    simp only []
    rw [decide_eq_true (show (i : Int) < t.1.length by omega), decide_eq_true (show (0 : Int) ≤ i by omega)]
    simp only [cond_true, Bool.and_self, chk_yes]
    rw [Int.toNat_natCast, wrap_ok (n := (i : Int) + 1) (by omega)]
    have hm : t.1.getD i ((0 : Int), ([], [])) ∈ t.1 := by rw [getD_lt hi]; exact List.getElem_mem hi
    obtain ⟨s, hs⟩ : ∃ s, t.1.getD i ((0 : Int), ([], [])) = s := ⟨_, rfl⟩
    have hq := h2 _ hm
    rw [hs] at hq ⊢
    rw [show (([] : List Pc), (0 : Int)) = (s.2.1.take 0, ((0 : Nat) : Int)) from rfl]
    rw [loop_run (n := s.2.1.length) (st := fun k => (s.2.1.take k, (k : Int))) (x := s.2.1)]
    · rw [Option.bind_some, chk_yes (by simp; omega)]
      have : t.1.take i ++ [(s.1, (s.2.1, s.2.2))] = t.1.take (i + 1) := by rw [← hs]; exact take_succ_getD hi
      rw [this]; rfl
    · intro k hk
      simp only []
      rw [decide_eq_true (show (k : Int) < s.2.1.length by omega), decide_eq_true (show (0 : Int) ≤ k by omega)]
      simp only [cond_true, Bool.and_self, chk_yes]
      rw [Int.toNat_natCast, chk_yes (by simp; omega), wrap_ok (n := (k : Int) + 1) (by omega), take_succ_getD hk]
      rfl
    · simp
  · simp
theorem bif_none {α : Type} (b : Bool) (x : α) : (bif b then none else some x : Option α) = if b = true then none else some x := by cases b <;> rfl
theorem f_segmentR (s : Sg) (n : Nat) (h2 : s.2.1.length ≤ big) : F_ref11_segment s (n : Int) = some (segB n s) := by
  unfold big at *
  unfold F_ref11_segment segB
  rw [f_May _ _ h2, @not_lt_dec 1 s.1, @not_lt_dec s.1 1099511627776]
  simp only []
  cases decide (s.1 < 1) <;> cases decide (1099511627776 < s.1) <;> cases hg : gradeB s.2.1 s.1 <;> first | rfl | skip
  by_cases h4 : 2 < (s.2.2.length : Int)
  · have e : decide (s.2.2.length ≤ 2) = false := by simp; omega
    rw [decide_eq_true h4, e]; rfl
  · have e : decide (s.2.2.length ≤ 2) = true := by simp; omega
    rw [decide_eq_false h4, e]
    simp only [cond_false, cond_true, Bool.not_false, Option.bind_some, Bool.true_and, bne_self_eq_false, Bool.not_true, Bool.and_self]
    rw [loop_find s.2.2.length (fun i => bif (decide (0 ≤ s.2.2.getD i 0) && decide (s.2.2.getD i 0 < n)) then none else some (.inl false)) (.inr ())]
    · rw [all_find]
      generalize hl : s.2.2 = l at *
      match l, h4 with
      | [], _ => rfl
      | [a], _ =>
        simp [wayB, List.range_succ]
        cases hb : (decide (0 ≤ a) && decide (a < (n : Int))) <;> rfl
      | [a, b], _ =>
        simp [wayB, List.range_succ, chk]
        cases hb : (decide (0 ≤ a) && decide (a < (n : Int))) <;> cases hc : (decide (0 ≤ b) && decide (b < (n : Int))) <;> cases hd : decide (a < b) <;> rfl
      | a :: b :: c :: l, h4 => simp at h4; omega
    · intro i hi
      have ew2 : IntKind.i64.wrap ((i : Int) + 1) = i + 1 := wrap_ok (by omega)
      rw [decide_eq_true (show (i : Int) < s.2.2.length by omega), decide_eq_true (show (0 : Int) ≤ i by omega), ew2, Int.toNat_natCast]
      simp only [cond_true, Bool.and_self, Bool.true_or, chk_yes]
      rw [@not_lt_dec 0 (s.2.2.getD i 0), @not_le_dec (s.2.2.getD i 0) n]
      cases decide (s.2.2.getD i 0 < 0) <;> cases decide ((n : Int) ≤ s.2.2.getD i 0) <;> rfl
    · simp
/-- The group ahead's Id, or 0. -/
def lastI (t : Tk) (i : Nat) : Int := if i = 0 then 0 else (t.2.getD (i - 1) gp0).1
theorem f_CheckR (t : Tk) (h : t.1.length ≤ 200 → ∀ s ∈ t.1, s.2.1.length ≤ big ∧ s.2.2.length ≤ big) : F_ref11_Check t = some (checkI t) := by
  unfold F_ref11_Check checkI
  by_cases h1 : t.1.length = 0
  · rw [if_pos (.inl h1)]; simp [h1]
  by_cases h2 : 200 < t.1.length
  · rw [if_pos (.inr (.inl h2)), decide_eq_true (show (200 : Int) < t.1.length by omega)]; simp
  by_cases h3 : 400 < t.2.length
  · rw [if_pos (.inr (.inr h3)), decide_eq_true (show (400 : Int) < t.2.length by omega)]; simp
  rw [if_neg (by omega), decide_eq_false (show ¬ (t.1.length : Int) < 1 by omega), decide_eq_false (show ¬ (200 : Int) < t.1.length by omega), decide_eq_false (show ¬ (400 : Int) < t.2.length by omega)]
  simp only [cond_false]
  rw [loop_find t.1.length (fun i => bif segB t.1.length (t.1.getD i sg0) then none else some (.inl ((i : Int), 11))) (.inr ())]
  · rw [findSome_map (α := Unit)]
    cases h4 : firstN (fun i => segB t.1.length (t.1.getD i sg0)) t.1.length with
    | some i => rfl
    | none =>
      simp only [Option.map_none, Option.getD_none, Option.bind_some]
      rw [loop_find_st (X := (Int × Int) ⊕ Unit) t.2.length (fun i => (lastI t i, (i : Int))) (fun i => bif grpB t i (t.2.getD i gp0) then none else some (Sum.inl (16, (i : Int)))) (Sum.inr () : (Int × Int) ⊕ Unit) (show (lastI t 0, ((0 : Nat) : Int)) = ((0 : Int), (0 : Int)) from rfl)]
      · rw [findSome_map (α := Unit)]
        cases h5 : firstN (fun i => grpB t i (t.2.getD i gp0)) t.2.length <;> rfl
      · intro i hi hprev
        simp only []
        rw [decide_eq_true (show (i : Int) < t.2.length by omega), decide_eq_true (show (0 : Int) ≤ i by omega), Int.toNat_natCast, wrap_ok (n := (i : Int) + 1) (by omega)]
        have hdef : t.2.getD i ((0 : Int), ((0 : Int), ((0 : Int), ((0 : Int), (0 : Int))))) = t.2.getD i gp0 := rfl
        rw [hdef]
        simp only [cond_true, Bool.and_self, chk_yes]
        have hl : lastI t (i + 1) = (t.2.getD i gp0).1 := by unfold lastI; rw [if_neg (by omega)]; rfl
        obtain ⟨g, hg⟩ : ∃ g, t.2.getD i gp0 = g := ⟨_, rfl⟩
        rw [hl, hg]
        have hlast : 0 ≤ lastI t i := by
          unfold lastI
          by_cases h0 : i = 0
          · rw [if_pos h0]; omega
          · rw [if_neg h0]
            have := hprev (i - 1) (by omega)
            cases hb : grpB t (i - 1) (t.2.getD (i - 1) gp0) with
            | false => rw [hb] at this; cases this
            | true =>
              unfold grpB at hb
              simp only [Bool.and_eq_true, decide_eq_true_eq] at hb
              omega
        have h11 : decide (g.1 ≤ lastI t i) = !(decide (1 ≤ g.1) && (decide (i = 0) || decide ((t.2.getD (i - 1) gp0).1 < g.1))) := by
          rw [Bool.eq_iff_iff]
          unfold lastI at hlast ⊢
          by_cases h0 : i = 0
          · simp [h0]; omega
          · simp [h0] at hlast ⊢; omega
        rw [h11]
        unfold grpB
        rw [@not_lt_dec g.1 65535, @not_lt_dec 0 g.2.1, @not_le_dec g.2.1 t.1.length, @not_lt_dec 0 g.2.2.1, @not_lt_dec g.2.2.1 _, @not_lt_dec 0 g.2.2.2.1, @not_lt_dec g.2.2.2.1 1048576, @not_lt_dec 0 g.2.2.2.2, @not_lt_dec g.2.2.2.2 16777216]
        have hseg : ∀ s, t.1.getD s ((0 : Int), ([], [])) = t.1.getD s sg0 := fun _ => rfl
        rw [hseg]
        cases decide (1 ≤ g.1) <;> first | rfl | skip
        · cases hq : (decide (i = 0) || decide ((t.2.getD (i - 1) gp0).1 < g.1)) with
          | false => cases decide (65535 < g.1) <;> rfl
          | true =>
            cases decide (65535 < g.1) <;> first | rfl | skip
            cases a3 : decide (g.2.1 < 0) <;> first | rfl | skip
            cases a4 : decide ((t.1.length : Int) ≤ g.2.1) <;> first | rfl | skip
            simp only [Bool.and_self, Bool.true_or, chk_yes, cond_false, cond_true, Bool.not_true, Bool.not_false, Bool.true_and]
            cases decide (g.2.2.1 < 0) <;> cases decide ((t.1.getD g.2.1.toNat sg0).1 < g.2.2.1) <;> cases decide (g.2.2.2.1 < 0) <;> cases decide (1048576 < g.2.2.2.1) <;> cases decide (g.2.2.2.2 < 0) <;> cases decide (16777216 < g.2.2.2.2) <;> rfl
      · simp
  · intro i hi
    rw [decide_eq_true (show (i : Int) < t.1.length by omega), decide_eq_true (show (0 : Int) ≤ i by omega), Int.toNat_natCast, wrap_ok (n := (i : Int) + 1) (by omega)]
    have hdef : t.1.getD i ((0 : Int), ([], [])) = t.1.getD i sg0 := rfl
    rw [hdef]
    simp only [cond_true, Bool.and_self, chk_yes]
    have hm : t.1.getD i sg0 ∈ t.1 := by rw [getD_lt hi]; exact List.getElem_mem hi
    rw [f_segmentR _ _ (h (by omega) _ hm).1, Option.bind_some]
    cases segB t.1.length (t.1.getD i sg0) <;> rfl
  · simp
theorem f_TrackChecks (t : Tk) (hR : Rows t) : F_law11_TrackChecks t = some true := by
  obtain ⟨b, e, hb⟩ := f_great t hR
  obtain ⟨r1, r2, r3⟩ := hR
  have hs : ∀ s ∈ t.1, s.2.1.length ≤ big ∧ s.2.2.length ≤ big := fun s hs => by have := r3 s hs; unfold big; omega
  unfold F_law11_TrackChecks
  rw [f_anchor11, Option.bind_some, e, Option.bind_some]
  simp only [Bool.not_true, cond_false]
  cases b with
  | true => rfl
  | false =>
    rw [f_Check t (fun _ => hs), f_refs11 t (hb rfl).1 (hb rfl).2]
    simp only [Option.bind_some, cond_false]
    rw [f_CheckR t (fun _ => hs)]
    simp
/-- The groups of a track that may be are in order. -/
theorem ids_mono {t : Tk} (h : ∀ i, i < t.2.length → grpB t i (t.2.getD i gp0) = true) : ∀ a b : Nat, a < b → b < t.2.length → (t.2.getD a gp0).1 < (t.2.getD b gp0).1 := by
  intro a b hab hb
  induction b with
  | zero => omega
  | succ b ih =>
    have := h (b + 1) hb
    unfold grpB at this
    simp only [Bool.and_eq_true, Bool.or_eq_true, decide_eq_true_eq, Nat.add_sub_cancel] at this
    have h1 : (t.2.getD b gp0).1 < (t.2.getD (b + 1) gp0).1 := by omega
    by_cases h2 : a = b
    · subst h2; exact h1
    · have := ih (by omega) (by omega); omega
theorem f_TrackFinds (t : Tk) (id : Int) (hR : Rows t) : F_law11_TrackFinds t id = some true := by
  obtain ⟨b, e, hb⟩ := f_great t hR
  obtain ⟨r1, r2, r3⟩ := hR
  have hs : ∀ s ∈ t.1, s.2.1.length ≤ big ∧ s.2.2.length ≤ big := fun s hs => by have := r3 s hs; unfold big; omega
  unfold F_law11_TrackFinds
  rw [f_anchor11, Option.bind_some, e, Option.bind_some]
  simp only [Bool.not_true, cond_false]
  cases b with
  | true => rfl
  | false =>
    rw [f_refs11 t (hb rfl).1 (hb rfl).2]
    simp only [Option.bind_some, cond_false]
    rw [f_CheckR t (fun _ => hs), Option.bind_some]
    by_cases hc : (checkI t).1 = 0
    · have e0 : ((checkI t).1 != 0) = false := by simpa using hc
      rw [e0]
      obtain ⟨k1, k2, k3, k4, k5⟩ := check_ok hc
      have mono := ids_mono k5
      obtain ⟨r, er, hr, h1, h2⟩ := f_Find t id (by omega) (fun a b hab hb => by
        rcases Nat.lt_or_eq_of_le hab with hab | rfl
        · have := mono a b hab hb; omega
        · exact Int.le_refl _)
      simp only [cond_false]
      rw [er, Option.bind_some]
      rw [show (false, ((0 : Int), (0 : Int))) = ((decide (r < 0) && decide ((t.2.getD r gp0).1 = id)), (((0 : Nat) : Int), ((min 0 r : Nat) : Int))) by simp]
      rw [loop_run (n := t.2.length) (st := fun i => ((decide (r < i) && decide ((t.2.getD r gp0).1 = id)), ((i : Int), ((min i r : Nat) : Int)))) (x := ((decide (r < t.2.length) && decide ((t.2.getD r gp0).1 = id)), (r : Int)))]
      · simp
      · intro i hi
        simp only []
        rw [decide_eq_true (show (i : Int) < t.2.length by omega), decide_eq_true (show (0 : Int) ≤ i by omega), Int.toNat_natCast, wrap_ok (n := (i : Int) + 1) (by omega)]
        have hdef : t.2.getD i ((0 : Int), ((0 : Int), ((0 : Int), ((0 : Int), (0 : Int))))) = t.2.getD i gp0 := rfl
        rw [hdef]
        simp only [cond_true, Bool.and_self, chk_yes]
        rw [wrap_ok (n := ((min i r : Nat) : Int) + 1) (by omega)]
        rcases Nat.lt_trichotomy i r with hir | rfl | hir
        · have h3 := h1 i hir
          rw [decide_eq_true h3, decide_eq_false (show ¬ r < i by omega), decide_eq_false (show ¬ r < i + 1 by omega)]
          have e1 : ((t.2.getD i gp0).1 == id) = false := beq_false_of_ne (by omega)
          have e2 : min i r = i := by omega
          have e3 : min (i + 1) r = i + 1 := by omega
          rw [e1, e2, e3]
          simp
        · have h3 := h2 i (Nat.le_refl i) hi
          rw [decide_eq_false (show ¬ (t.2.getD i gp0).1 < id by omega), decide_eq_false (show ¬ i < i by omega), decide_eq_true (show i < i + 1 by omega)]
          have e2 : min i i = i := by omega
          have e3 : min (i + 1) i = i := by omega
          rw [e2, e3]
          have e1 : ((t.2.getD i gp0).1 == id) = decide ((t.2.getD i gp0).1 = id) := by rw [Bool.eq_iff_iff]; simp
          rw [e1]
          simp
        · have h3 := h2 r (Nat.le_refl r) (by omega)
          have h4 := mono r i hir hi
          rw [decide_eq_false (show ¬ (t.2.getD i gp0).1 < id by omega), decide_eq_true (show r < i by omega), decide_eq_true (show r < i + 1 by omega)]
          have e1 : ((t.2.getD i gp0).1 == id) = false := beq_false_of_ne (by omega)
          have e2 : min i r = r := by omega
          have e3 : min (i + 1) r = r := by omega
          rw [e1, e2, e3]
          simp
      · simp only [decide_eq_false (Int.lt_irrefl (t.2.length : Int)), cond_false]
        have e2 : min t.2.length r = r := by omega
        rw [e2]
    · have e0 : ((checkI t).1 != 0) = true := by simpa using hc
      rw [e0]; rfl
def anyB (n : Nat) (b : Nat → Bool) : Bool := (List.range n).any b
theorem any_find {X : Type} (n : Nat) (b : Nat → Bool) (x : Nat → X) : ((List.range n).findSome? fun i => bif b i then some (x i) else none) = none ∧ anyB n b = false ∨ ∃ i, ((List.range n).findSome? fun i => bif b i then some (x i) else none) = some (x i) ∧ anyB n b = true := by
  unfold anyB
  generalize List.range n = l
  induction l with
  | nil => exact .inl ⟨rfl, rfl⟩
  | cons a l ih =>
    rw [List.findSome?_cons, List.any_cons]
    cases h : b a with
    | true => exact .inr ⟨a, rfl, rfl⟩
    | false => simpa using ih
theorem f_Contains (l : List Int) (v : Int) (h : l.length ≤ 4611686018427387903) : F_slices_Contains_int_int l v = some (anyB l.length fun i => l.getD i 0 == v) := by
  unfold F_slices_Contains_int_int F_slices_Index_int_int
  rw [loop_find l.length (fun i => bif l.getD i 0 == v then some (.inl (i : Int)) else none) (.inr ())]
  · rcases any_find l.length (fun i => l.getD i 0 == v) (fun i => (Sum.inl (i : Int) : Int ⊕ Unit)) with ⟨e1, e2⟩ | ⟨i, e1, e2⟩
    · rw [e1, e2]; rfl
    · rw [e1, e2]
      simp
  · intro i hi
    rw [decide_eq_true (show (i : Int) < l.length by omega), decide_eq_true (show (0 : Int) ≤ i by omega), Int.toNat_natCast, wrap_ok (n := (i : Int) + 1) (by omega)]
    simp only [cond_true, Bool.and_self, chk_yes]
    have : (v == l.getD i 0) = (l.getD i 0 == v) := by rw [Bool.eq_iff_iff]; simp only [beq_iff_eq]; exact eq_comm
    rw [this]
    cases (l.getD i 0 == v) <;> rfl
  · simp
theorem f_TrackFollows (t : Tk) (a b : Int) (hR : Rows t) : F_law11_TrackFollows t a b = some true := by
  obtain ⟨g, e, hb⟩ := f_great t hR
  obtain ⟨r1, r2, r3⟩ := hR
  unfold F_law11_TrackFollows
  rw [f_anchor11, Option.bind_some, e, Option.bind_some]
  simp only [Bool.not_true, cond_false]
  cases g with
  | true => rfl
  | false =>
    rw [f_refs11 t (hb rfl).1 (hb rfl).2]
    unfold F_track_Track_Follows F_ref11_Follows
    simp only [Option.bind_some, cond_false, cond_true, Bool.not_false]
    by_cases h0 : 0 ≤ a
    · by_cases h1 : a < t.1.length
      · obtain ⟨k, rfl⟩ : ∃ k : Nat, a = (k : Int) := ⟨a.toNat, by omega⟩
        rw [decide_eq_true h0, decide_eq_true h1, decide_eq_false (show ¬ (k : Int) < 0 by omega), decide_eq_false (show ¬ (t.1.length : Int) ≤ k by omega), Int.toNat_natCast]
        simp only [cond_true, cond_false, Bool.and_self, Bool.true_or, chk_yes]
        have hm : t.1.getD k ((0 : Int), ([], [])) ∈ t.1 := by rw [getD_lt (show k < t.1.length by omega)]; exact List.getElem_mem _
        obtain ⟨s, hs⟩ : ∃ s, t.1.getD k ((0 : Int), ([], [])) = s := ⟨_, rfl⟩
        have hq := (hb rfl).2 _ hm
        rw [hs] at hq ⊢
        rw [f_Contains _ _ (by omega), Option.bind_some]
        rw [loop_find s.2.2.length (fun i => bif s.2.2.getD i 0 == b then some (.inl true) else none) (.inr ())]
        · rcases any_find s.2.2.length (fun i => s.2.2.getD i 0 == b) (fun i => (Sum.inl true : Bool ⊕ Unit)) with ⟨e1, e2⟩ | ⟨i, e1, e2⟩
          · rw [e1, e2]; rfl
          · rw [e1, e2]; rfl
        · intro i hi
          rw [decide_eq_true (show (i : Int) < s.2.2.length by omega), decide_eq_true (show (0 : Int) ≤ i by omega), Int.toNat_natCast, wrap_ok (n := (i : Int) + 1) (by omega)]
          simp only [cond_true, Bool.and_self, chk_yes]
          cases (s.2.2.getD i 0 == b) <;> rfl
        · simp
      · rw [decide_eq_false h1, decide_eq_true (show (t.1.length : Int) ≤ a by omega)]
        simp [chk]
    · rw [decide_eq_false h0, decide_eq_true (show a < 0 by omega)]
      simp [chk]
end Go.Proofs.Ytckghclpdfbigaa
