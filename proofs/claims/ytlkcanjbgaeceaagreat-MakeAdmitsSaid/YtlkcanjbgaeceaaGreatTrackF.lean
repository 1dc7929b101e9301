/- What the readings of tracks say. -/
import Derived.Test.YtlkcanjbgaeceaaGreatGradeF
set_option linter.unusedSimpArgs false
set_option linter.unusedVariables false
namespace Go.Proofs.YtlkcanjbgaeceaaGreat
open Go.RowKit
abbrev Sg := Int × (List (Int × Int) × List Int)
abbrev Gp := Int × (Int × (Int × (Int × Int)))
abbrev Tk := List Sg × List Gp
def sg0 : Sg := (0, [], [])
def gp0 : Gp := (0, 0, 0, 0, 0)
def wayB (n : Nat) (l : List Int) (i : Nat) : Bool := decide (0 ≤ l.getD i 0) && decide (l.getD i 0 < n) && (decide (i = 0) || decide (l.getD (i - 1) 0 < l.getD i 0))
def segB (n : Nat) (s : Sg) : Bool := decide (1 ≤ s.1) && decide (s.1 ≤ 1099511627776) && gradeB s.2.1 s.1 && decide (s.2.2.length ≤ 2) && (List.range s.2.2.length).all (wayB n s.2.2)
def grpB (t : Tk) (i : Nat) (g : Gp) : Bool :=
  decide (1 ≤ g.1) && decide (g.1 ≤ 65535) && (decide (i = 0) || decide ((t.2.getD (i - 1) gp0).1 < g.1)) && decide (0 ≤ g.2.1) && decide (g.2.1 < t.1.length) &&
  (decide (0 ≤ g.2.2.1) && decide (g.2.2.1 ≤ (t.1.getD g.2.1.toNat sg0).1) && decide (0 ≤ g.2.2.2.1) && decide (g.2.2.2.1 ≤ 1048576) && decide (0 ≤ g.2.2.2.2) && decide (g.2.2.2.2 ≤ 16777216))
def big : Nat := 9223372036854775806
theorem not_lt_dec {a b : Int} : decide (a ≤ b) = !decide (b < a) := by rw [Bool.eq_iff_iff]; simp
theorem not_le_dec {a b : Int} : decide (a < b) = !decide (b ≤ a) := by rw [Bool.eq_iff_iff]; simp
theorem f_segment (t : Tk) (s : Sg) (h1 : t.1.length ≤ big) (h2 : s.2.1.length ≤ big) (h3 : s.2.2.length ≤ big) : F_track_Track_segment t s = some (segB t.1.length s) := by
  unfold big at *
  unfold F_track_Track_segment segB
  rw [f_gradeCheck _ _ h2, @not_lt_dec 1 s.1, @not_lt_dec s.1 1099511627776]
  simp only []
  cases decide (s.1 < 1) <;> cases decide (1099511627776 < s.1) <;> cases hg : gradeB s.2.1 s.1 <;> first | rfl | skip
  by_cases h4 : 2 < (s.2.2.length : Int)
  · have e : decide (s.2.2.length ≤ 2) = false := by simp; omega
    rw [decide_eq_true h4, e]; rfl
  · have e : decide (s.2.2.length ≤ 2) = true := by simp; omega
    rw [decide_eq_false h4, e]
    simp only [cond_false, cond_true, Bool.not_false, Option.bind_some, Bool.true_and, bne_self_eq_false, Bool.not_true, Bool.and_self]
    rw [loop_find s.2.2.length (fun i => bif wayB t.1.length s.2.2 i then none else some (.inl false)) (.inr ())]
    · rw [all_find]
      cases (List.range s.2.2.length).all (wayB t.1.length s.2.2) <;> rfl
    · intro i hi
      have ew : IntKind.i64.wrap ((i : Int) - 1) = i - 1 := wrap_ok (by omega)
      have ew2 : IntKind.i64.wrap ((i : Int) + 1) = i + 1 := wrap_ok (by omega)
      rw [decide_eq_true (show (i : Int) < s.2.2.length by omega), decide_eq_true (show (0 : Int) ≤ i by omega), ew, ew2, Int.toNat_natCast]
      simp only [cond_true, Bool.and_self, chk_yes]
      have fin : ∀ b c : Bool, b = !c → (bif b then some (Sum.inr (Sum.inl false)) else some (Sum.inl ((i : Int) + 1))) = some (stepOut ((i : Int) + 1) (bif c then none else some (Sum.inl false) : Option (Bool ⊕ Unit))) := by
        rintro b c rfl; cases c <;> rfl
      by_cases hi0 : i = 0
      · rw [chk_yes (by simp [hi0])]
        refine fin _ _ ?_
        unfold wayB
        rw [decide_eq_true hi0, show decide ((0 : Int) < (i : Int)) = false by simp [hi0], @not_lt_dec 0 (s.2.2.getD i 0), @not_le_dec (s.2.2.getD i 0) t.1.length]
        cases decide (s.2.2.getD i 0 < 0) <;> cases decide ((t.1.length : Int) ≤ s.2.2.getD i 0) <;> rfl
      · rw [chk_yes (by simp; omega)]
        refine fin _ _ ?_
        have et : ((i : Int) - 1).toNat = i - 1 := by omega
        unfold wayB
        rw [decide_eq_false hi0, show decide ((0 : Int) < (i : Int)) = true by simp; omega, @not_lt_dec 0 (s.2.2.getD i 0), @not_le_dec (s.2.2.getD i 0) t.1.length, @not_le_dec (s.2.2.getD (i - 1) 0) (s.2.2.getD i 0), et]
        cases decide (s.2.2.getD i 0 < 0) <;> cases decide ((t.1.length : Int) ≤ s.2.2.getD i 0) <;> cases decide (s.2.2.getD i 0 ≤ s.2.2.getD (i - 1) 0) <;> rfl
    · simp
theorem f_group (t : Tk) (i : Nat) (g : Gp) (h1 : t.1.length ≤ big) (hi : i < t.2.length) (h2 : t.2.length ≤ big) : F_track_Track_group t i g = some (grpB t i g) := by
  unfold big at *
  unfold F_track_Track_group
  have ew : IntKind.i64.wrap ((i : Int) - 1) = i - 1 := wrap_ok (by omega)
  rw [ew]
  by_cases hi0 : i = 0
  · rw [chk_yes (by simp [hi0])]
    unfold grpB
    rw [decide_eq_true hi0, show decide ((0 : Int) < (i : Int)) = false by simp [hi0], @not_lt_dec 1 g.1, @not_lt_dec g.1 65535, @not_lt_dec 0 g.2.1, @not_le_dec g.2.1 t.1.length]
    cases a1 : decide (g.1 < 1) <;> cases a2 : decide (65535 < g.1) <;> cases a3 : decide (g.2.1 < 0) <;> cases a4 : decide ((t.1.length : Int) ≤ g.2.1) <;> first | rfl | skip
    simp only [cond_false, cond_true, Bool.not_false, Bool.not_true, Bool.true_or, Bool.true_and, Bool.and_true, Bool.cond_false_right, chk_yes]
    rfl
  · have et : ((i : Int) - 1).toNat = i - 1 := by omega
    rw [chk_yes (by simp; omega), et]
    simp only []
    unfold grpB gp0
    rw [decide_eq_false hi0, show decide ((0 : Int) < (i : Int)) = true by simp; omega, @not_lt_dec 1 g.1, @not_lt_dec g.1 65535, @not_lt_dec 0 g.2.1, @not_le_dec g.2.1 t.1.length, @not_le_dec (t.2.getD (i - 1) (0, 0, 0, 0, 0)).1 g.1]
    cases a1 : decide (g.1 < 1) <;> cases a2 : decide (65535 < g.1) <;> cases a5 : decide (g.1 ≤ (t.2.getD (i - 1) (0, 0, 0, 0, 0)).1) <;> cases a3 : decide (g.2.1 < 0) <;> cases a4 : decide ((t.1.length : Int) ≤ g.2.1) <;> first | rfl | skip
    simp only [cond_false, cond_true, Bool.not_false, Bool.not_true, Bool.true_or, Bool.true_and, Bool.and_true, Bool.cond_false_right, Bool.false_or, chk_yes]
    rfl
def firstN (b : Nat → Bool) (n : Nat) : Option Nat := (List.range n).findSome? fun i => bif b i then none else some i
def checkI (t : Tk) : Int × Int :=
  if t.1.length = 0 ∨ 200 < t.1.length ∨ 400 < t.2.length then (13, 0) else
    match firstN (fun i => segB t.1.length (t.1.getD i sg0)) t.1.length with
    | some i => (11, i)
    | none => match firstN (fun i => grpB t i (t.2.getD i gp0)) t.2.length with
      | some i => (16, i)
      | none => (0, 0)
theorem findSome_map {α β : Type} (n : Nat) (b : Nat → Bool) (g : Nat → β) : ((List.range n).findSome? fun i => bif b i then none else some (g i)) = (firstN b n).map g := by
  unfold firstN
  induction List.range n with
  | nil => rfl
  | cons i l ih =>
    rw [List.findSome?_cons, List.findSome?_cons]
    cases b i
    · rfl
    · exact ih
theorem firstN_none {b : Nat → Bool} {n : Nat} : firstN b n = none ↔ ∀ i, i < n → b i = true := by
  unfold firstN
  rw [find_none]
  constructor
  · intro h i hi
    have := h i hi
    cases hb : b i with
    | true => rfl
    | false => rw [hb] at this; cases this
  · intro h i hi
    rw [h i hi]; rfl
theorem f_Check (t : Tk) (h : t.1.length ≤ 200 → ∀ s ∈ t.1, s.2.1.length ≤ big ∧ s.2.2.length ≤ big) : F_track_Track_Check t = some (checkI t) := by
  unfold F_track_Track_Check checkI
  by_cases h1 : t.1.length = 0
  · rw [if_pos (.inl h1)]; simp [h1]
  by_cases h2 : 200 < t.1.length
  · rw [if_pos (.inr (.inl h2))]
    have e1 : ((t.1.length : Int) == 0) = false := by simpa using h1
    have e2 : decide ((200 : Int) < t.1.length) = true := by simp; omega
    rw [e1, e2]; rfl
  by_cases h3 : 400 < t.2.length
  · rw [if_pos (.inr (.inr h3))]
    have e1 : ((t.1.length : Int) == 0) = false := by simpa using h1
    have e2 : decide ((200 : Int) < t.1.length) = false := by simp; omega
    have e3 : decide ((400 : Int) < t.2.length) = true := by simp; omega
    rw [e1, e2, e3]; rfl
  rw [if_neg (by omega)]
  have e1 : ((t.1.length : Int) == 0) = false := by simpa using h1
  have e2 : decide ((200 : Int) < t.1.length) = false := by simp; omega
  have e3 : decide ((400 : Int) < t.2.length) = false := by simp; omega
  rw [e1, e2, e3]
  simp only [cond_false]
  rw [loop_find t.1.length (fun i => bif segB t.1.length (t.1.getD i sg0) then none else some (.inl ((i : Int), (11 : Int)))) (.inr ()), findSome_map (α := Unit)]
  · cases hf : firstN (fun i => segB t.1.length (t.1.getD i sg0)) t.1.length with
    | some i => rfl
    | none =>
      simp only [Option.map_none, Option.getD_none, Option.bind_some]
      rw [loop_find t.2.length (fun i => bif grpB t i (t.2.getD i gp0) then none else some (.inl ((16 : Int), (i : Int)))) (.inr ()), findSome_map (α := Unit)]
      · cases firstN (fun i => grpB t i (t.2.getD i gp0)) t.2.length <;> rfl
      · intro i hi
        have ew2 : IntKind.i64.wrap ((i : Int) + 1) = i + 1 := wrap_ok (by omega)
        rw [decide_eq_true (show (i : Int) < t.2.length by omega), decide_eq_true (show (0 : Int) ≤ i by omega), ew2, Int.toNat_natCast]
        simp only [cond_true, Bool.and_self, chk_yes]
        rw [f_group t i _ (by unfold big; omega) hi (by unfold big; omega)]
        show Option.bind (some (grpB t i (t.2.getD i gp0))) _ = _
        cases grpB t i (t.2.getD i gp0) <;> rfl
      · simp
  · intro i hi
    have ew2 : IntKind.i64.wrap ((i : Int) + 1) = i + 1 := wrap_ok (by omega)
    rw [decide_eq_true (show (i : Int) < t.1.length by omega), decide_eq_true (show (0 : Int) ≤ i by omega), ew2, Int.toNat_natCast]
    simp only [cond_true, Bool.and_self, chk_yes]
    have hm : t.1.getD i ((0 : Int), ([], [])) ∈ t.1 := by rw [getD_lt hi]; exact List.getElem_mem hi
    obtain ⟨k1, k2⟩ := h (by omega) _ hm
    rw [f_segment t _ (by unfold big; omega) k1 k2]
    show Option.bind (some (segB t.1.length (t.1.getD i sg0))) _ = _
    cases segB t.1.length (t.1.getD i sg0) <;> rfl
  · simp
def Rows (t : Tk) : Prop := t.1.length ≤ 140737488351232 ∧ t.2.length ≤ 140737488351232 ∧ ∀ s ∈ t.1, s.2.1.length ≤ 140737488351232 ∧ s.2.2.length ≤ 140737488351232
theorem rows_fits {t : Tk} (h : Fits (.agg (.pair (.slice (.agg (.pair (.int .i64) (.pair (.slice (.agg (.pair (.int .i64) (.int .i64)))) (.slice (.int .i64)))))) (.slice (.agg (.pair (.int .i64) (.pair (.int .i64) (.pair (.int .i64) (.pair (.int .i64) (.int .i64))))))))) t) : Rows t :=
  ⟨h.1.1, h.2.1, fun s hs => ⟨(h.1.2 s hs).2.1.1, (h.1.2 s hs).2.2.1⟩⟩
end Go.Proofs.YtlkcanjbgaeceaaGreat
