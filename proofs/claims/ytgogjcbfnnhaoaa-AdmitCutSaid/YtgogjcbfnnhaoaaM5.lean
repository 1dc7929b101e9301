/- What the readings of the document's configurations say. -/
import Derived.Test.YtgogjcbfnnhaoaaFnsE
import Derived.Test.YtgogjcbfnnhaoaaM4
import Derived.Test.YtgogjcbfnnhaoaaFnsE2
set_option linter.unusedSimpArgs false
set_option linter.unusedVariables false
namespace Go.Proofs.Ytgogjcbfnnhaoaa
open Go.RowKit
theorem i64_fits {n : Int} (h : Fits (.int .i64) n) : I64 n := by
  have h : fits .i64 n = true := h
  simp [fits] at h
  exact ⟨by omega, by omega⟩
theorem wrap_ok {n : Int} (h : -9223372036854775808 ≤ n ∧ n ≤ 9223372036854775807) : IntKind.i64.wrap n = n := by rw [IntKind.wrap_i64]; omega
theorem chk_yes {ρ : Type} {c : Bool} {k : Option ρ} (h : c = true) : chk none c k = k := by
  subst h; rfl
abbrev Cf := Int × (Int × (Int × (Int × (Int × (Int × (Int × (Int × (Int × (Int × (Int × (Int × (Int × Int))))))))))))
def upP (a b : Int) : Int := (a + b - 1) / b
/-- The first rule that doesn't hold. -/
def wrongC (c : Cf) : Int :=
  match c with
  | (p, lo, hi, rb, rp, ae, ms, ma, an, st, ss, ro, ti, br) =>
    if p < 1 ∨ 1024 < p then 1 else
    if lo < 131072 ∨ 8388608 < lo ∨ hi < lo ∨ 8388608 < hi then 2 else
    if lo < (hi - lo) * 16 then 3 else
    if rb < 0 ∨ 1048576 < rb ∨ rp < 0 ∨ 65536 < rp then 4 else
    if ae < 0 ∨ 1048576 < ae then 5 else
    if ms < 1 ∨ 16777216 < ms ∨ ma < 1 ∨ 1048576 < ma then 6 else
    if 32000 * lo < ms * p then 7 else
    if an < 0 ∨ 1048576 < an then 8 else
    if st < 1 ∨ 1000 < st ∨ ti < 1 ∨ 1000 < ti then 9 else
    if ss < upP hi p ∨ ss < 3 * rb ∨ 16777216 < ss then 10 else
    if ro < 0 ∨ 1073741824 < ro then 11 else
    if br < 1 ∨ 1048576 < br then 12 else 0
theorem mul_pq {x y X Y : Int} (h1 : 0 ≤ x) (h2 : x ≤ X) (h3 : 0 ≤ y) (h4 : y ≤ Y) : 0 ≤ x * y ∧ x * y ≤ X * Y := by
  have a1 : x * y ≤ X * y := Int.mul_le_mul_of_nonneg_right h2 h3
  have a2 : X * y ≤ X * Y := Int.mul_le_mul_of_nonneg_left h4 (by omega)
  have a3 := Int.mul_nonneg h1 h3
  omega
/-- What a right configuration is. -/
structure RightC (p lo hi rb rp ae ms ma an st ss ro ti br : Int) : Prop where
  hp : 1 ≤ p ∧ p ≤ 1024
  hlo : 131072 ≤ lo ∧ lo ≤ 8388608
  hhi : lo ≤ hi ∧ hi ≤ 8388608
  hgap : (hi - lo) * 16 ≤ lo
  hrb : 0 ≤ rb ∧ rb ≤ 1048576
  hrp : 0 ≤ rp ∧ rp ≤ 65536
  hae : 0 ≤ ae ∧ ae ≤ 1048576
  hms : 1 ≤ ms ∧ ms ≤ 16777216
  hma : 1 ≤ ma ∧ ma ≤ 1048576
  hfast : ms * p ≤ 32000 * lo
  han : 0 ≤ an ∧ an ≤ 1048576
  hst : 1 ≤ st ∧ st ≤ 1000
  hti : 1 ≤ ti ∧ ti ≤ 1000
  hss : upP hi p ≤ ss ∧ 3 * rb ≤ ss ∧ ss ≤ 16777216
  hro : 0 ≤ ro ∧ ro ≤ 1073741824
  hbr : 1 ≤ br ∧ br ≤ 1048576
theorem right_iff {p lo hi rb rp ae ms ma an st ss ro ti br : Int} : wrongC (p, lo, hi, rb, rp, ae, ms, ma, an, st, ss, ro, ti, br) = 0 ↔ RightC p lo hi rb rp ae ms ma an st ss ro ti br := by
  unfold wrongC
  simp only
  constructor
  · intro h
    by_cases k1 : p < 1 ∨ 1024 < p
    · rw [if_pos k1] at h; exact absurd h (by decide)
    rw [if_neg k1] at h
    by_cases k2 : lo < 131072 ∨ 8388608 < lo ∨ hi < lo ∨ 8388608 < hi
    · rw [if_pos k2] at h; exact absurd h (by decide)
    rw [if_neg k2] at h
    by_cases k3 : lo < (hi - lo) * 16
    · rw [if_pos k3] at h; exact absurd h (by decide)
    rw [if_neg k3] at h
    by_cases k4 : rb < 0 ∨ 1048576 < rb ∨ rp < 0 ∨ 65536 < rp
    · rw [if_pos k4] at h; exact absurd h (by decide)
    rw [if_neg k4] at h
    by_cases k5 : ae < 0 ∨ 1048576 < ae
    · rw [if_pos k5] at h; exact absurd h (by decide)
    rw [if_neg k5] at h
    by_cases k6 : ms < 1 ∨ 16777216 < ms ∨ ma < 1 ∨ 1048576 < ma
    · rw [if_pos k6] at h; exact absurd h (by decide)
    rw [if_neg k6] at h
    by_cases k7 : 32000 * lo < ms * p
    · rw [if_pos k7] at h; exact absurd h (by decide)
    rw [if_neg k7] at h
    by_cases k8 : an < 0 ∨ 1048576 < an
    · rw [if_pos k8] at h; exact absurd h (by decide)
    rw [if_neg k8] at h
    by_cases k9 : st < 1 ∨ 1000 < st ∨ ti < 1 ∨ 1000 < ti
    · rw [if_pos k9] at h; exact absurd h (by decide)
    rw [if_neg k9] at h
    by_cases k10 : ss < upP hi p ∨ ss < 3 * rb ∨ 16777216 < ss
    · rw [if_pos k10] at h; exact absurd h (by decide)
    rw [if_neg k10] at h
    by_cases k11 : ro < 0 ∨ 1073741824 < ro
    · rw [if_pos k11] at h; exact absurd h (by decide)
    rw [if_neg k11] at h
    by_cases k12 : br < 1 ∨ 1048576 < br
    · rw [if_pos k12] at h; exact absurd h (by decide)
    rw [if_neg k12] at h
    clear h
    constructor <;> omega
  · rintro ⟨h1, h2, h3, h4, h5, h6, h7, h8, h9, h10, h11, h12, h13, h14, h15, h16⟩
    rw [if_neg (show ¬ (p < 1 ∨ 1024 < p) by omega)]
    rw [if_neg (show ¬ (lo < 131072 ∨ 8388608 < lo ∨ hi < lo ∨ 8388608 < hi) by omega)]
    rw [if_neg (show ¬ (lo < (hi - lo) * 16) by omega)]
    rw [if_neg (show ¬ (rb < 0 ∨ 1048576 < rb ∨ rp < 0 ∨ 65536 < rp) by omega)]
    rw [if_neg (show ¬ (ae < 0 ∨ 1048576 < ae) by omega)]
    rw [if_neg (show ¬ (ms < 1 ∨ 16777216 < ms ∨ ma < 1 ∨ 1048576 < ma) by omega)]
    rw [if_neg (show ¬ (32000 * lo < ms * p) by omega)]
    rw [if_neg (show ¬ (an < 0 ∨ 1048576 < an) by omega)]
    rw [if_neg (show ¬ (st < 1 ∨ 1000 < st ∨ ti < 1 ∨ 1000 < ti) by omega)]
    rw [if_neg (show ¬ (ss < upP hi p ∨ ss < 3 * rb ∨ 16777216 < ss) by omega)]
    rw [if_neg (show ¬ (ro < 0 ∨ 1073741824 < ro) by omega)]
    rw [if_neg (show ¬ (br < 1 ∨ 1048576 < br) by omega)]
end Go.Proofs.Ytgogjcbfnnhaoaa

/- What the readings of grades and tracks say. -/
set_option linter.unusedSimpArgs false
set_option linter.unusedVariables false
namespace Go.Proofs.Ytgogjcbfnnhaoaa
open Go.RowKit
section
variable {X : Type} {f : Int → Option (Int ⊕ X)}
theorem range'_findSome_cons {step : Nat → Option X} (j k : Nat) : (List.range' j (k + 1)).findSome? step = match step j with | some x => some x | none => (List.range' (j + 1) k).findSome? step := by
  rw [List.range'_succ, List.findSome?_cons]
  cases step j <;> rfl
def stepOut {X : Type} (j : Int) (o : Option X) : Int ⊕ X := match o with
  | some x => .inr x
  | none => .inl j
/-- A loop over the numbers below n that ends where it finds something. -/
theorem loop_find (n : Nat) (step : Nat → Option X) (xe : X) (h : ∀ i : Nat, i < n → f i = some (stepOut ((i : Int) + 1) (step i))) (he : f n = some (.inr xe)) :
    loopO f 0 = some (((List.range n).findSome? step).getD xe) := by
  have key : ∀ (k j : Nat), j + k = n → loopN f (k + 1) (j : Int) = some (((List.range' j k).findSome? step).getD xe) := by
    intro k
    induction k with
    | zero =>
      intro j hj
      have : j = n := by omega
      subst this
      simp [loopN, he]
    | succ k ih =>
      intro j hj
      rw [loopN, h j (by omega), range'_findSome_cons]
      unfold stepOut
      cases step j with
      | some x => rfl
      | none =>
        have := ih (j + 1) (by omega)
        rw [← this]
        rfl
  have := loopO_of (key n 0 (by omega))
  rw [List.range_eq_range']
  exact this
theorem find_none {n : Nat} {step : Nat → Option X} : (List.range n).findSome? step = none ↔ ∀ i, i < n → step i = none := by
  rw [List.findSome?_eq_none_iff]
  exact ⟨fun h i hi => h i (List.mem_range.2 hi), fun h i hi => h i (List.mem_range.1 hi)⟩
end
theorem getD_lt {α : Type} {l : List α} {i : Nat} {d : α} (h : i < l.length) : l.getD i d = l[i] := by simp [List.getD, h]
/-- May a piece be, the i-th? -/
def pieceB (l : List (Int × Int)) (len : Int) (i : Nat) : Bool :=
  decide (-1048576 ≤ (l.getD i (0, 0)).2) && decide ((l.getD i (0, 0)).2 ≤ 1048576) && decide ((l.getD i (0, 0)).1 < len) && (decide (i = 0) || decide ((l.getD (i - 1) (0, 0)).1 < (l.getD i (0, 0)).1))
/-- May pieces be? -/
def gradeB (l : List (Int × Int)) (len : Int) : Bool := decide (1 ≤ l.length) && decide (l.length ≤ 64) && decide ((l.getD 0 (0, 0)).1 = 0) && (List.range l.length).all (pieceB l len)
theorem all_find {α : Type} {n : Nat} {b : Nat → Bool} {x y : α} : ((List.range n).findSome? fun i => bif b i then none else some x).getD y = bif (List.range n).all b then y else x := by
  cases h : (List.range n).all b with
  | true =>
    have : ((List.range n).findSome? fun i => bif b i then none else some x) = none := find_none.2 fun i hi => by
      rw [List.all_eq_true.1 h i (List.mem_range.2 hi)]; rfl
    rw [this]; rfl
  | false =>
    cases hf : ((List.range n).findSome? fun i => bif b i then none else some x) with
    | none =>
      have : (List.range n).all b = true := by
        rw [List.all_eq_true]
        intro i hi
        have := find_none.1 hf i (List.mem_range.1 hi)
        cases hb : b i with
        | true => rfl
        | false => rw [hb] at this; cases this
      rw [this] at h; cases h
    | some z =>
      obtain ⟨i, _, hi⟩ := List.exists_of_findSome?_eq_some hf
      cases hb : b i with
      | true => rw [hb] at hi; cases hi
      | false => rw [hb] at hi; cases hi; rfl
theorem piece0 {α : Type} (x : Int × Int) (len : Int) (q : Bool) (A B : α) : (bif (bif (bif (bif decide (x.2 < -1048576) then true else decide (1048576 < x.2)) then true else decide (len ≤ x.1)) then true else q) then A else B) =
    bif (decide (-1048576 ≤ x.2) && decide (x.2 ≤ 1048576) && decide (x.1 < len) && !q) then B else A := by
  have e1 : decide (-1048576 ≤ x.2) = !decide (x.2 < -1048576) := by rw [Bool.eq_iff_iff]; simp
  have e2 : decide (x.2 ≤ 1048576) = !decide (1048576 < x.2) := by rw [Bool.eq_iff_iff]; simp
  have e3 : decide (x.1 < len) = !decide (len ≤ x.1) := by rw [Bool.eq_iff_iff]; simp
  rw [e1, e2, e3]
  cases decide (x.2 < -1048576) <;> cases decide (1048576 < x.2) <;> cases decide (len ≤ x.1) <;> cases q <;> rfl
theorem f_gradeCheck (l : List (Int × Int)) (len : Int) (hl : l.length ≤ 9223372036854775806) : F_grade_Check l len = some (bif gradeB l len then 0 else 11) := by
  unfold F_grade_Check gradeB
  by_cases h0 : l.length = 0
  · simp [h0, chk]
  by_cases h1 : 64 < l.length
  · have e1 : ((l.length : Int) == 0) = false := by simpa using h0
    have e2 : decide ((64 : Int) < l.length) = true := by simp; omega
    have e3 : decide ((0 : Int) < l.length) = true := by simp; omega
    have e4 : decide (l.length ≤ 64) = false := by simp; omega
    simp [e1, e2, e3, e4, chk]
  have e1 : ((l.length : Int) == 0) = false := by simpa using h0
  have e2 : decide ((64 : Int) < l.length) = false := by simp; omega
  have e3 : decide ((0 : Int) < l.length) = true := by simp; omega
  have e4 : decide (l.length ≤ 64) = true := by simp; omega
  have e5 : decide (1 ≤ l.length) = true := by simp; omega
  rw [e1, e2, e3, e4, e5]
  simp only [cond_false, Bool.true_and, Bool.and_self, Bool.true_or, chk_yes]
  by_cases h2 : (l.getD 0 (0, 0)).1 = 0
  · have e6 : ((l.getD (0 : Int).toNat ((0 : Int), (0 : Int))).1 != 0) = false := by simpa using h2
    have e7 : decide ((l.getD 0 ((0 : Int), (0 : Int))).1 = 0) = true := by simpa using h2
    rw [e6, e7]
    simp only [cond_false, Bool.true_and]
    rw [loop_find l.length (fun i => bif pieceB l len i then none else some (.inl 11)) (.inr ())]
    · rw [all_find]
      cases (List.range l.length).all (pieceB l len) <;> rfl
    · intro i hi
      rw [decide_eq_true (show (i : Int) < l.length by omega), decide_eq_true (show (0 : Int) ≤ i by omega)]
      simp only [cond_true, Bool.and_self, chk_yes]
      rw [Int.toNat_natCast]
      have ew : IntKind.i64.wrap ((i : Int) - 1) = i - 1 := wrap_ok (by omega)
      have ew2 : IntKind.i64.wrap ((i : Int) + 1) = i + 1 := wrap_ok (by omega)
      rw [ew, ew2]
      rw [piece0]
      have fin : ∀ b c : Bool, b = c → (bif b then some (Sum.inl ((i : Int) + 1)) else some (Sum.inr (Sum.inl (11 : Int)))) = some (stepOut ((i : Int) + 1) (bif c then none else some (Sum.inl (11 : Int)) : Option (Int ⊕ Unit))) := by
        rintro b c rfl; cases b <;> rfl
      by_cases hi0 : i = 0
      · have e0 : decide ((0 : Int) < (i : Int)) = false := by simp [hi0]
        have e1 : pieceB l len i = (decide (-1048576 ≤ (l.getD i (0, 0)).2) && decide ((l.getD i (0, 0)).2 ≤ 1048576) && decide ((l.getD i (0, 0)).1 < len) && !(bif false then decide ((l.getD i (0, 0)).1 ≤ (l.getD ((i : Int) - 1).toNat (0, 0)).1) else false)) := by
          unfold pieceB; rw [decide_eq_true hi0]; rfl
        rw [e0, chk_yes (by simp)]
        exact fin _ _ e1.symm
      · have e0 : decide ((0 : Int) < (i : Int)) = true := by simp; omega
        have et : ((i : Int) - 1).toNat = i - 1 := by omega
        have e2 : decide ((l.getD (i - 1) (0, 0)).1 < (l.getD i (0, 0)).1) = !decide ((l.getD i (0, 0)).1 ≤ (l.getD (i - 1) (0, 0)).1) := by rw [Bool.eq_iff_iff]; simp
        have e1 : pieceB l len i = (decide (-1048576 ≤ (l.getD i (0, 0)).2) && decide ((l.getD i (0, 0)).2 ≤ 1048576) && decide ((l.getD i (0, 0)).1 < len) && !(bif true then decide ((l.getD i (0, 0)).1 ≤ (l.getD ((i : Int) - 1).toNat (0, 0)).1) else false)) := by
          unfold pieceB; rw [decide_eq_false hi0, et, e2]; rfl
        rw [e0, decide_eq_true (show (0 : Int) ≤ (i : Int) - 1 by omega), decide_eq_true (show (i : Int) - 1 < l.length by omega), chk_yes (by simp)]
        exact fin _ _ e1.symm
    · simp
  · have e6 : ((l.getD (0 : Int).toNat ((0 : Int), (0 : Int))).1 != 0) = true := by simpa using h2
    have e7 : decide ((l.getD 0 ((0 : Int), (0 : Int))).1 = 0) = false := by simpa using h2
    rw [e6, e7]; rfl
end Go.Proofs.Ytgogjcbfnnhaoaa

/- What the readings of tracks say. -/
set_option linter.unusedSimpArgs false
set_option linter.unusedVariables false
namespace Go.Proofs.Ytgogjcbfnnhaoaa
open Go.RowKit
abbrev Sg := Int × (List (Int × Int) × List Int)
abbrev Gp := Int × (Int × (Int × (Int × Int)))
abbrev Tk := List Sg × List Gp
def sg0 : Sg := (0, [], [])
def gp0 : Gp := (0, 0, 0, 0, 0)
def wayB (n : Nat) (l : List Int) (i : Nat) : Bool := decide (0 ≤ l.getD i 0) && decide (l.getD i 0 < n) && (decide (i = 0) || decide (l.getD (i - 1) 0 < l.getD i 0))
def segB (n : Nat) (s : Sg) : Bool := decide (1 ≤ s.1) && decide (s.1 ≤ 1099511627776) && gradeB s.2.1 s.1 && decide (s.2.2.length ≤ 2) && (List.range s.2.2.length).all (wayB n s.2.2)
def grpB (t : Tk) (i : Nat) (g : Gp) : Bool :=
  decide (1 ≤ g.1) && decide (g.1 ≤ 65535) && (decide (i = 0) || decide ((t.2.getD (i - 1) gp0).1 < g.1)) && decide (0 ≤ g.2.1) && decide (g.2.1 < t.1.length) &&
  (decide (0 ≤ g.2.2.1) && decide (g.2.2.1 ≤ (t.1.getD g.2.1.toNat sg0).1) && decide (0 ≤ g.2.2.2.1) && decide (g.2.2.2.1 ≤ 1048576) && decide (0 ≤ g.2.2.2.2) && decide (g.2.2.2.2 ≤ 16777216))
def big : Nat := 9223372036854775806
theorem not_lt_dec {a b : Int} : decide (a ≤ b) = !decide (b < a) := by rw [Bool.eq_iff_iff]; simp
theorem not_le_dec {a b : Int} : decide (a < b) = !decide (b ≤ a) := by rw [Bool.eq_iff_iff]; simp
theorem f_segment (t : Tk) (s : Sg) (h1 : t.1.length ≤ big) (h2 : s.2.1.length ≤ big) (h3 : s.2.2.length ≤ big) : F_track_Track_segment t s = some (segB t.1.length s) := by
  unfold big at *
  unfold F_track_Track_segment segB
  rw [f_gradeCheck _ _ h2, @not_lt_dec 1 s.1, @not_lt_dec s.1 1099511627776]
  simp only []
  cases decide (s.1 < 1) <;> cases decide (1099511627776 < s.1) <;> cases hg : gradeB s.2.1 s.1 <;> first | rfl | skip
  by_cases h4 : 2 < (s.2.2.length : Int)
  · have e : decide (s.2.2.length ≤ 2) = false := by simp; omega
    rw [decide_eq_true h4, e]; rfl
  · have e : decide (s.2.2.length ≤ 2) = true := by simp; omega
    rw [decide_eq_false h4, e]
    simp only [cond_false, cond_true, Bool.not_false, Option.bind_some, Bool.true_and, bne_self_eq_false, Bool.not_true, Bool.and_self]
    rw [loop_find s.2.2.length (fun i => bif wayB t.1.length s.2.2 i then none else some (.inl false)) (.inr ())]
    · rw [all_find]
      cases (List.range s.2.2.length).all (wayB t.1.length s.2.2) <;> rfl
    · intro i hi
      have ew : IntKind.i64.wrap ((i : Int) - 1) = i - 1 := wrap_ok (by omega)
      have ew2 : IntKind.i64.wrap ((i : Int) + 1) = i + 1 := wrap_ok (by omega)
      rw [decide_eq_true (show (i : Int) < s.2.2.length by omega), decide_eq_true (show (0 : Int) ≤ i by omega), ew, ew2, Int.toNat_natCast]
      simp only [cond_true, Bool.and_self, chk_yes]
      have fin : ∀ b c : Bool, b = !c → (bif b then some (Sum.inr (Sum.inl false)) else some (Sum.inl ((i : Int) + 1))) = some (stepOut ((i : Int) + 1) (bif c then none else some (Sum.inl false) : Option (Bool ⊕ Unit))) := by
        rintro b c rfl; cases c <;> rfl
      by_cases hi0 : i = 0
      · rw [chk_yes (by simp [hi0])]
        refine fin _ _ ?_
        unfold wayB
        rw [decide_eq_true hi0, show decide ((0 : Int) < (i : Int)) = false by simp [hi0], @not_lt_dec 0 (s.2.2.getD i 0), @not_le_dec (s.2.2.getD i 0) t.1.length]
        cases decide (s.2.2.getD i 0 < 0) <;> cases decide ((t.1.length : Int) ≤ s.2.2.getD i 0) <;> rfl
      · rw [chk_yes (by simp; omega)]
        refine fin _ _ ?_
        have et : ((i : Int) - 1).toNat = i - 1 := by omega
        unfold wayB
        rw [decide_eq_false hi0, show decide ((0 : Int) < (i : Int)) = true by simp; omega, @not_lt_dec 0 (s.2.2.getD i 0), @not_le_dec (s.2.2.getD i 0) t.1.length, @not_le_dec (s.2.2.getD (i - 1) 0) (s.2.2.getD i 0), et]
        cases decide (s.2.2.getD i 0 < 0) <;> cases decide ((t.1.length : Int) ≤ s.2.2.getD i 0) <;> cases decide (s.2.2.getD i 0 ≤ s.2.2.getD (i - 1) 0) <;> rfl
    · simp
theorem f_group (t : Tk) (i : Nat) (g : Gp) (h1 : t.1.length ≤ big) (hi : i < t.2.length) (h2 : t.2.length ≤ big) : F_track_Track_group t i g = some (grpB t i g) := by
  unfold big at *
  unfold F_track_Track_group
  have ew : IntKind.i64.wrap ((i : Int) - 1) = i - 1 := wrap_ok (by omega)
  rw [ew]
  by_cases hi0 : i = 0
  · rw [chk_yes (by simp [hi0])]
    unfold grpB
    rw [decide_eq_true hi0, show decide ((0 : Int) < (i : Int)) = false by simp [hi0], @not_lt_dec 1 g.1, @not_lt_dec g.1 65535, @not_lt_dec 0 g.2.1, @not_le_dec g.2.1 t.1.length]
    cases a1 : decide (g.1 < 1) <;> cases a2 : decide (65535 < g.1) <;> cases a3 : decide (g.2.1 < 0) <;> cases a4 : decide ((t.1.length : Int) ≤ g.2.1) <;> first | rfl | skip
    simp only [cond_false, cond_true, Bool.not_false, Bool.not_true, Bool.true_or, Bool.true_and, Bool.and_true, Bool.cond_false_right, chk_yes]
    rfl
  · have et : ((i : Int) - 1).toNat = i - 1 := by omega
    rw [chk_yes (by simp; omega), et]
    simp only []
    unfold grpB gp0
    rw [decide_eq_false hi0, show decide ((0 : Int) < (i : Int)) = true by simp; omega, @not_lt_dec 1 g.1, @not_lt_dec g.1 65535, @not_lt_dec 0 g.2.1, @not_le_dec g.2.1 t.1.length, @not_le_dec (t.2.getD (i - 1) (0, 0, 0, 0, 0)).1 g.1]
    cases a1 : decide (g.1 < 1) <;> cases a2 : decide (65535 < g.1) <;> cases a5 : decide (g.1 ≤ (t.2.getD (i - 1) (0, 0, 0, 0, 0)).1) <;> cases a3 : decide (g.2.1 < 0) <;> cases a4 : decide ((t.1.length : Int) ≤ g.2.1) <;> first | rfl | skip
    simp only [cond_false, cond_true, Bool.not_false, Bool.not_true, Bool.true_or, Bool.true_and, Bool.and_true, Bool.cond_false_right, Bool.false_or, chk_yes]
    rfl
/-- The first of n that isn't so. -/
def firstN (b : Nat → Bool) (n : Nat) : Option Nat := (List.range n).findSome? fun i => bif b i then none else some i
def checkI (t : Tk) : Int × Int :=
  if t.1.length = 0 ∨ 200 < t.1.length ∨ 400 < t.2.length then (13, 0) else
    match firstN (fun i => segB t.1.length (t.1.getD i sg0)) t.1.length with
    | some i => (11, i)
    | none => match firstN (fun i => grpB t i (t.2.getD i gp0)) t.2.length with
      | some i => (16, i)
      | none => (0, 0)
theorem findSome_map {α β : Type} (n : Nat) (b : Nat → Bool) (g : Nat → β) : ((List.range n).findSome? fun i => bif b i then none else some (g i)) = (firstN b n).map g := by
  unfold firstN
  induction List.range n with
  | nil => rfl
  | cons i l ih =>
    rw [List.findSome?_cons, List.findSome?_cons]
    cases b i
    · rfl
    · exact ih
theorem firstN_none {b : Nat → Bool} {n : Nat} : firstN b n = none ↔ ∀ i, i < n → b i = true := by
  unfold firstN
  rw [find_none]
  constructor
  · intro h i hi
    have := h i hi
    cases hb : b i with
    | true => rfl
    | false => rw [hb] at this; cases this
  · intro h i hi
    rw [h i hi]; rfl
def Sizes (t : Tk) : Prop := t.1.length ≤ big ∧ t.2.length ≤ big ∧ ∀ s ∈ t.1, s.2.1.length ≤ big ∧ s.2.2.length ≤ big
theorem f_Check (t : Tk) (h : t.1.length ≤ 200 → ∀ s ∈ t.1, s.2.1.length ≤ big ∧ s.2.2.length ≤ big) : F_track_Track_Check t = some (checkI t) := by
  unfold F_track_Track_Check checkI
  by_cases h1 : t.1.length = 0
  · rw [if_pos (.inl h1)]; simp [h1]
  by_cases h2 : 200 < t.1.length
  · rw [if_pos (.inr (.inl h2))]
    have e1 : ((t.1.length : Int) == 0) = false := by simpa using h1
    have e2 : decide ((200 : Int) < t.1.length) = true := by simp; omega
    rw [e1, e2]; rfl
  by_cases h3 : 400 < t.2.length
  · rw [if_pos (.inr (.inr h3))]
    have e1 : ((t.1.length : Int) == 0) = false := by simpa using h1
    have e2 : decide ((200 : Int) < t.1.length) = false := by simp; omega
    have e3 : decide ((400 : Int) < t.2.length) = true := by simp; omega
    rw [e1, e2, e3]; rfl
  rw [if_neg (by omega)]
  have e1 : ((t.1.length : Int) == 0) = false := by simpa using h1
  have e2 : decide ((200 : Int) < t.1.length) = false := by simp; omega
  have e3 : decide ((400 : Int) < t.2.length) = false := by simp; omega
  rw [e1, e2, e3]
  simp only [cond_false]
  rw [loop_find t.1.length (fun i => bif segB t.1.length (t.1.getD i sg0) then none else some (.inl ((i : Int), (11 : Int)))) (.inr ()), findSome_map (α := Unit)]
  · cases hf : firstN (fun i => segB t.1.length (t.1.getD i sg0)) t.1.length with
    | some i => rfl
    | none =>
      simp only [Option.map_none, Option.getD_none, Option.bind_some]
      rw [loop_find t.2.length (fun i => bif grpB t i (t.2.getD i gp0) then none else some (.inl ((16 : Int), (i : Int)))) (.inr ()), findSome_map (α := Unit)]
      · cases firstN (fun i => grpB t i (t.2.getD i gp0)) t.2.length <;> rfl
      · intro i hi
        have ew2 : IntKind.i64.wrap ((i : Int) + 1) = i + 1 := wrap_ok (by omega)
        rw [decide_eq_true (show (i : Int) < t.2.length by omega), decide_eq_true (show (0 : Int) ≤ i by omega), ew2, Int.toNat_natCast]
        simp only [cond_true, Bool.and_self, chk_yes]
        rw [f_group t i _ (by unfold big; omega) hi (by unfold big; omega)]
        show Option.bind (some (grpB t i (t.2.getD i gp0))) _ = _
        cases grpB t i (t.2.getD i gp0) <;> rfl
      · simp
  · intro i hi
    have ew2 : IntKind.i64.wrap ((i : Int) + 1) = i + 1 := wrap_ok (by omega)
    rw [decide_eq_true (show (i : Int) < t.1.length by omega), decide_eq_true (show (0 : Int) ≤ i by omega), ew2, Int.toNat_natCast]
    simp only [cond_true, Bool.and_self, chk_yes]
    have hm : t.1.getD i ((0 : Int), ([], [])) ∈ t.1 := by rw [getD_lt hi]; exact List.getElem_mem hi
    obtain ⟨k1, k2⟩ := h (by omega) _ hm
    rw [f_segment t _ (by unfold big; omega) k1 k2]
    show Option.bind (some (segB t.1.length (t.1.getD i sg0))) _ = _
    cases segB t.1.length (t.1.getD i sg0) <;> rfl
  · simp
/-- How long all rows of a track may be. -/
def Rows (t : Tk) : Prop := t.1.length ≤ 140737488351232 ∧ t.2.length ≤ 140737488351232 ∧ ∀ s ∈ t.1, s.2.1.length ≤ 140737488351232 ∧ s.2.2.length ≤ 140737488351232
theorem rows_fits {t : Tk} (h : Fits (.agg (.pair (.slice (.agg (.pair (.int .i64) (.pair (.slice (.agg (.pair (.int .i64) (.int .i64)))) (.slice (.int .i64)))))) (.slice (.agg (.pair (.int .i64) (.pair (.int .i64) (.pair (.int .i64) (.pair (.int .i64) (.int .i64))))))))) t) : Rows t :=
  ⟨h.1.1, h.2.1, fun s hs => ⟨(h.1.2 s hs).2.1.1, (h.1.2 s hs).2.2.1⟩⟩
end Go.Proofs.Ytgogjcbfnnhaoaa

/- Searching by halves, and what the readings of it say. -/
set_option linter.unusedSimpArgs false
set_option linter.unusedVariables false
namespace Go.Proofs.Ytgogjcbfnnhaoaa
open Go.RowKit
theorem bsearch {f : Int × Int → Option ((Int × Int) ⊕ Int)} (n : Nat) (lt : Nat → Bool)
    (h1 : ∀ i j : Nat, i < j → j ≤ n → f ((j : Int), (i : Int)) = some (.inl (bif lt ((i + j) / 2) then ((j : Int), (((i + j) / 2 : Nat) : Int) + 1) else ((((i + j) / 2 : Nat) : Int), (i : Int)))))
    (h2 : ∀ i j : Nat, ¬ i < j → f ((j : Int), (i : Int)) = some (.inr (i : Int))) (mono : ∀ a b, a ≤ b → b < n → lt b = true → lt a = true) :
    ∃ r : Nat, loopO f ((n : Int), (0 : Int)) = some (r : Int) ∧ r ≤ n ∧ (∀ k, k < r → lt k = true) ∧ ∀ k, r ≤ k → k < n → lt k = false := by
  have := loopO_inv (f := f) (fun s => ∃ i j : Nat, s = ((j : Int), (i : Int)) ∧ i ≤ j ∧ j ≤ n ∧ (∀ k, k < i → lt k = true) ∧ ∀ k, j ≤ k → k < n → lt k = false) (fun s => (s.1 - s.2).toNat)
    (fun x => ∃ r : Nat, x = (r : Int) ∧ r ≤ n ∧ (∀ k, k < r → lt k = true) ∧ ∀ k, r ≤ k → k < n → lt k = false) ?_ ((n : Int), (0 : Int)) ⟨0, n, rfl, by omega, by omega, fun k hk => by omega, fun k h1 h2 => by omega⟩
  · obtain ⟨x, e, r, rfl, h⟩ := this
    exact ⟨r, e, h⟩
  · rintro _ ⟨i, j, rfl, k1, k2, k3, k4⟩
    by_cases hij : i < j
    · right
      refine ⟨_, h1 i j hij k2, ?_, ?_⟩
      · cases hl : lt ((i + j) / 2) with
        | true =>
          refine ⟨(i + j) / 2 + 1, j, rfl, by omega, k2, fun k hk => mono k _ (by omega) (by omega) hl, k4⟩
        | false =>
          refine ⟨i, (i + j) / 2, rfl, by omega, by omega, k3, fun k q1 q2 => ?_⟩
          cases hk : lt k with
          | false => rfl
          | true => rw [mono _ k q1 q2 hk] at hl; cases hl
      · cases lt ((i + j) / 2)
        · simp only [cond_false]; omega
        · simp only [cond_true]; omega
    · left
      exact ⟨_, h2 i j hij, i, rfl, by omega, k3, fun k q1 q2 => k4 k (by omega) q2⟩
theorem half_nat (i j : Nat) (h : i + j ≤ 9223372036854775806) : IntKind.i64.wrap ((IntKind.u64.wrap (IntKind.i64.wrap ((i : Int) + (j : Int)))).fdiv (2 ^ 1)) = (((i + j) / 2 : Nat) : Int) := by
  rw [wrap_ok (n := (i : Int) + j) (by omega), uwrap_of, Int.emod_eq_of_lt (by omega) (by omega), Int.fdiv_eq_ediv_of_nonneg _ (by decide)]
  rw [wrap_ok (by omega)]
  omega
theorem f_Compare (a b : Int) : F_cmp_Compare_int a b = some (cmpI a b) := by
  unfold F_cmp_Compare_int F_cmp_isNaN_int cmpI
  by_cases h1 : a < b
  · simp [h1]
  · by_cases h2 : b < a
    · have : a ≠ b := by omega
      simp [h1, h2, this]
    · have : a = b := by omega
      subst this
      simp
/-- A group by its Id: how many have a lower one (of groups in order), and whether it is there. -/
theorem f_search11 (l : List Gp) (id : Int) (hl : l.length ≤ 4611686018427387903) (hs : ∀ a b : Nat, a ≤ b → b < l.length → (l.getD a gp0).1 ≤ (l.getD b gp0).1) :
    ∃ r : Nat, F_slices_BinarySearchFunc_track_Group_track_Group_int l id = some ((r : Int), decide (r < l.length) && decide ((l.getD r gp0).1 = id)) ∧ r ≤ l.length ∧
      (∀ k, k < r → (l.getD k gp0).1 < id) ∧ ∀ k, r ≤ k → k < l.length → id ≤ (l.getD k gp0).1 := by
  have hc : ∀ g : Gp, F_track_Track_Find_1 g id = some (cmpI g.1 id) := by
    intro g
    unfold F_track_Track_Find_1
    rw [f_Compare]; rfl
  have hb := bsearch (f := fun (s_3 : (Int × Int)) =>
      let j_4 : Int := s_3.1
      let i_5 : Int := s_3.2
      (bif (decide (i_5 < j_4)) then
        let t20_6 : Int := (IntKind.wrap .i64 (i_5 + j_4))
        let t21_7 : Int := (IntKind.wrap .u64 t20_6)
        let t23_8 : Int := (IntKind.wrap .i64 (t21_7.fdiv (2 ^ 1)))
        chk none ((decide ((0 : Int) ≤ t23_8)) && (decide (t23_8 < (l.length : Int)))) <|
        let t28_9 : (Int × (Int × (Int × (Int × Int)))) := (l.getD t23_8.toNat ((0 : Int), ((0 : Int), ((0 : Int), ((0 : Int), (0 : Int))))))
        (F_track_Track_Find_1 t28_9 id).bind fun t30_10 =>
        let t31_11 : Bool := (decide (t30_10 < (0 : Int)))
        Option.bind (
          (bif t31_11 then
            let t33_12 : Int := (IntKind.wrap .i64 (t23_8 + (1 : Int)))
            some (t33_12, j_4)
          else
            some (i_5, t23_8))) fun r_13 =>
        let i_14 : Int := r_13.1
        let j_15 : Int := r_13.2
        some (.inl (j_15, i_14))
      else
        some (.inr i_5))) l.length (fun k => decide ((l.getD k gp0).1 < id)) ?_ ?_ ?_
  · obtain ⟨r, e, h1, h2, h3⟩ := hb
    refine ⟨r, ?_, h1, fun k hk => of_decide_eq_true (h2 k hk), fun k q1 q2 => ?_⟩
    · unfold F_slices_BinarySearchFunc_track_Group_track_Group_int
      rw [e, Option.bind_some]
      by_cases hr : r < l.length
      · have e1 : decide ((r : Int) < l.length) = true := by simp; omega
        have e2 : decide ((0 : Int) ≤ r) = true := by simp
        have e3 : decide (r < l.length) = true := by simp; omega
        have hge := h3 r (by omega) hr
        rw [decide_eq_false_iff_not] at hge
        simp only [e1, e2, e3, Bool.and_self, Bool.true_or, chk_yes, cond_true, Int.toNat_natCast, hc, Option.bind_some, Bool.true_and]
        refine congrArg some (Prod.ext rfl ?_)
        show (cmpI (l.getD r gp0).1 id == 0) = decide ((l.getD r gp0).1 = id)
        generalize (l.getD r gp0).1 = x at *
        by_cases hx : x = id
        · rw [cmpI_eq hx, decide_eq_true hx]; rfl
        · rw [cmpI_gt (show id < x by omega), decide_eq_false hx]; rfl
      · have e1 : decide ((r : Int) < l.length) = false := by simp; omega
        have e3 : decide (r < l.length) = false := by simp; omega
        simp only [e1, e3, Bool.and_false, Bool.not_false, Bool.or_true, chk_yes, cond_false, Option.bind_some, Bool.false_and]
    · have := h3 k q1 q2
      rw [decide_eq_false_iff_not] at this
      omega
  · intro i j hij hj
    have e0 : decide ((i : Int) < j) = true := by simp; omega
    simp only [e0, cond_true, half_nat i j (by omega)]
    have e1 : decide ((0 : Int) ≤ (((i + j) / 2 : Nat) : Int)) = true := decide_eq_true (Int.natCast_nonneg _)
    have e2 : decide ((((i + j) / 2 : Nat) : Int) < l.length) = true := by simp; omega
    simp only [e1, e2, Bool.and_self, chk_yes, Int.toNat_natCast, hc, Option.bind_some]
    show Option.bind (bif decide (cmpI (l.getD ((i + j) / 2) gp0).1 id < 0) then _ else _) _ = _
    have e3 : decide (cmpI (l.getD ((i + j) / 2) gp0).1 id < 0) = decide ((l.getD ((i + j) / 2) gp0).1 < id) := by rw [Bool.eq_iff_iff, decide_eq_true_eq, decide_eq_true_eq, cmpI_neg]
    rw [e3]
    cases decide ((l.getD ((i + j) / 2) gp0).1 < id)
    · rfl
    · simp only [cond_true, Option.bind_some]
      rw [wrap_ok (by omega)]
  · intro i j hij
    have e0 : decide ((i : Int) < j) = false := by simp; omega
    simp only [e0, cond_false]
  · intro a b hab hb h
    rw [decide_eq_true_eq] at h ⊢
    have := hs a b hab hb
    omega
theorem f_Find (t : Tk) (id : Int) (hl : t.2.length ≤ 4611686018427387903) (hs : ∀ a b : Nat, a ≤ b → b < t.2.length → (t.2.getD a gp0).1 ≤ (t.2.getD b gp0).1) :
    ∃ r : Nat, F_track_Track_Find t id = some ((r : Int), decide (r < t.2.length) && decide ((t.2.getD r gp0).1 = id)) ∧ r ≤ t.2.length ∧
      (∀ k, k < r → (t.2.getD k gp0).1 < id) ∧ ∀ k, r ≤ k → k < t.2.length → id ≤ (t.2.getD k gp0).1 := by
  obtain ⟨r, e, h⟩ := f_search11 t.2 id hl hs
  refine ⟨r, ?_, h⟩
  unfold F_track_Track_Find
  rw [e]; rfl
end Go.Proofs.Ytgogjcbfnnhaoaa

/- Tracks as the document has them: what their readings say. -/
set_option linter.unusedSimpArgs false
set_option linter.unusedVariables false
namespace Go.Proofs.Ytgogjcbfnnhaoaa
open Go.RowKit
/-- A loop of n rounds whose states are known. -/
theorem loop_run {S X : Type} {f : S → Option (S ⊕ X)} (n : Nat) (st : Nat → S) (x : X) (h : ∀ i, i < n → f (st i) = some (.inl (st (i + 1)))) (he : f (st n) = some (.inr x)) : loopO f (st 0) = some x := by
  have key : ∀ k j : Nat, j + k = n → loopN f (k + 1) (st j) = some x := by
    intro k
    induction k with
    | zero => intro j hj; obtain rfl : j = n := by omega
              rw [loopN, he]
    | succ k ih => intro j hj; rw [loopN, h j (by omega)]; exact ih (j + 1) (by omega)
  exact loopO_of (key n 0 (by omega))
theorem take_succ_getD {α : Type} {l : List α} {i : Nat} {d : α} (h : i < l.length) : l.take i ++ [l.getD i d] = l.take (i + 1) := by
  rw [getD_lt h, List.take_add_one, List.getElem?_eq_getElem h]; rfl
theorem loop_find_st {S X : Type} {f : S → Option (S ⊕ X)} (n : Nat) (st : Nat → S) (step : Nat → Option X) (xe : X) {s0 : S} (h0 : st 0 = s0)
    (h : ∀ i : Nat, i < n → (∀ j, j < i → step j = none) → f (st i) = some (match step i with | some x => .inr x | none => .inl (st (i + 1)))) (he : f (st n) = some (.inr xe)) :
    loopO f s0 = some (((List.range n).findSome? step).getD xe) := by
  subst h0
  have key : ∀ (k j : Nat), j + k = n → (∀ i, i < j → step i = none) → loopN f (k + 1) (st j) = some (((List.range' j k).findSome? step).getD xe) := by
    intro k
    induction k with
    | zero =>
      intro j hj _
      have : j = n := by omega
      subst this
      simp [loopN, he]
    | succ k ih =>
      intro j hj hn
      rw [loopN, h j (by omega) hn, range'_findSome_cons]
      cases hs : step j with
      | some x => rfl
      | none =>
        have := ih (j + 1) (by omega) (fun i hi => by rcases Nat.lt_succ_iff_lt_or_eq.1 hi with hi | rfl; exact hn i hi; exact hs)
        rw [← this]
  have := loopO_of (key n 0 (by omega) (fun i hi => by omega))
  rw [List.range_eq_range']
  exact this
theorem bif_none {α : Type} (b : Bool) (x : α) : (bif b then none else some x : Option α) = if b = true then none else some x := by cases b <;> rfl
/-- The group ahead's Id, or 0. -/
def lastI (t : Tk) (i : Nat) : Int := if i = 0 then 0 else (t.2.getD (i - 1) gp0).1
end Go.Proofs.Ytgogjcbfnnhaoaa

/- What the readings of the packages num and wide say, in plain numbers. -/
set_option linter.unusedSimpArgs false
set_option linter.unusedVariables false
namespace Go.Proofs.Ytgogjcbfnnhaoaa
theorem bits_go (k : IntKind) (op : BinOp) (x y : Int) (h : op = .and ∨ op = .or ∨ op = .xor) : bits k op x y = Go.bits op k x y := by
  rcases h with rfl | rfl | rfl <;> rfl
theorem fdiv_pow (x : Int) (n : Nat) : x.fdiv (2 ^ n) = x / 2 ^ n := Int.fdiv_eq_ediv_of_nonneg x (Int.le_of_lt (pow_pos' n))
theorem chk_none {ρ : Type} {c : Bool} {k : Option ρ} (h : c = true) : chk none c k = k := by
  subst h; rfl
theorem f_Size (a : Int) (ha : I64 a) : F_num_Size a = some (if a < 0 then -a else a) := by
  obtain ⟨h1, h2⟩ := ha
  unfold F_num_Size
  simp only [cond_eq_ite, decide_eq_true_eq, uwrap_of, IntKind.wrap_i64]
  repeat' split
  all_goals first | (exfalso; omega) | (congr 1; omega)
theorem f_NumAdd (a b : Int) (ha : I64 a) (hb : I64 b) : F_num_Add a b = some (or0 (a + b), in64 (a + b)) := by
  obtain ⟨h1, h2⟩ := ha
  obtain ⟨h3, h4⟩ := hb
  unfold F_num_Add
  by_cases h : -9223372036854775808 ≤ a + b ∧ a + b ≤ 9223372036854775807
  · rw [or0_yes h, in64_yes h]
    simp only [cond_eq_ite, IntKind.wrap_i64, beq_iff_eq, decide_eq_decide, Bool.ite_eq_true_distrib, Bool.not_eq_true', Bool.and_eq_true, beq_eq_false_iff_ne, ne_eq]
    rw [if_neg]
    · congr 2; omega
    · simp; omega
  · rw [or0_no h, in64_no h]
    simp only [cond_eq_ite, IntKind.wrap_i64, beq_iff_eq, decide_eq_decide, Bool.ite_eq_true_distrib, Bool.not_eq_true', Bool.and_eq_true, beq_eq_false_iff_ne, ne_eq]
    rw [if_pos]
    simp; omega
theorem f_NumSub (a b : Int) (ha : I64 a) (hb : I64 b) : F_num_Sub a b = some (or0 (a - b), in64 (a - b)) := by
  obtain ⟨h1, h2⟩ := ha
  obtain ⟨h3, h4⟩ := hb
  unfold F_num_Sub
  by_cases h : -9223372036854775808 ≤ a - b ∧ a - b ≤ 9223372036854775807
  · rw [or0_yes h, in64_yes h]
    simp only [cond_eq_ite, IntKind.wrap_i64, beq_iff_eq, decide_eq_decide, Bool.ite_eq_true_distrib, Bool.not_eq_true', Bool.and_eq_true, beq_eq_false_iff_ne, ne_eq]
    rw [if_neg]
    · congr 2; omega
    · simp; omega
  · rw [or0_no h, in64_no h]
    simp only [cond_eq_ite, IntKind.wrap_i64, beq_iff_eq, decide_eq_decide, Bool.ite_eq_true_distrib, Bool.not_eq_true', Bool.and_eq_true, beq_eq_false_iff_ne, ne_eq]
    rw [if_pos]
    simp; omega
theorem eqT_int (k : IntKind) (a b : Int) : eqT (.int k) a b = decide (a = b) := rfl
theorem eqT_bool (a b : Bool) : eqT .bool a b = (a == b) := rfl
theorem eqT_pair (a b : Ty) (x y : (Ty.pair a b).den) : eqT (.pair a b) x y = (eqT a x.1 y.1 && eqT b x.2 y.2) := rfl
theorem eqT_agg (a : Ty) (x y : (Ty.agg a).den) : eqT (.agg a) x y = eqT a x y := rfl
theorem f_Mul (a b : Int) (ha : U64 a) (hb : U64 b) : F_wide_Mul a b = some (hiU (a * b), loU (a * b)) := by
  obtain ⟨h1, h2⟩ := mul_plain a b ha hb
  have e : (2 : Int) ^ 32 = 4294967296 := rfl
  unfold F_wide_Mul
  simp only [bits_go _ _ _ _ (.inl rfl), bits_go _ _ _ _ (.inr (.inl rfl)), fdiv_pow]
  simp only [e, hiU, loU]
  exact congrArg some (Prod.ext h1 h2)
theorem f_Cmp (xh xl yh yl : Int) (h1 : U64 xh) (h2 : U64 xl) (h3 : U64 yh) (h4 : U64 yl) : F_wide_U_Cmp (xh, xl) (yh, yl) = some (cmpI (vU xh xl) (vU yh yl)) := by
  obtain ⟨h11, h12⟩ := h1
  obtain ⟨h21, h22⟩ := h2
  obtain ⟨h31, h32⟩ := h3
  obtain ⟨h41, h42⟩ := h4
  unfold F_wide_U_Cmp cmpI vU
  simp only [eqT_agg, eqT_pair, eqT_int, cond_eq_ite, Bool.or_eq_true, Bool.and_eq_true, beq_iff_eq, decide_eq_true_eq, Bool.ite_eq_true_distrib, Bool.true_eq_false, Bool.false_eq_true, if_true_left, if_false_right, if_true, if_false]
  repeat' split
  all_goals first | rfl | (exfalso; omega)
theorem f_Add (xh xl yh yl : Int) (h1 : U64 xh) (h2 : U64 xl) (h3 : U64 yh) (h4 : U64 yl) : F_wide_U_Add (xh, xl) (yh, yl) =
    some ((hiU ((vU xh xl + vU yh yl) % 340282366920938463463374607431768211456), loU ((vU xh xl + vU yh yl) % 340282366920938463463374607431768211456)), decide (340282366920938463463374607431768211456 ≤ vU xh xl + vU yh yl)) := by
  obtain ⟨h11, h12⟩ := h1
  obtain ⟨h21, h22⟩ := h2
  obtain ⟨h31, h32⟩ := h3
  obtain ⟨h41, h42⟩ := h4
  unfold F_wide_U_Add
  simp only [Bool.cond_true_left, Bool.cond_false_right, uwrap_of, cond_eq_ite, Option.bind_some, decide_eq_true_eq, hiU, loU]
  repeat' split
  all_goals
    simp only [Option.some.injEq, Prod.mk.injEq, Option.bind_some]
    refine ⟨⟨?_, ?_⟩, ?_⟩
    all_goals first | (unfold vU; omega) | (rw [Bool.eq_iff_iff]; simp only [decide_eq_true_eq, Bool.or_eq_true, Bool.and_eq_true, beq_iff_eq, true_iff]; unfold vU; omega)
theorem f_Sub (xh xl yh yl : Int) (h1 : U64 xh) (h2 : U64 xl) (h3 : U64 yh) (h4 : U64 yl) : F_wide_U_Sub (xh, xl) (yh, yl) =
    some ((hiU ((vU xh xl - vU yh yl) % 340282366920938463463374607431768211456), loU ((vU xh xl - vU yh yl) % 340282366920938463463374607431768211456)), decide (vU xh xl < vU yh yl)) := by
  have hc := f_Cmp xh xl yh yl h1 h2 h3 h4
  obtain ⟨h11, h12⟩ := h1
  obtain ⟨h21, h22⟩ := h2
  obtain ⟨h31, h32⟩ := h3
  obtain ⟨h41, h42⟩ := h4
  unfold F_wide_U_Sub
  simp only [hc, uwrap_of, cond_eq_ite, Option.bind_some, decide_eq_true_eq, cmpI_neg]
  simp only [hiU, loU, vU]
  repeat' split
  all_goals
    simp only [Option.some.injEq, Prod.mk.injEq, Option.bind_some]
    refine ⟨⟨?_, ?_⟩, ?_⟩
    all_goals first | omega | trivial
theorem f_Shr (h l n : Int) (hh : U64 h) (hl : U64 l) (hn : I64 n) : F_wide_U_Shr (h, l) n = some (hiU (vU h l / 2 ^ n.toNat), loU (vU h l / 2 ^ n.toNat)) := by
  obtain ⟨h5, h6⟩ := hn
  unfold F_wide_U_Shr
  simp only [cond_eq_ite, decide_eq_true_eq, Option.bind_some]
  split
  · rw [show n.toNat = 0 by omega, Int.pow_zero, Int.ediv_one, hiU_v hl, loU_v hl]
  · have hw : IntKind.u64.wrap n = n := by rw [uwrap_of]; omega
    split
    · have hw2 : IntKind.u64.wrap (IntKind.i64.wrap (n - 64)) = n - 64 := by rw [uwrap_of, IntKind.wrap_i64]; omega
      simp only [hw2, fdiv_pow]
      rw [chk_none (by simp; omega), show min (n - 64).toNat 64 = min (n.toNat - 64) 64 by omega, (shr_far h l n.toNat (by omega) hh hl).1, (shr_far h l n.toNat (by omega) hh hl).2]
    · have hw2 : IntKind.u64.wrap (IntKind.i64.wrap (64 - n)) = 64 - n := by rw [uwrap_of, IntKind.wrap_i64]; omega
      simp only [hw2, hw, fdiv_pow, bits_go _ _ _ _ (.inr (.inl rfl))]
      rw [chk_none (by simp; omega), chk_none (by simp; omega), chk_none (by simp; omega), show min (64 - n).toNat 64 = 64 - n.toNat by omega, show min n.toNat 64 = n.toNat by omega, shr_lo h l n.toNat (by omega) (by omega) hh hl, shr_hi h l n.toNat (by omega) hl]
theorem f_Shl (h l n : Int) (hh : U64 h) (hl : U64 l) (hn : I64 n) : F_wide_U_Shl (h, l) n = some (hiU (vU h l * 2 ^ n.toNat % 340282366920938463463374607431768211456), loU (vU h l * 2 ^ n.toNat % 340282366920938463463374607431768211456)) := by
  obtain ⟨h5, h6⟩ := hn
  have h128 := vU_128 hh hl
  unfold F_wide_U_Shl
  simp only [cond_eq_ite, decide_eq_true_eq, Option.bind_some]
  split
  · rw [show n.toNat = 0 by omega, Int.pow_zero, Int.mul_one, Int.emod_eq_of_lt h128.1 (by have := h128.2; omega), hiU_v hl, loU_v hl]
  · have hw : IntKind.u64.wrap n = n := by rw [uwrap_of]; omega
    split
    · have hw2 : IntKind.u64.wrap (IntKind.i64.wrap (n - 64)) = n - 64 := by rw [uwrap_of, IntKind.wrap_i64]; omega
      simp only [hw2]
      rw [chk_none (by simp; omega), show min (n - 64).toNat 64 = min (n.toNat - 64) 64 by omega, (shl_far h l n.toNat (by omega)).1, (shl_far h l n.toNat (by omega)).2]
    · have hw2 : IntKind.u64.wrap (IntKind.i64.wrap (64 - n)) = 64 - n := by rw [uwrap_of, IntKind.wrap_i64]; omega
      simp only [hw2, hw, fdiv_pow, bits_go _ _ _ _ (.inr (.inl rfl))]
      rw [chk_none (by simp; omega), chk_none (by simp; omega), chk_none (by simp; omega), show min (64 - n).toNat 64 = 64 - n.toNat by omega, show min n.toNat 64 = n.toNat by omega, shl_hi h l n.toNat (by omega) (by omega) hh hl, shl_lo h l n.toNat]
end Go.Proofs.Ytgogjcbfnnhaoaa

/- The division of the reading. -/
set_option linter.unusedSimpArgs false
set_option linter.unusedVariables false
namespace Go.Proofs.Ytgogjcbfnnhaoaa
theorem or_one (q : Int) : Go.bits .or .u64 (loU (2 * q)) 1 = loU (2 * q + 1) := by
  rw [or_join (loU (2 * q)) 1 1 (loU_64 _).1 (loU_64 _).2 (by unfold loU; omega) (by omega) (by omega) (by omega)]
  unfold loU; omega
theorem and_one (x : Int) (h : U64 x) : Go.bits .and .u64 x 1 = x % 2 := by
  rw [u64_and x 1 h.1 (by have := h.2; omega) (by omega) (by omega)]
  show ((x.toNat &&& 1 : Nat) : Int) = _
  rw [nat_mask1]; have := h.1; omega
theorem or_bit (r b : Int) (hb : b = 0 ∨ b = 1) : Go.bits .or .u64 (loU (2 * r)) b = loU (2 * r + b) := by
  rw [or_join (loU (2 * r)) b 1 (loU_64 _).1 (loU_64 _).2 (by unfold loU; omega) (by omega) (by omega) (by omega)]
  unfold loU; omega
theorem hiU_bit (r b : Int) (hb : b = 0 ∨ b = 1) : hiU (2 * r) = hiU (2 * r + b) := by unfold hiU; omega
theorem div_step (X d : Int) (k : Nat) (hd : 0 < d) :
    (2 * (X / 2 ^ (k + 1) % d) + X / 2 ^ k % 2 < d → X / 2 ^ k % d = 2 * (X / 2 ^ (k + 1) % d) + X / 2 ^ k % 2 ∧ X / 2 ^ k / d = 2 * (X / 2 ^ (k + 1) / d)) ∧
    (d ≤ 2 * (X / 2 ^ (k + 1) % d) + X / 2 ^ k % 2 → X / 2 ^ k % d = 2 * (X / 2 ^ (k + 1) % d) + X / 2 ^ k % 2 - d ∧ X / 2 ^ k / d = 2 * (X / 2 ^ (k + 1) / d) + 1) := by
  have e : X / 2 ^ (k + 1) = X / 2 ^ k / 2 := by
    rw [Int.pow_succ, Int.ediv_ediv_of_nonneg (Int.le_of_lt (pow_pos' k))]
  rw [e]
  generalize X / 2 ^ k = Y
  have h1 := Int.emod_add_ediv_mul (Y / 2) d
  have h2 := Int.emod_nonneg (Y / 2) (show d ≠ 0 by omega)
  have h3 := Int.emod_lt_of_pos (Y / 2) hd
  have hY : Y = 2 * (Y / 2) + Y % 2 := by omega
  generalize Y / 2 % d = r at *
  generalize hq : Y / 2 / d = q at *
  have hb : Y % 2 = 0 ∨ Y % 2 = 1 := by omega
  have hYq : Y = (2 * r + Y % 2) + d * (2 * q) := by
    have : d * (2 * q) = 2 * (q * d) := by rw [Int.mul_left_comm, Int.mul_comm d q]
    omega
  constructor
  · intro h
    constructor
    · conv => lhs; rw [hYq]
      rw [Int.add_mul_emod_self_left, Int.emod_eq_of_lt (by omega) h]
    · conv => lhs; rw [hYq]
      rw [Int.add_mul_ediv_left _ _ (by omega), Int.ediv_eq_zero_of_lt (by omega) h]; omega
  · intro h
    have hYq' : Y = (2 * r + Y % 2 - d) + d * (2 * q + 1) := by rw [Int.mul_add]; omega
    constructor
    · conv => lhs; rw [hYq']
      rw [Int.add_mul_emod_self_left, Int.emod_eq_of_lt (by omega) (by omega)]
    · conv => lhs; rw [hYq']
      rw [Int.add_mul_ediv_left _ _ (by omega), Int.ediv_eq_zero_of_lt (by omega) (by omega)]; omega
theorem q_bound (X d : Int) (j : Nat) (hX : U128 X) (hd : 0 < d) : 0 ≤ X / 2 ^ (j + 1) / d ∧ X / 2 ^ (j + 1) / d ≤ 170141183460469231731687303715884105727 := by
  obtain ⟨h1, h2⟩ := hX
  have hp := pow_pos' j
  have h3 : 0 ≤ X / 2 ^ (j + 1) := Int.ediv_nonneg h1 (Int.le_of_lt (pow_pos' (j + 1)))
  have h4 : X / 2 ^ (j + 1) = X / 2 / 2 ^ j := by rw [Int.pow_succ, Int.mul_comm, ← Int.ediv_ediv_of_nonneg (by omega)]
  have h5 : X / 2 / 2 ^ j ≤ X / 2 := Int.ediv_le_self _ (by omega)
  have h6 : X / 2 ^ (j + 1) / d ≤ X / 2 ^ (j + 1) := Int.ediv_le_self _ h3
  exact ⟨Int.ediv_nonneg h3 (by omega), by omega⟩
theorem shr_U128 (X : Int) (j : Nat) (hX : U128 X) : U128 (X / 2 ^ j) := by
  obtain ⟨h1, h2⟩ := hX
  have hp := pow_pos' j
  have := Int.ediv_le_self (2 ^ j) h1
  exact ⟨Int.ediv_nonneg h1 (by omega), by omega⟩

theorem f_shl1 (r : Int) (h : 0 ≤ r ∧ r ≤ 170141183460469231731687303715884105727) : F_wide_U_Shl (hiU r, loU r) 1 = some (hiU (2 * r), loU (2 * r)) := by
  have hc := f_Shl (hiU r) (loU r) 1 (hiU_64 ⟨h.1, by omega⟩) (loU_64 r) ⟨by omega, by omega⟩
  rw [vU_hilo, show r * 2 ^ (1 : Int).toNat % 340282366920938463463374607431768211456 = 2 * r by
    rw [show (2 : Int) ^ (1 : Int).toNat = 2 from rfl]; omega] at hc
  exact hc
theorem f_cmplo (r d : Int) (h : U128 r) (hd : U64 d) : F_wide_U_Cmp (hiU r, loU r) (0, d) = some (cmpI r d) := by
  have hc := f_Cmp (hiU r) (loU r) 0 d (hiU_64 h) (loU_64 r) ⟨by omega, by omega⟩ hd
  rw [vU_hilo, show vU 0 d = d by unfold vU; omega] at hc
  exact hc
theorem f_sublo (r d : Int) (h : U128 r) (hd : U64 d) (hdr : d ≤ r) : F_wide_U_Sub (hiU r, loU r) (0, d) = some ((hiU (r - d), loU (r - d)), false) := by
  have hc := f_Sub (hiU r) (loU r) 0 d (hiU_64 h) (loU_64 r) ⟨by omega, by omega⟩ hd
  have h1 := h.1; have h2 := h.2; have h3 := hd.1
  rw [vU_hilo, show vU 0 d = d by unfold vU; omega, show (r - d) % 340282366920938463463374607431768211456 = r - d by omega, show decide (r < d) = false by simp; omega] at hc
  exact hc
theorem f_Div0 (x : Int × Int) : F_wide_U_Div x 0 = some ((0, 0), 0, 21) := rfl
theorem f_Div (h l d : Int) (hh : U64 h) (hl : U64 l) (hd : U64 d) (hd0 : 0 < d) : F_wide_U_Div (h, l) d = some ((hiU (vU h l / d), loU (vU h l / d)), vU h l % d, 0) := by
  have hX := vU_128 hh hl
  obtain ⟨hd1, hd2⟩ := hd
  have hne : (d == 0) = false := by simp; omega
  unfold F_wide_U_Div
  simp only [hne, cond_false]
  refine bind_loop
    (fun s => ∃ k : Nat, k ≤ 128 ∧ s = (hiU (vU h l / 2 ^ k % d), loU (vU h l / 2 ^ k / d), hiU (vU h l / 2 ^ k / d), loU (vU h l / 2 ^ k % d), (k : Int) - 1))
    (fun s => (s.2.2.2.2 + 1).toNat) (fun x => x = (hiU (vU h l % d), loU (vU h l / d), hiU (vU h l / d), loU (vU h l % d))) ⟨128, by omega, ?_⟩ ?_ ?_
  · have h0 : vU h l / 2 ^ 128 = 0 := Int.ediv_eq_zero_of_lt hX.1 (by have := hX.2; rw [show (2 : Int) ^ 128 = 340282366920938463463374607431768211456 from rfl]; omega)
    rw [h0, Int.zero_emod, Int.zero_ediv]
    rfl
  · rintro s ⟨k, hk, rfl⟩
    cases k with
    | zero =>
      left
      refine ⟨_, ?_, rfl⟩
      rw [show decide ((0 : Int) ≤ ((0 : Nat) : Int) - 1) = false from rfl, cond_false, Int.pow_zero, Int.ediv_one]
    | succ j =>
      right
      have hq := q_bound (vU h l) d j hX hd0
      have hr1 := Int.emod_nonneg (vU h l / 2 ^ (j + 1)) (show d ≠ 0 by omega)
      have hr2 := Int.emod_lt_of_pos (vU h l / 2 ^ (j + 1)) hd0
      have hst := div_step (vU h l) d j hd0
      have hy := shr_U128 (vU h l) j hX
      rw [show (((j + 1 : Nat) : Int) - 1) = (j : Int) by omega]
      simp only []
      rw [show decide ((0 : Int) ≤ (j : Int)) = true by simp, cond_true, f_shl1 _ ⟨hr1, by omega⟩, Option.bind_some, f_Shr h l j hh hl ⟨by omega, by omega⟩, Option.bind_some, f_shl1 _ ⟨hq.1, hq.2⟩, Option.bind_some, Int.toNat_natCast]
      simp only [bits_go _ _ _ _ (.inl rfl), bits_go _ _ _ _ (.inr (.inl rfl))]
      rw [and_one _ (loU_64 _)]
      generalize vU h l / 2 ^ (j + 1) % d = R at *
      generalize vU h l / 2 ^ (j + 1) / d = Q at *
      generalize hY : vU h l / 2 ^ j = Y at *
      have hb : loU Y % 2 = Y % 2 := by unfold loU; omega
      rw [hb]
      have hb01 : Y % 2 = 0 ∨ Y % 2 = 1 := by omega
      rw [or_bit R (Y % 2) hb01, hiU_bit R (Y % 2) hb01]
      rw [f_cmplo _ d ⟨by omega, by omega⟩ ⟨hd1, hd2⟩, Option.bind_some]
      have hw : IntKind.i64.wrap ((j : Int) - 1) = (j : Int) - 1 := by rw [IntKind.wrap_i64]; omega
      rw [hw]
      by_cases hlt : 2 * R + Y % 2 < d
      · obtain ⟨e1, e2⟩ := hst.1 hlt
        rw [cmpI_lt hlt]
        refine ⟨_, rfl, ⟨j, by omega, ?_⟩, ?_⟩
        · rw [hY, e1, e2]
        · simp only []; omega
      · obtain ⟨e1, e2⟩ := hst.2 (by omega)
        have hc : decide (0 ≤ cmpI (2 * R + Y % 2) d) = true := by
          have := cmpI_neg (2 * R + Y % 2) d
          simp; omega
        rw [hc, cond_true, f_sublo _ d ⟨by omega, by omega⟩ ⟨hd1, hd2⟩ (by omega), or_one]
        refine ⟨_, rfl, ⟨j, by omega, ?_⟩, ?_⟩
        · rw [hY, e1, e2]
          have : hiU (2 * Q) = hiU (2 * Q + 1) := by unfold hiU; omega
          simp only [this]
        · simp only []; omega
  · rintro x rfl
    have hr1 := Int.emod_nonneg (vU h l) (show d ≠ 0 by omega)
    have hr2 := Int.emod_lt_of_pos (vU h l) hd0
    have : loU (vU h l % d) = vU h l % d := by unfold loU; omega
    simp only [this]
end Go.Proofs.Ytgogjcbfnnhaoaa

/- What the reading of the package ratio says. -/
set_option linter.unusedSimpArgs false
set_option linter.unusedVariables false
namespace Go.Proofs.Ytgogjcbfnnhaoaa
def szI (a : Int) : Int := if a < 0 then -a else a
theorem szI_64 {a : Int} (h : I64 a) : 0 ≤ szI a ∧ szI a ≤ 9223372036854775808 := by
  obtain ⟨h1, h2⟩ := h
  unfold szI; split <;> omega
theorem sz_mul (a b : Int) : szI a * szI b = if (decide (a < 0) == decide (b < 0)) = true then a * b else -(a * b) := by
  unfold szI
  by_cases h1 : a < 0 <;> by_cases h2 : b < 0 <;> simp [h1, h2, Int.neg_mul, Int.mul_neg]
/-- A number, or that it is too great. -/
def sayI (n : Int) : Int × Int := if in64 n = true then (n, 0) else (0, 20)
theorem f_signed (X : Int) (hX : U128 X) (below : Bool) : F_ratio_signed (hiU X, loU X) below = some (sayI (if below = true then -X else X)) := by
  obtain ⟨h1, h2⟩ := hX
  have hc : ∀ t : Int, U64 t → F_wide_U_Cmp (hiU X, loU X) (0, t) = some (cmpI X t) := fun t ht => f_cmplo X t ⟨h1, h2⟩ ht
  unfold F_ratio_signed sayI
  cases below with
  | true =>
    have e : IntKind.u64.wrap (9223372036854775807 + 1) = 9223372036854775808 := rfl
    simp only [cond_true, Option.bind_some, e, if_true]
    rw [hc _ ⟨by omega, by omega⟩, Option.bind_some]
    by_cases h : 9223372036854775808 < X
    · rw [cmpI_gt h, in64_no (by omega)]
      rfl
    · have hn : decide (0 < cmpI X 9223372036854775808) = false := by
        have := cmpI_pos X 9223372036854775808
        simp; omega
      rw [hn, cond_false, in64_yes (by omega), if_pos rfl, uwrap_of, IntKind.wrap_i64]
      have : loU X = X := by unfold loU; omega
      rw [this]
      congr 2
      omega
  | false =>
    simp only [cond_false, Option.bind_some, Bool.false_eq_true, if_false]
    rw [hc _ ⟨by omega, by omega⟩, Option.bind_some]
    by_cases h : 9223372036854775807 < X
    · rw [cmpI_gt h, in64_no (by omega)]
      rfl
    · have hn : decide (0 < cmpI X 9223372036854775807) = false := by
        have := cmpI_pos X 9223372036854775807
        simp; omega
      rw [hn, cond_false, in64_yes (by omega), if_pos rfl, IntKind.wrap_i64]
      have : loU X = X := by unfold loU; omega
      rw [this]
      congr 2
      omega
/-- A quotient, rounded down or up. -/
def quoI (n c : Int) (up : Bool) : Int :=
  let m := if c < 0 then -n else n
  if up = true then -((-m) / szI c) else m / szI c
theorem div_neg_split (X D : Int) (hD : 0 < D) : (-X) / D = if 0 < X % D then -(X / D + 1) else -(X / D) := by
  have h1 := Int.emod_add_ediv_mul X D
  have h2 := Int.emod_nonneg X (show D ≠ 0 by omega)
  have h3 := Int.emod_lt_of_pos X hD
  split
  · rename_i h
    have e : -X = (D - X % D) + (-(X / D + 1)) * D := by
      rw [Int.neg_mul, Int.add_mul]; omega
    rw [e, Int.add_mul_ediv_right _ _ (by omega), Int.ediv_eq_zero_of_lt (by omega) (by omega)]
    omega
  · have e : -X = 0 + (-(X / D)) * D := by
      rw [Int.neg_mul]; omega
    rw [e, Int.add_mul_ediv_right _ _ (by omega)]
    simp
theorem f_divide (a b c : Int) (up : Bool) (ha : I64 a) (hb : I64 b) (hc : I64 c) : F_ratio_divide a b c up = some (if c = 0 then (0, 21) else sayI (quoI (a * b) c up)) := by
  unfold F_ratio_divide
  by_cases h0 : c = 0
  · subst h0
    rfl
  · have hne : (c == 0) = false := by simp; omega
    rw [hne, cond_false, if_neg h0]
    have hA := szI_64 ha
    have hB := szI_64 hb
    have hC := szI_64 hc
    have hC0 : 0 < szI c := by unfold szI; split <;> omega
    have hm : 0 ≤ szI a * szI b := Int.mul_nonneg hA.1 hB.1
    have hm2 : szI a * szI b ≤ 9223372036854775808 * 9223372036854775808 := Int.mul_le_mul hA.2 hB.2 hB.1 (by omega)
    have hsz := sz_mul a b
    have e1 : F_num_Size a = some (szI a) := f_Size a ha
    have e2 : F_num_Size b = some (szI b) := f_Size b hb
    have e3 : F_num_Size c = some (szI c) := f_Size c hc
    simp only [e1, e2, e3, Option.bind_some]
    rw [f_Mul _ _ ⟨hA.1, by omega⟩ ⟨hB.1, by omega⟩, Option.bind_some]
    have hD := f_Div (hiU (szI a * szI b)) (loU (szI a * szI b)) (szI c) (hiU_64 ⟨hm, by omega⟩) (loU_64 _) ⟨hC.1, by omega⟩ hC0
    rw [vU_hilo] at hD
    rw [hD, Option.bind_some]
    simp only []
    -- the sign
    generalize hX : szI a * szI b = X at *
    generalize hE : szI c = D at *
    have hq0 := Int.ediv_nonneg hm (show 0 ≤ D by omega)
    have hq1 := Int.ediv_le_self D hm
    have hr1 := Int.emod_nonneg X (show D ≠ 0 by omega)
    have hsign : quoI (a * b) c up = if (!((!(decide (a < 0) == decide (b < 0))) == decide (c < 0))) = true then (if up = true then -(X / D) else (-X) / D) else (if up = true then -((-X) / D) else X / D) := by
      unfold quoI
      rw [hE]
      by_cases g1 : (decide (a < 0) == decide (b < 0)) = true <;> by_cases g2 : c < 0
      · rw [if_pos g1] at hsz; rw [← hsz]; simp [g1, g2]
      · rw [if_pos g1] at hsz; rw [← hsz]; simp [g1, g2]
      · have g1' : (decide (a < 0) == decide (b < 0)) = false := by simpa using g1
        rw [if_neg g1] at hsz
        have : a * b = -X := by omega
        rw [this]; simp [g1', g2]
      · have g1' : (decide (a < 0) == decide (b < 0)) = false := by simpa using g1
        rw [if_neg g1] at hsz
        have : a * b = -X := by omega
        rw [this]; simp [g1', g2]
    rw [hsign]
    generalize (!((!(decide (a < 0) == decide (b < 0))) == decide (c < 0))) = below
    have hneg := div_neg_split X D hC0
    have hadd : F_wide_U_Add (hiU (X / D), loU (X / D)) (0, 1) = some ((hiU (X / D + 1), loU (X / D + 1)), false) := by
      rw [f_Add _ _ 0 1 (hiU_64 ⟨hq0, by omega⟩) (loU_64 _) ⟨by omega, by omega⟩ ⟨by omega, by omega⟩, vU_hilo, show vU 0 1 = 1 from rfl, Int.emod_eq_of_lt (by omega) (by omega)]
      congr 2
      simp; omega
    by_cases hr : 0 < X % D
    · rw [if_pos hr] at hneg
      simp only [hr, decide_true, cond_true]
      cases up <;> cases below <;> simp only [Bool.not_true, Bool.not_false, beq_self_eq_true, cond_true, cond_false, Option.bind_some, hadd, if_true, if_false, Bool.false_eq_true,
        show (true == false) = false from rfl, show (false == true) = false from rfl]
      · rw [f_signed _ ⟨hq0, by omega⟩]; rfl
      · rw [f_signed _ ⟨by omega, by omega⟩, hneg]; rfl
      · rw [f_signed _ ⟨by omega, by omega⟩, hneg]; simp
      · rw [f_signed _ ⟨hq0, by omega⟩]; rfl
    · rw [if_neg hr] at hneg
      have hr' : decide (0 < X % D) = false := by simpa using hr
      simp only [hr', cond_false, Option.bind_some]
      rw [f_signed _ ⟨hq0, by omega⟩]
      simp only [Option.bind_some]
      have e : (if below = true then (if up = true then -(X / D) else (-X) / D) else (if up = true then -((-X) / D) else X / D)) = if below = true then -(X / D) else X / D := by
        cases up <;> cases below <;> simp [hneg]
      rw [e]
theorem f_Floor (a b c : Int) (ha : I64 a) (hb : I64 b) (hc : I64 c) : F_ratio_Floor a b c = some (if c = 0 then (0, 21) else sayI (quoI (a * b) c false)) := by
  unfold F_ratio_Floor
  rw [f_divide a b c false ha hb hc]
  rfl
theorem f_Ceil (a b c : Int) (ha : I64 a) (hb : I64 b) (hc : I64 c) : F_ratio_Ceil a b c = some (if c = 0 then (0, 21) else sayI (quoI (a * b) c true)) := by
  unfold F_ratio_Ceil
  rw [f_divide a b c true ha hb hc]
  rfl
end Go.Proofs.Ytgogjcbfnnhaoaa

/- What the readings of spans say. -/
set_option linter.unusedSimpArgs false
set_option linter.unusedVariables false
namespace Go.Proofs.Ytgogjcbfnnhaoaa
open Go.RowKit
theorem f_Right (s : Int × Int) : F_span_Span_Right s = some (decide (s.1 ≤ s.2)) := rfl
theorem f_Times (s : Int × Int) (k b : Int) (h1 : I64 s.1) (h2 : I64 s.2) (hk : I64 k) (hb : I64 b) : F_span_Span_Times s k b = some (
    if s.2 < s.1 ∨ b < 1 then ((0, 0), 10) else
      let lo := quoI (k * (if k < 0 then s.2 else s.1)) b false
      let hi := quoI (k * (if k < 0 then s.1 else s.2)) b true
      if in64 lo = true ∧ in64 hi = true then ((lo, hi), 0) else ((0, 0), 20)) := by
  unfold F_span_Span_Times
  rw [f_Right, Option.bind_some]
  by_cases h : s.2 < s.1 ∨ b < 1
  · rw [if_pos h]
    rcases h with h | h
    · have : decide (s.1 ≤ s.2) = false := by simp; omega
      rw [this]; rfl
    · have : decide (b < 1) = true := by simp; omega
      rw [this]
      cases decide (s.1 ≤ s.2) <;> rfl
  · rw [if_neg h]
    have e1 : decide (s.1 ≤ s.2) = true := by simp; omega
    have e2 : decide (b < 1) = false := by simp; omega
    rw [e1, e2]
    simp only [Bool.not_true, cond_false]
    have main : ∀ lo hi : Int, I64 lo → I64 hi →
        ((F_ratio_Floor k lo b).bind fun t33 => bif t33.2 != 0 then some (((0 : Int), (0 : Int)), t33.2) else (F_ratio_Ceil k hi b).bind fun t44 => bif t44.2 != 0 then some (((0 : Int), (0 : Int)), t44.2) else some ((t33.1, t44.1), (0 : Int))) =
        some (if in64 (quoI (k * lo) b false) = true ∧ in64 (quoI (k * hi) b true) = true then ((quoI (k * lo) b false, quoI (k * hi) b true), 0) else ((0, 0), 20)) := by
      intro lo hi hlo hhi
      rw [f_Floor k lo b hk hlo hb, Option.bind_some, f_Ceil k hi b hk hhi hb, if_neg (by omega), if_neg (by omega)]
      unfold sayI
      by_cases g1 : in64 (quoI (k * lo) b false) = true <;> by_cases g2 : in64 (quoI (k * hi) b true) = true <;> simp [g1, g2]
    by_cases hk0 : k < 0
    · have : decide (k < 0) = true := by simpa using hk0
      rw [this]
      simp only [cond_true, Option.bind_some, if_pos hk0]
      exact main s.2 s.1 h2 h1
    · have : decide (k < 0) = false := by simpa using hk0
      rw [this]
      simp only [cond_false, Option.bind_some, if_neg hk0]
      exact main s.1 s.2 h1 h2
def loM (s t : Int × Int) : Int := if t.1 > s.1 then t.1 else s.1
def hiM (s t : Int × Int) : Int := if t.2 < s.2 then t.2 else s.2
theorem f_Meet (s t : Int × Int) : F_span_Span_Meet s t = some (if hiM s t < loM s t then ((0, 0), false) else ((loM s t, hiM s t), true)) := by
  show (F_span_both (loM s t) true (hiM s t) true).bind _ = _
  unfold F_span_both
  by_cases h : hiM s t < loM s t
  · rw [if_pos h, show decide (hiM s t < loM s t) = true by simpa using h]; rfl
  · rw [if_neg h, show decide (hiM s t < loM s t) = false by simpa using h]; rfl
def inB (s t : Int × Int) : Bool := decide (s.2 < s.1 ∨ (t.1 ≤ s.1 ∧ s.2 ≤ t.2))
theorem eqT_self_span (x : Int × Int) : eqT (.agg (.pair (.int .i64) (.int .i64))) x x = true := by
  rw [eqT_agg, eqT_pair, eqT_int, eqT_int]; simp
def isIn (s : Int × Int) (x : Int) : Bool := bif decide (s.1 ≤ x) then decide (x ≤ s.2) else false
theorem isIn_iff {s : Int × Int} {x : Int} : isIn s x = true ↔ s.1 ≤ x ∧ x ≤ s.2 := by
  unfold isIn
  by_cases h : s.1 ≤ x <;> simp [h]
theorem f_Has (s : Int × Int) (x : Int) : F_span_Span_Has s x = some (isIn s x) := rfl
theorem f_At (x : Int) : F_span_At x = some (x, x) := rfl
theorem f_Hull (s t : Int × Int) : ∃ h, F_span_Span_Hull s t = some h ∧ ((s.2 < s.1 ∧ h = t) ∨ (s.1 ≤ s.2 ∧ t.2 < t.1 ∧ h = s) ∨ (s.1 ≤ s.2 ∧ t.1 ≤ t.2 ∧ h.1 ≤ s.1 ∧ h.1 ≤ t.1 ∧ s.2 ≤ h.2 ∧ t.2 ≤ h.2)) := by
  unfold F_span_Span_Hull
  rw [f_Right, f_Right, Option.bind_some]
  by_cases h1 : s.1 ≤ s.2
  · rw [decide_eq_true h1]
    by_cases h2 : t.1 ≤ t.2
    · rw [decide_eq_true h2]
      refine ⟨_, rfl, .inr (.inr ⟨h1, h2, ?_⟩)⟩
      simp only []
      refine ⟨?_, ?_, ?_, ?_⟩ <;> split <;> omega
    · rw [decide_eq_false h2]
      exact ⟨_, rfl, .inr (.inl ⟨h1, by omega, rfl⟩)⟩
  · rw [decide_eq_false h1]
    exact ⟨_, rfl, .inl ⟨by omega, rfl⟩⟩
theorem quo_floor {n c : Int} (hc : 0 < c) : quoI n c false = n / c := by
  unfold quoI szI
  simp only [if_neg (show ¬ c < 0 by omega)]
  rfl
theorem quo_ceil {n c : Int} (hc : 0 < c) : quoI n c true = if n - n / c * c = 0 then n / c else n / c + 1 := by
  have e : szI c = c := by unfold szI; rw [if_neg (by omega)]
  unfold quoI
  simp only [if_neg (show ¬ c < 0 by omega), e, if_true]
  rw [div_neg_split n c hc]
  have h1 := Int.emod_add_ediv_mul n c
  have h2 := Int.emod_nonneg n (show c ≠ 0 by omega)
  split <;> split <;> omega
/-- What a sum of spans is to be. -/
def endsOf (right : Bool) (lo hi : Int) : (Int × Int) × Bool := if right = true ∧ in64 lo = true ∧ in64 hi = true ∧ lo ≤ hi then ((lo, hi), true) else ((0, 0), false)
theorem both_ends (x y : Int) : F_span_both (or0 x) (in64 x) (or0 y) (in64 y) = some (endsOf true x y) := by
  unfold F_span_both endsOf or0
  by_cases g1 : in64 x = true <;> by_cases g2 : in64 y = true
  · by_cases g3 : y < x
    · have : ¬ x ≤ y := by omega
      simp [g1, g2, g3, this]
    · have : x ≤ y := by omega
      simp [g1, g2, g3, this]
  · simp [g1, g2]
  · simp [g1, g2]
  · simp [g1, g2]
theorem ends_false (x y : Int) : endsOf false x y = ((0, 0), false) := by unfold endsOf; simp
theorem f_SGrow (s : Int × Int) (far : Int) (h1 : I64 s.1) (h2 : I64 s.2) (h3 : I64 far) : F_span_Span_Grow s far = some (endsOf (decide (s.1 ≤ s.2)) (s.1 - far) (s.2 + far)) := by
  unfold F_span_Span_Grow
  rw [f_Right, f_NumSub _ _ h1 h3, f_NumAdd _ _ h2 h3]
  simp only [Option.bind_some, both_ends]
  cases decide (s.1 ≤ s.2) <;> first | rfl | simp [ends_false]
theorem f_SAround (x far : Int) (h1 : I64 x) (h3 : I64 far) : F_span_Around x far = some (endsOf true (x - far) (x + far)) := by
  unfold F_span_Around
  rw [f_At, Option.bind_some, f_SGrow (x, x) far h1 h1 h3, Option.bind_some]
  simp
end Go.Proofs.Ytgogjcbfnnhaoaa
