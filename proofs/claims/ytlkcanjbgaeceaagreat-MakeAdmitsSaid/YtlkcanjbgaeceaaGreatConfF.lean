/- What the readings of the document's configurations say. -/
import Derived.Test.YtlkcanjbgaeceaaGreatFnsZ2
import Derived.Test.YtlkcanjbgaeceaaGreatLoopF
import Derived.Test.YtlkcanjbgaeceaaGreatEngLink
set_option linter.unusedSimpArgs false
set_option linter.unusedVariables false
namespace Go.Proofs.YtlkcanjbgaeceaaGreat
open Go.RowKit
theorem wrap_ok {n : Int} (h : -9223372036854775808 ≤ n ∧ n ≤ 9223372036854775807) : IntKind.i64.wrap n = n := by rw [IntKind.wrap_i64]; omega
theorem chk_yes {ρ : Type} {c : Bool} {k : Option ρ} (h : c = true) : chk none c k = k := by
  subst h; rfl
abbrev Cf := Int × (Int × (Int × (Int × (Int × (Int × (Int × (Int × (Int × (Int × (Int × (Int × (Int × Int))))))))))))
def upP (a b : Int) : Int := (a + b - 1) / b
def wrongC (c : Cf) : Int :=
  match c with
  | (p, lo, hi, rb, rp, ae, ms, ma, an, st, ss, ro, ti, br) =>
    if p < 1 ∨ 1024 < p then 1 else
    if lo < 131072 ∨ 8388608 < lo ∨ hi < lo ∨ 8388608 < hi then 2 else
    if lo < (hi - lo) * 16 then 3 else
    if rb < 0 ∨ 1048576 < rb ∨ rp < 0 ∨ 65536 < rp then 4 else
    if ae < 0 ∨ 1048576 < ae then 5 else
    if ms < 1 ∨ 16777216 < ms ∨ ma < 1 ∨ 1048576 < ma then 6 else
    if 32000 * lo < ms * p then 7 else
    if an < 0 ∨ 1048576 < an then 8 else
    if st < 1 ∨ 1000 < st ∨ ti < 1 ∨ 1000 < ti then 9 else
    if ss < upP hi p ∨ ss < 3 * rb ∨ 16777216 < ss then 10 else
    if ro < 0 ∨ 1073741824 < ro then 11 else
    if br < 1 ∨ 1048576 < br then 12 else 0
theorem mul_pq {x y X Y : Int} (h1 : 0 ≤ x) (h2 : x ≤ X) (h3 : 0 ≤ y) (h4 : y ≤ Y) : 0 ≤ x * y ∧ x * y ≤ X * Y := by
  have a1 : x * y ≤ X * y := Int.mul_le_mul_of_nonneg_right h2 h3
  have a2 : X * y ≤ X * Y := Int.mul_le_mul_of_nonneg_left h4 (by omega)
  have a3 := Int.mul_nonneg h1 h3
  omega
theorem f_Up13 (a b : Int) (ha : 0 ≤ a ∧ a ≤ 4611686018427387903) (hb : 1 ≤ b ∧ b ≤ 4611686018427387903) : F_ref13_Up a b = some (upP a b) := by
  unfold F_ref13_Up upP
  have hne : (!(b == (0 : Int))) = true := by simp; omega
  have h0 : 0 ≤ a + b - 1 := by omega
  have hd : (a + b - 1) / b ≤ a + b - 1 := Int.ediv_le_self _ h0
  have hd0 : 0 ≤ (a + b - 1) / b := Int.ediv_nonneg h0 (by omega)
  simp only [wrap_ok (n := a + b) (by omega), wrap_ok (n := a + b - 1) (by omega), chk_yes hne, Int.tdiv_eq_ediv_of_nonneg h0, wrap_ok (n := (a + b - 1) / b) (by omega)]
theorem f_Wrong (c : Cf) : F_ref13_Wrong c = some (wrongC c) := by
  obtain ⟨p, lo, hi, rb, rp, ae, ms, ma, an, st, ss, ro, ti, br⟩ := c
  unfold F_ref13_Wrong wrongC
  simp only [Bool.cond_true_left]
  simp only [← Bool.decide_or]
  simp only [Bool.cond_decide, or_assoc]
  by_cases h1 : p < 1 ∨ 1024 < p
  · simp only [if_pos h1]
  simp only [if_neg h1]
  by_cases h2 : lo < 131072 ∨ 8388608 < lo ∨ hi < lo ∨ 8388608 < hi
  · simp only [if_pos h2]
  simp only [if_neg h2]
  rw [wrap_ok (n := hi - lo) (by omega), wrap_ok (n := (hi - lo) * 16) (by omega)]
  by_cases h3 : lo < (hi - lo) * 16
  · simp only [if_pos h3]
  simp only [if_neg h3]
  by_cases h4 : rb < 0 ∨ 1048576 < rb ∨ rp < 0 ∨ 65536 < rp
  · simp only [if_pos h4]
  simp only [if_neg h4]
  by_cases h5 : ae < 0 ∨ 1048576 < ae
  · simp only [if_pos h5]
  simp only [if_neg h5]
  by_cases h6 : ms < 1 ∨ 16777216 < ms ∨ ma < 1 ∨ 1048576 < ma
  · simp only [if_pos h6]
  simp only [if_neg h6]
  have hm := mul_pq (x := ms) (y := p) (X := 16777216) (Y := 1024) (by omega) (by omega) (by omega) (by omega)
  rw [wrap_ok (n := ms * p) (by omega), wrap_ok (n := 32000 * lo) (by omega)]
  by_cases h7 : 32000 * lo < ms * p
  · simp only [if_pos h7]
  simp only [if_neg h7]
  by_cases h8 : an < 0 ∨ 1048576 < an
  · simp only [if_pos h8]
  simp only [if_neg h8]
  by_cases h9 : st < 1 ∨ 1000 < st ∨ ti < 1 ∨ 1000 < ti
  · simp only [if_pos h9]
  simp only [if_neg h9]
  rw [f_Up13 hi p (by omega) (by omega)]
  simp only [Option.bind_some, wrap_ok (n := 3 * rb) (by omega)]
  by_cases h10 : ss < upP hi p ∨ ss < 3 * rb ∨ 16777216 < ss
  · simp only [if_pos h10]
  simp only [if_neg h10]
  by_cases h11 : ro < 0 ∨ 1073741824 < ro
  · simp only [if_pos h11]
  simp only [if_neg h11]
  by_cases h12 : br < 1 ∨ 1048576 < br
  · simp only [if_pos h12]
  simp only [if_neg h12]
structure RightC (p lo hi rb rp ae ms ma an st ss ro ti br : Int) : Prop where
  hp : 1 ≤ p ∧ p ≤ 1024
  hlo : 131072 ≤ lo ∧ lo ≤ 8388608
  hhi : lo ≤ hi ∧ hi ≤ 8388608
  hgap : (hi - lo) * 16 ≤ lo
  hrb : 0 ≤ rb ∧ rb ≤ 1048576
  hrp : 0 ≤ rp ∧ rp ≤ 65536
  hae : 0 ≤ ae ∧ ae ≤ 1048576
  hms : 1 ≤ ms ∧ ms ≤ 16777216
  hma : 1 ≤ ma ∧ ma ≤ 1048576
  hfast : ms * p ≤ 32000 * lo
  han : 0 ≤ an ∧ an ≤ 1048576
  hst : 1 ≤ st ∧ st ≤ 1000
  hti : 1 ≤ ti ∧ ti ≤ 1000
  hss : upP hi p ≤ ss ∧ 3 * rb ≤ ss ∧ ss ≤ 16777216
  hro : 0 ≤ ro ∧ ro ≤ 1073741824
  hbr : 1 ≤ br ∧ br ≤ 1048576
theorem right_iff {p lo hi rb rp ae ms ma an st ss ro ti br : Int} : wrongC (p, lo, hi, rb, rp, ae, ms, ma, an, st, ss, ro, ti, br) = 0 ↔ RightC p lo hi rb rp ae ms ma an st ss ro ti br := by
  unfold wrongC
  simp only
  constructor
  · intro h
    by_cases k1 : p < 1 ∨ 1024 < p
    · rw [if_pos k1] at h; exact absurd h (by decide)
    rw [if_neg k1] at h
    by_cases k2 : lo < 131072 ∨ 8388608 < lo ∨ hi < lo ∨ 8388608 < hi
    · rw [if_pos k2] at h; exact absurd h (by decide)
    rw [if_neg k2] at h
    by_cases k3 : lo < (hi - lo) * 16
    · rw [if_pos k3] at h; exact absurd h (by decide)
    rw [if_neg k3] at h
    by_cases k4 : rb < 0 ∨ 1048576 < rb ∨ rp < 0 ∨ 65536 < rp
    · rw [if_pos k4] at h; exact absurd h (by decide)
    rw [if_neg k4] at h
    by_cases k5 : ae < 0 ∨ 1048576 < ae
    · rw [if_pos k5] at h; exact absurd h (by decide)
    rw [if_neg k5] at h
    by_cases k6 : ms < 1 ∨ 16777216 < ms ∨ ma < 1 ∨ 1048576 < ma
    · rw [if_pos k6] at h; exact absurd h (by decide)
    rw [if_neg k6] at h
    by_cases k7 : 32000 * lo < ms * p
    · rw [if_pos k7] at h; exact absurd h (by decide)
    rw [if_neg k7] at h
    by_cases k8 : an < 0 ∨ 1048576 < an
    · rw [if_pos k8] at h; exact absurd h (by decide)
    rw [if_neg k8] at h
    by_cases k9 : st < 1 ∨ 1000 < st ∨ ti < 1 ∨ 1000 < ti
    · rw [if_pos k9] at h; exact absurd h (by decide)
    rw [if_neg k9] at h
    by_cases k10 : ss < upP hi p ∨ ss < 3 * rb ∨ 16777216 < ss
    · rw [if_pos k10] at h; exact absurd h (by decide)
    rw [if_neg k10] at h
    by_cases k11 : ro < 0 ∨ 1073741824 < ro
    · rw [if_pos k11] at h; exact absurd h (by decide)
    rw [if_neg k11] at h
    by_cases k12 : br < 1 ∨ 1048576 < br
    · rw [if_pos k12] at h; exact absurd h (by decide)
    rw [if_neg k12] at h
    clear h
    constructor <;> omega
  · rintro ⟨h1, h2, h3, h4, h5, h6, h7, h8, h9, h10, h11, h12, h13, h14, h15, h16⟩
    rw [if_neg (show ¬ (p < 1 ∨ 1024 < p) by omega)]
    rw [if_neg (show ¬ (lo < 131072 ∨ 8388608 < lo ∨ hi < lo ∨ 8388608 < hi) by omega)]
    rw [if_neg (show ¬ (lo < (hi - lo) * 16) by omega)]
    rw [if_neg (show ¬ (rb < 0 ∨ 1048576 < rb ∨ rp < 0 ∨ 65536 < rp) by omega)]
    rw [if_neg (show ¬ (ae < 0 ∨ 1048576 < ae) by omega)]
    rw [if_neg (show ¬ (ms < 1 ∨ 16777216 < ms ∨ ma < 1 ∨ 1048576 < ma) by omega)]
    rw [if_neg (show ¬ (32000 * lo < ms * p) by omega)]
    rw [if_neg (show ¬ (an < 0 ∨ 1048576 < an) by omega)]
    rw [if_neg (show ¬ (st < 1 ∨ 1000 < st ∨ ti < 1 ∨ 1000 < ti) by omega)]
    rw [if_neg (show ¬ (ss < upP hi p ∨ ss < 3 * rb ∨ 16777216 < ss) by omega)]
    rw [if_neg (show ¬ (ro < 0 ∨ 1073741824 < ro) by omega)]
    rw [if_neg (show ¬ (br < 1 ∨ 1048576 < br) by omega)]
end Go.Proofs.YtlkcanjbgaeceaaGreat
