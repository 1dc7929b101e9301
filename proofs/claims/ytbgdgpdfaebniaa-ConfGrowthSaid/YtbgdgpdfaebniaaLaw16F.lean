/- The laws of chapter 16: what their readings say is true. -/
import Derived.Test.YtbgdgpdfaebniaaSpanF
set_option linter.unusedSimpArgs false
set_option linter.unusedVariables false
namespace Go.Proofs.Ytbgdgpdfaebniaa
open Go.RowKit
theorem mul_in {x y X Y : Int} (h1 : -X ≤ x) (h2 : x ≤ X) (h3 : 0 ≤ y) (h4 : y ≤ Y) (hX : 0 ≤ X) : -(X * Y) ≤ x * y ∧ x * y ≤ X * Y := by
  have a1 : x * y ≤ X * y := Int.mul_le_mul_of_nonneg_right h2 h3
  have a2 : X * y ≤ X * Y := Int.mul_le_mul_of_nonneg_left h4 hX
  have a3 : -X * y ≤ x * y := Int.mul_le_mul_of_nonneg_right h1 h3
  rw [Int.neg_mul] at a3
  omega
theorem wrap_id {n : Int} (h : -9223372036854775808 ≤ n ∧ n ≤ 9223372036854775807) : IntKind.i64.wrap n = n := by rw [IntKind.wrap_i64]; omega
theorem f_Down (a b : Int) (ha : I64 a) (hb : 0 < b) : F_ref15_Down a b = some (a / b) := by
  obtain ⟨h1, h2⟩ := ha
  have hne : (!(b == (0 : Int))) = true := by simp; omega
  have hdiv : I64 (a.tdiv b) ∧ I64 (a / b) := by
    have k1 : a / b * b ≤ a := Int.ediv_mul_le a (by omega)
    have k2 := Int.lt_ediv_add_one_mul_self a hb
    have k3 : (a / b) ≤ 9223372036854775807 := by
      apply Classical.byContradiction
      intro hn
      have : 9223372036854775808 * b ≤ a / b * b := Int.mul_le_mul_of_nonneg_right (by omega) (by omega)
      have : 9223372036854775808 * 1 ≤ 9223372036854775808 * b := Int.mul_le_mul_of_nonneg_left (by omega) (by omega)
      omega
    have k4 : -9223372036854775808 ≤ a / b := by
      apply Classical.byContradiction
      intro hn
      have h4 : (a / b + 1) * b ≤ -9223372036854775808 * b := Int.mul_le_mul_of_nonneg_right (by omega) (by omega)
      have : -9223372036854775808 * b ≤ -9223372036854775808 := by omega
      omega
    refine ⟨?_, k4, k3⟩
    rw [Int.tdiv_eq_ediv]
    unfold I64
    split
    · omega
    · rename_i hc
      simp only [not_or] at hc
      have hs : b.sign = 1 := Int.sign_eq_one_of_pos hb
      have : a / b < 0 := Int.ediv_neg_of_neg_of_pos (by omega) hb
      rw [hs]
      omega
  unfold F_ref15_Down
  simp only [chk_none hne]
  have ht : a.tmod b = if 0 ≤ a ∨ b ∣ a then a % b else a % b - b := by
    rw [Int.tmod_eq_emod]
    have : (b.natAbs : Int) = b := by omega
    split <;> simp [this]
  have hs : b.sign = 1 := Int.sign_eq_one_of_pos hb
  have hm1 := Int.emod_nonneg a (show b ≠ 0 by omega)
  have hm2 := Int.emod_lt_of_pos a hb
  rw [ht, Int.tdiv_eq_ediv, hs]
  obtain ⟨⟨_, _⟩, h5, h6⟩ := hdiv
  by_cases hc : 0 ≤ a ∨ b ∣ a
  · simp only [if_pos hc, decide_eq_false (show ¬ a % b < 0 by omega), cond_false, Option.bind_some, Int.add_zero]
    rw [wrap_id ⟨h5, h6⟩]
  · simp only [if_neg hc, decide_eq_true (show a % b - b < 0 by omega), cond_true, Option.bind_some]
    have hneg : a / b < 0 := Int.ediv_neg_of_neg_of_pos (by omega) hb
    rw [wrap_id (n := a / b + 1) (by omega), Int.add_sub_cancel, wrap_id ⟨h5, h6⟩]
theorem div_in {a b : Int} (ha : I64 a) (hb : 0 < b) : I64 (a / b) := by
  obtain ⟨h1, h2⟩ := ha
  have k1 : a / b * b ≤ a := Int.ediv_mul_le a (by omega)
  have k2 := Int.lt_ediv_add_one_mul_self a hb
  constructor
  · apply Classical.byContradiction
    intro hn
    have h4 : (a / b + 1) * b ≤ -9223372036854775808 * b := Int.mul_le_mul_of_nonneg_right (by omega) (by omega)
    omega
  · apply Classical.byContradiction
    intro hn
    have : 9223372036854775808 * b ≤ a / b * b := Int.mul_le_mul_of_nonneg_right (by omega) (by omega)
    omega
def upI (a b : Int) : Int := -((-a) / b)
theorem f_Up (a b : Int) (ha : -9223372036854775807 ≤ a ∧ a ≤ 9223372036854775807) (hb : 0 < b) : F_ref15_Up a b = some (upI a b) := by
  unfold F_ref15_Up upI
  have e : IntKind.i64.wrap (0 - a) = -a := by rw [wrap_id (by omega)]; omega
  have hi : I64 (-a) := ⟨by omega, by omega⟩
  have hd := div_in hi hb
  have hb2 : -9223372036854775807 ≤ -a / b := by
    have k2 := Int.lt_ediv_add_one_mul_self (-a) hb
    apply Classical.byContradiction
    intro hn
    have h4 : (-a / b + 1) * b ≤ -9223372036854775807 * b := Int.mul_le_mul_of_nonneg_right (by omega) (by omega)
    omega
  obtain ⟨_, h2⟩ := hd
  simp only [e, f_Down _ _ hi hb, Option.bind_some]
  refine congrArg some ?_
  rw [wrap_id (by omega)]
  omega
def loC (c a : Int) : Int := if a < c then c else a
def hiC (c b : Int) : Int := if c < b then c else b
theorem loC_spec (c a : Int) : c ≤ loC c a ∧ a ≤ loC c a ∧ (loC c a = c ∨ loC c a = a) := by unfold loC; split <;> omega
theorem hiC_spec (c b : Int) : hiC c b ≤ c ∧ hiC c b ≤ b ∧ (hiC c b = c ∨ hiC c b = b) := by unfold hiC; split <;> omega
def meetC (circ : Int × Int) (a b : Int) : (Int × Int) × Bool := if hiC circ.2 b < loC circ.1 a then (circ, false) else ((loC circ.1 a, hiC circ.2 b), true)
theorem meet_in (circ : Int × Int) (a b : Int) (h : circ.1 ≤ circ.2) : circ.1 ≤ (meetC circ a b).1.1 ∧ (meetC circ a b).1.2 ≤ circ.2 ∧ (meetC circ a b).1.1 ≤ (meetC circ a b).1.2 := by
  have h1 := loC_spec circ.1 a
  have h2 := hiC_spec circ.2 b
  unfold meetC
  generalize loC circ.1 a = lo at *
  generalize hiC circ.2 b = hi at *
  by_cases g : hi < lo
  · rw [if_pos g]; exact ⟨Int.le_refl _, Int.le_refl _, h⟩
  · rw [if_neg g]; exact ⟨h1.1, h2.1, by simp only; omega⟩
theorem meet_mono (circ : Int × Int) (a b a' b' : Int) (ha : a ≤ a') (hb : b' ≤ b) (e1 : (meetC circ a b).2 = true) (e2 : (meetC circ a' b').2 = true) : (meetC circ a b).1.1 ≤ (meetC circ a' b').1.1 ∧ (meetC circ a' b').1.2 ≤ (meetC circ a b).1.2 := by
  have h1 := loC_spec circ.1 a
  have h2 := hiC_spec circ.2 b
  have h3 := loC_spec circ.1 a'
  have h4 := hiC_spec circ.2 b'
  unfold meetC at *
  generalize loC circ.1 a = lo at *
  generalize hiC circ.2 b = hi at *
  generalize loC circ.1 a' = lo' at *
  generalize hiC circ.2 b' = hi' at *
  by_cases g : hi < lo
  · rw [if_pos g] at e1; cases e1
  · by_cases g' : hi' < lo'
    · rw [if_pos g'] at e2; cases e2
    · rw [if_neg g, if_neg g']; exact ⟨by simp only; omega, by simp only; omega⟩
theorem meet_true (circ : Int × Int) (a b own : Int) (h1 : circ.1 ≤ own) (h2 : own ≤ circ.2) (ha : a ≤ own) (hb : own ≤ b) : (meetC circ a b).1.1 ≤ own ∧ own ≤ (meetC circ a b).1.2 := by
  have h3 := loC_spec circ.1 a
  have h4 := hiC_spec circ.2 b
  unfold meetC
  generalize loC circ.1 a = lo at *
  generalize hiC circ.2 b = hi at *
  by_cases g : hi < lo
  · rw [if_pos g]; exact ⟨h1, h2⟩
  · rw [if_neg g]; exact ⟨by simp only; omega, by simp only; omega⟩
def wayN (way : Int × Int) (n : Int) : Int × Int := if n < 0 then (-way.2, -way.1) else way
def absN (n : Int) : Int := if n < 0 then -n else n
/-- What is learned. -/
def learnI (circ way : Int × Int) (p n : Int) : (Int × Int) × Bool :=
  if absN n < 2 ∨ (wayN way n).1 ≤ 0 then (circ, false) else meetC circ ((wayN way n).1 * p / (absN n + 1)) (upI ((wayN way n).2 * p) (absN n - 1))
def May (circ way : Int × Int) (p n : Int) : Prop :=
  1 ≤ circ.1 ∧ circ.1 ≤ circ.2 ∧ circ.2 ≤ 8388608 ∧ -17592186044416 ≤ way.1 ∧ way.1 ≤ way.2 ∧ way.2 ≤ 17592186044416 ∧ 1 ≤ p ∧ p ≤ 1024 ∧ -1099511627776 ≤ n ∧ n ≤ 1099511627776
instance (circ way : Int × Int) (p n : Int) : Decidable (May circ way p n) := by unfold May; infer_instance
theorem f_may (circ way : Int × Int) (p n : Int) : F_law16_may circ way p n = some (decide (May circ way p n)) := by
  unfold F_law16_may
  refine congrArg some ?_
  rw [Bool.eq_iff_iff]
  simp only [Bool.cond_false_right, Bool.and_eq_true, decide_eq_true_eq]
  unfold May
  constructor
  · rintro ⟨⟨⟨⟨⟨⟨⟨⟨⟨h1, h2⟩, h3⟩, h4⟩, h5⟩, h6⟩, h7⟩, h8⟩, h9⟩, h10⟩
    exact ⟨h1, h2, h3, h4, h5, h6, h7, h8, h9, h10⟩
  · rintro ⟨h1, h2, h3, h4, h5, h6, h7, h8, h9, h10⟩
    exact ⟨⟨⟨⟨⟨⟨⟨⟨⟨h1, h2⟩, h3⟩, h4⟩, h5⟩, h6⟩, h7⟩, h8⟩, h9⟩, h10⟩
theorem f_reckoned (w1 w2 p k : Int) (h1 : -17592186044416 ≤ w1) (h2 : w1 ≤ w2) (h3 : w2 ≤ 17592186044416) (h4 : 1 ≤ p) (h5 : p ≤ 1024) (h6 : k ≤ 1099511627776) (h7 : -9223372036854775808 ≤ k) :
    ∃ r, F_wheel_reckoned (w1, w2) p k = some r ∧ (k < 2 ∨ w1 ≤ 0 → r.2 = false) ∧ (¬ (k < 2 ∨ w1 ≤ 0) → r = ((w1 * p / (k + 1), upI (w2 * p) (k - 1)), true)) := by
  unfold F_wheel_reckoned
  by_cases hc : k < 2 ∨ w1 ≤ 0
  · refine ⟨((0, 0), false), ?_, fun _ => rfl, fun h => absurd hc h⟩
    have e : ∀ t : Bool, (bif (bif decide (w1 ≤ 0) then true else t) then true else decide (k < 2)) = true := by
      intro t
      rcases hc with hc | hc
      · simp [hc]
      · simp [hc]
    by_cases hw : w1 ≤ 0
    · simp [hw]
    · have hk : k < 2 := by omega
      simp [hw, f_Right, hk]
  · have g1 : ¬ k < 2 := fun h => hc (.inl h)
    have g2 : ¬ w1 ≤ 0 := fun h => hc (.inr h)
    refine ⟨_, ?_, fun h => absurd h hc, fun _ => rfl⟩
    have b1 := mul_in (x := w1) (y := p) (X := 17592186044416) (Y := 1024) (by omega) (by omega) (by omega) h5 (by omega)
    have b2 := mul_in (x := w2) (y := p) (X := 17592186044416) (Y := 1024) (by omega) (by omega) (by omega) h5 (by omega)
    have e1 : IntKind.i64.wrap (k + 1) = k + 1 := wrap_id (by omega)
    have e2 : IntKind.i64.wrap (k - 1) = k - 1 := wrap_id (by omega)
    have i1 := div_in (a := w1 * p) (b := k + 1) ⟨by omega, by omega⟩ (by omega)
    have i2 : -9223372036854775807 ≤ upI (w2 * p) (k - 1) ∧ upI (w2 * p) (k - 1) ≤ 9223372036854775807 := by
      have := div_in (a := -(w2 * p)) (b := k - 1) ⟨by omega, by omega⟩ (by omega)
      have hb2 : -9223372036854775807 ≤ -(w2 * p) / (k - 1) := by
        have k2 := Int.lt_ediv_add_one_mul_self (-(w2 * p)) (show 0 < k - 1 by omega)
        apply Classical.byContradiction
        intro hn
        have h4 : (-(w2 * p) / (k - 1) + 1) * (k - 1) ≤ -9223372036854775807 * (k - 1) := Int.mul_le_mul_of_nonneg_right (by omega) (by omega)
        omega
      obtain ⟨_, _⟩ := this
      unfold upI
      omega
    have hq : quoI (w2 * p) (k - 1) true = upI (w2 * p) (k - 1) := by
      have e : szI (k - 1) = k - 1 := by unfold szI; rw [if_neg (by omega)]
      unfold quoI upI
      simp only [if_neg (show ¬ k - 1 < 0 by omega), e, if_true]
    simp only [decide_eq_false g1, decide_eq_false g2, Bool.not_false, cond_true, f_Right, Option.bind_some, decide_eq_true h2, Bool.not_true, cond_false, e1, e2]
    rw [f_Floor _ _ _ ⟨by omega, by omega⟩ ⟨by omega, by omega⟩ ⟨by omega, by omega⟩, f_Ceil _ _ _ ⟨by omega, by omega⟩ ⟨by omega, by omega⟩ ⟨by omega, by omega⟩, if_neg (by omega), if_neg (by omega), quo_floor (by omega), hq]
    unfold sayI
    rw [if_pos (in64_yes i1), if_pos (in64_yes (by omega))]
    rfl
theorem f_wheel_Learn (circ way : Int × Int) (p n : Int) (h : May circ way p n) : F_wheel_Learn circ way p n = some (learnI circ way p n) := by
  obtain ⟨c1, c2⟩ := circ
  obtain ⟨w1, w2⟩ := way
  unfold May at h
  simp only at h
  obtain ⟨a1, a2, a3, a4, a5, a6, a7, a8, a9, a10⟩ := h
  unfold F_wheel_Learn
  have tail : ∀ (w1 w2 k : Int), -17592186044416 ≤ w1 → w1 ≤ w2 → w2 ≤ 17592186044416 → k ≤ 1099511627776 → 0 ≤ k →
      ((F_wheel_reckoned (w1, w2) p k).bind fun t37 => bif !t37.2 then some ((c1, c2), false) else (F_span_Span_Meet (c1, c2) t37.1).bind fun t46 => bif !t46.2 then some ((c1, c2), false) else some (t46.1, true)) =
      some (if k < 2 ∨ w1 ≤ 0 then ((c1, c2), false) else meetC (c1, c2) (w1 * p / (k + 1)) (upI (w2 * p) (k - 1))) := by
    intro w1 w2 k k1 k2 k3 k4 k5
    obtain ⟨r, e1, e2, e3⟩ := f_reckoned w1 w2 p k k1 k2 k3 a7 a8 k4 (by omega)
    rw [e1, Option.bind_some]
    by_cases hc : k < 2 ∨ w1 ≤ 0
    · rw [if_pos hc, e2 hc]; rfl
    · rw [if_neg hc, e3 hc]
      simp only [Bool.not_true, cond_false, f_Meet, Option.bind_some]
      unfold meetC
      have m1 : loM (c1, c2) (w1 * p / (k + 1), upI (w2 * p) (k - 1)) = loC (c1, c2).1 (w1 * p / (k + 1)) := by unfold loM loC; simp only; split <;> split <;> omega
      have m2 : hiM (c1, c2) (w1 * p / (k + 1), upI (w2 * p) (k - 1)) = hiC (c1, c2).2 (upI (w2 * p) (k - 1)) := by unfold hiM hiC; simp only; split <;> split <;> omega
      rw [m1, m2]
      generalize hiC (c1, c2).2 (upI (w2 * p) (k - 1)) = hi
      generalize loC (c1, c2).1 (w1 * p / (k + 1)) = lo
      by_cases g : hi < lo <;> simp [g]
  unfold learnI
  by_cases hn : n < 0
  · have e0 : F_span_Span_Sub (0, 0) (w1, w2) = some ((-w2, -w1), true) := by
      rw [f_SSub (0, 0) (w1, w2) ⟨by omega, by omega⟩ ⟨by omega, by omega⟩ ⟨by simp only []; omega, by simp only []; omega⟩ ⟨by simp only []; omega, by simp only []; omega⟩]
      simp only [decide_eq_true a5, decide_eq_true (show (0 : Int) ≤ 0 by omega), cond_true]
      unfold endsOf
      rw [if_pos ⟨rfl, in64_yes (by omega), in64_yes (by omega), by omega⟩, Int.zero_sub, Int.zero_sub]
    have e1 : IntKind.i64.wrap (0 - n) = -n := by rw [wrap_id (by omega)]; omega
    have e2 : wayN (w1, w2) n = (-w2, -w1) := by unfold wayN; rw [if_pos hn]
    have e3 : absN n = -n := by unfold absN; rw [if_pos hn]
    rw [e2, e3]
    simp only [decide_eq_true hn, decide_eq_true (show -4611686018427387904 < n by omega), cond_true, e0, e1, Option.bind_some, Bool.not_true, cond_false]
    exact tail (-w2) (-w1) (-n) (by omega) (by omega) (by omega) (by omega) (by omega)
  · have e2 : wayN (w1, w2) n = (w1, w2) := by unfold wayN; rw [if_neg hn]
    have e3 : absN n = n := by unfold absN; rw [if_neg hn]
    rw [e2, e3]
    simp only [decide_eq_false hn, cond_false, Option.bind_some]
    exact tail w1 w2 n (by omega) (by omega) (by omega) (by omega) (by omega)
theorem f_ref_Learn (circ way : Int × Int) (p n : Int) (h : May circ way p n) : F_ref16_Learn circ.1 circ.2 way.1 way.2 p n = some ((learnI circ way p n).1.1, (learnI circ way p n).1.2, (learnI circ way p n).2) := by
  obtain ⟨c1, c2⟩ := circ
  obtain ⟨w1, w2⟩ := way
  unfold May at h
  simp only at h ⊢
  obtain ⟨a1, a2, a3, a4, a5, a6, a7, a8, a9, a10⟩ := h
  have tail : ∀ (w1 w2 k : Int) (T : (Int × Int) × Bool), -17592186044416 ≤ w1 → w1 ≤ w2 → w2 ≤ 17592186044416 → k ≤ 1099511627776 → 0 ≤ k →
      T = (if k < 2 ∨ w1 ≤ 0 then ((c1, c2), false) else meetC (c1, c2) (w1 * p / (k + 1)) (upI (w2 * p) (k - 1))) →
      (bif (bif decide (k < 2) then true else decide (w1 ≤ 0)) then some (c1, c2, false) else
        (F_ref15_Down (IntKind.wrap .i64 (w1 * p)) (IntKind.wrap .i64 (k + 1))).bind fun t40 =>
        (F_ref15_Up (IntKind.wrap .i64 (w2 * p)) (IntKind.wrap .i64 (k - 1))).bind fun t46 =>
        Option.bind (bif decide (t40 < c1) then some c1 else some t40) fun r24 =>
        Option.bind (bif decide (c2 < t46) then some c2 else some t46) fun r25 =>
        bif decide (r25 < r24) then some (c1, c2, false) else some (r24, r25, true)) = some (T.1.1, T.1.2, T.2) := by
    intro w1 w2 k T k1 k2 k3 k4 k5 hT
    by_cases hc : k < 2 ∨ w1 ≤ 0
    · rw [if_pos hc] at hT
      subst hT
      rcases hc with hc | hc
      · simp [hc]
      · simp [hc]
    · rw [if_neg hc] at hT
      have b1 := mul_in (x := w1) (y := p) (X := 17592186044416) (Y := 1024) (by omega) (by omega) (by omega) a8 (by omega)
      have b2 := mul_in (x := w2) (y := p) (X := 17592186044416) (Y := 1024) (by omega) (by omega) (by omega) a8 (by omega)
      rw [decide_eq_false (show ¬ k < 2 by omega), decide_eq_false (show ¬ w1 ≤ 0 by omega), wrap_id (n := w1 * p) (by omega), wrap_id (n := k + 1) (by omega), wrap_id (n := w2 * p) (by omega), wrap_id (n := k - 1) (by omega),
        f_Down _ _ ⟨by omega, by omega⟩ (by omega), f_Up _ _ (by omega) (by omega)]
      simp only [cond_false, Option.bind_some]
      generalize w1 * p / (k + 1) = a at *
      generalize upI (w2 * p) (k - 1) = b at *
      have q1 : (bif decide (a < c1) then some c1 else some a) = some (loC c1 a) := by unfold loC; by_cases g : a < c1 <;> simp [g]
      have q2 : (bif decide (c2 < b) then some c2 else some b) = some (hiC c2 b) := by unfold hiC; by_cases g : c2 < b <;> simp [g]
      rw [q1, Option.bind_some, q2, Option.bind_some]
      unfold meetC at hT
      simp only at hT
      generalize loC c1 a = lo at *
      generalize hiC c2 b = hi at *
      subst hT
      by_cases g : hi < lo <;> simp [g]
  unfold F_ref16_Learn
  by_cases hn : n < 0
  · have e2 : wayN (w1, w2) n = (-w2, -w1) := by unfold wayN; rw [if_pos hn]
    have e3 : absN n = -n := by unfold absN; rw [if_pos hn]
    simp only [decide_eq_true hn, cond_true, Option.bind_some, Int.zero_sub, wrap_id (n := -n) (by omega), wrap_id (n := -w1) (by omega), wrap_id (n := -w2) (by omega)]
    refine tail (-w2) (-w1) (-n) _ (by omega) (by omega) (by omega) (by omega) (by omega) ?_
    unfold learnI
    rw [e2, e3]
  · have e2 : wayN (w1, w2) n = (w1, w2) := by unfold wayN; rw [if_neg hn]
    have e3 : absN n = n := by unfold absN; rw [if_neg hn]
    simp only [decide_eq_false hn, cond_false, Option.bind_some]
    refine tail w1 w2 n _ (by omega) (by omega) (by omega) (by omega) (by omega) ?_
    unfold learnI
    rw [e2, e3]
theorem f_anchor16 : F_law16_anchor () = some true := by
  unfold F_law16_anchor
  simp only [f_wheel_Learn (900, 1100) (10000, 10010) 10 100 (by decide)]
  decide +kernel
theorem learn_in (circ way : Int × Int) (p n : Int) (h : circ.1 ≤ circ.2) : circ.1 ≤ (learnI circ way p n).1.1 ∧ (learnI circ way p n).1.2 ≤ circ.2 ∧ (learnI circ way p n).1.1 ≤ (learnI circ way p n).1.2 := by
  unfold learnI
  split
  · exact ⟨Int.le_refl _, Int.le_refl _, h⟩
  · exact meet_in _ _ _ h
theorem f_WheelLearns (circ way : Int × Int) (p n : Int) : F_law16_WheelLearns circ way p n = some true := by
  unfold F_law16_WheelLearns
  rw [f_anchor16, Option.bind_some, f_may, Option.bind_some]
  by_cases h : May circ way p n
  · have h' := learn_in circ way p n (by unfold May at h; omega)
    rw [decide_eq_true h, f_wheel_Learn _ _ _ _ h, f_ref_Learn _ _ _ _ h]
    simp [h']
  · rw [decide_eq_false h]; rfl
theorem learn_back (circ way : Int × Int) (p n : Int) : learnI circ (-way.2, -way.1) p (-n) = learnI circ way p n := by
  unfold learnI
  by_cases hn : n = 0
  · subst hn
    have : absN 0 < 2 := by decide
    rw [if_pos (.inl (by decide)), if_pos (.inl this)]
  · have e1 : wayN (-way.2, -way.1) (-n) = wayN way n := by
      unfold wayN
      by_cases h : n < 0
      · rw [if_pos h, if_neg (by omega)]
      · rw [if_neg h, if_pos (by omega), Int.neg_neg, Int.neg_neg]
    have e2 : absN (-n) = absN n := by unfold absN; split <;> split <;> omega
    rw [e1, e2]
theorem f_WheelBack (circ way : Int × Int) (p n : Int) : F_law16_WheelBack circ way p n = some true := by
  unfold F_law16_WheelBack
  rw [f_anchor16, Option.bind_some, f_may, Option.bind_some]
  by_cases h : May circ way p n
  · have h' : May circ (-way.2, -way.1) p (-n) := by unfold May at h ⊢; simp only; omega
    rw [decide_eq_true h, f_wheel_Learn _ _ _ _ h]
    unfold May at h
    simp only [Int.zero_sub, wrap_id (n := -way.2) (by omega), wrap_id (n := -way.1) (by omega), wrap_id (n := -n) (by omega), f_wheel_Learn _ _ _ _ h', learn_back, Option.bind_some]
    simp [eqT_self_span]
  · rw [decide_eq_false h]; rfl
theorem learn_more (circ way better : Int × Int) (p n : Int) (hp : 0 ≤ p) (h1 : way.1 ≤ better.1) (h2 : better.2 ≤ way.2) (e1 : (learnI circ way p n).2 = true) (e2 : (learnI circ better p n).2 = true) :
    (learnI circ way p n).1.1 ≤ (learnI circ better p n).1.1 ∧ (learnI circ better p n).1.2 ≤ (learnI circ way p n).1.2 := by
  have hw : (wayN way n).1 ≤ (wayN better n).1 ∧ (wayN better n).2 ≤ (wayN way n).2 := by
    unfold wayN
    split <;> (try dsimp only) <;> omega
  unfold learnI at *
  generalize wayN way n = w at *
  generalize wayN better n = u at *
  generalize absN n = k at *
  by_cases g1 : k < 2 ∨ w.1 ≤ 0
  · rw [if_pos g1] at e1; cases e1
  · by_cases g2 : k < 2 ∨ u.1 ≤ 0
    · rw [if_pos g2] at e2; cases e2
    · rw [if_neg g1] at e1 ⊢
      rw [if_neg g2] at e2 ⊢
      have m1 : w.1 * p ≤ u.1 * p := Int.mul_le_mul_of_nonneg_right hw.1 hp
      have m2 : u.2 * p ≤ w.2 * p := Int.mul_le_mul_of_nonneg_right hw.2 hp
      have d1 : w.1 * p / (k + 1) ≤ u.1 * p / (k + 1) := Int.ediv_le_ediv (by omega) m1
      have d2 : upI (u.2 * p) (k - 1) ≤ upI (w.2 * p) (k - 1) := by
        unfold upI
        have := Int.ediv_le_ediv (c := k - 1) (a := -(w.2 * p)) (b := -(u.2 * p)) (by omega) (by omega)
        omega
      exact meet_mono _ _ _ _ _ d1 d2 e1 e2
theorem f_WheelMore (circ way better : Int × Int) (p n : Int) : F_law16_WheelMore circ way better p n = some true := by
  unfold F_law16_WheelMore
  rw [f_anchor16, Option.bind_some, f_may, Option.bind_some, f_may]
  by_cases h : May circ way p n
  · by_cases h2 : May circ better p n
    · rw [decide_eq_true h, decide_eq_true h2]
      simp only [Bool.not_true, cond_false, Bool.not_false, cond_true, Option.bind_some]
      by_cases g1 : better.1 < way.1
      · rw [decide_eq_true g1]; rfl
      · by_cases g2 : way.2 < better.2
        · rw [decide_eq_false g1, decide_eq_true g2]; rfl
        · rw [decide_eq_false g1, decide_eq_false g2, f_wheel_Learn _ _ _ _ h, f_wheel_Learn _ _ _ _ h2]
          have := learn_more circ way better p n (by unfold May at h; omega) (by omega) (by omega)
          simp only [cond_false, Option.bind_some]
          cases e1 : (learnI circ way p n).2 with
          | false => rfl
          | true =>
            cases e2 : (learnI circ better p n).2 with
            | false => rfl
            | true =>
              obtain ⟨k1, k2⟩ := this e1 e2
              rw [decide_eq_true k1, decide_eq_true k2]; rfl
    · rw [decide_eq_true h, decide_eq_false h2]; rfl
  · rw [decide_eq_false h]; rfl
theorem learn_true (circ way : Int × Int) (p n own went : Int) (hp : 1 ≤ p) (h1 : circ.1 ≤ own) (h2 : own ≤ circ.2) (h3 : way.1 ≤ went) (h4 : went ≤ way.2) (h5 : -own < n * own - went * p) (h6 : n * own - went * p < own) :
    (learnI circ way p n).1.1 ≤ own ∧ own ≤ (learnI circ way p n).1.2 := by
  have main : ∀ (w : Int × Int) (k g : Int), w.1 ≤ g → g ≤ w.2 → -own < k * own - g * p → k * own - g * p < own → ¬ (k < 2 ∨ w.1 ≤ 0) → w.1 * p / (k + 1) ≤ own ∧ own ≤ upI (w.2 * p) (k - 1) := by
    intro w k g g1 g2 g3 g4 g5
    have m1 : w.1 * p ≤ g * p := Int.mul_le_mul_of_nonneg_right g1 (by omega)
    have m2 : g * p ≤ w.2 * p := Int.mul_le_mul_of_nonneg_right g2 (by omega)
    have e1 : own * (k + 1) = k * own + own := by rw [Int.mul_add, Int.mul_one, Int.mul_comm]
    have e2 : -own * (k - 1) = -(k * own) + own := by rw [Int.mul_sub, Int.mul_one, Int.neg_mul, Int.mul_comm]; omega
    constructor
    · have : w.1 * p / (k + 1) < own + 1 := Int.ediv_lt_of_lt_mul (by omega) (by rw [Int.add_mul, e1]; omega)
      omega
    · unfold upI
      have : -(w.2 * p) / (k - 1) < -own + 1 := Int.ediv_lt_of_lt_mul (by omega) (by rw [Int.add_mul, e2]; omega)
      omega
  have hw : ∃ g, (wayN way n).1 ≤ g ∧ g ≤ (wayN way n).2 ∧ -own < absN n * own - g * p ∧ absN n * own - g * p < own := by
    unfold wayN absN
    by_cases hn : n < 0
    · simp only [if_pos hn]
      refine ⟨-went, by omega, by omega, ?_, ?_⟩ <;> rw [Int.neg_mul, Int.neg_mul] <;> omega
    · simp only [if_neg hn]
      exact ⟨went, h3, h4, h5, h6⟩
  unfold learnI
  generalize wayN way n = w at *
  generalize absN n = k at *
  obtain ⟨g, g1, g2, g3, g4⟩ := hw
  by_cases hc : k < 2 ∨ w.1 ≤ 0
  · rw [if_pos hc]; exact ⟨h1, h2⟩
  · rw [if_neg hc]
    obtain ⟨k1, k2⟩ := main w k g g1 g2 g3 g4 hc
    exact meet_true _ _ _ _ h1 h2 k1 k2
theorem f_WheelTrue (circ way : Int × Int) (p n own went : Int) : F_law16_WheelTrue circ way p n own went = some true := by
  unfold F_law16_WheelTrue
  rw [f_anchor16, Option.bind_some, f_may, Option.bind_some]
  by_cases h : May circ way p n
  · rw [decide_eq_true h]
    simp only [Bool.not_true, cond_false]
    by_cases g1 : own < circ.1
    · rw [decide_eq_true g1]; rfl
    by_cases g2 : circ.2 < own
    · rw [decide_eq_false g1, decide_eq_true g2]; rfl
    by_cases g3 : went < way.1
    · rw [decide_eq_false g1, decide_eq_false g2, decide_eq_true g3]; rfl
    by_cases g4 : way.2 < went
    · rw [decide_eq_false g1, decide_eq_false g2, decide_eq_false g3, decide_eq_true g4]; rfl
    by_cases g5 : n < -274877906944
    · rw [decide_eq_false g1, decide_eq_false g2, decide_eq_false g3, decide_eq_false g4, decide_eq_true g5]; rfl
    by_cases g6 : 274877906944 < n
    · rw [decide_eq_false g1, decide_eq_false g2, decide_eq_false g3, decide_eq_false g4, decide_eq_false g5, decide_eq_true g6]; rfl
    have h' := h
    unfold May at h
    have b1 := mul_in (x := n) (y := own) (X := 274877906944) (Y := 8388608) (by omega) (by omega) (by omega) (by omega) (by omega)
    have b2 := mul_in (x := went) (y := p) (X := 17592186044416) (Y := 1024) (by omega) (by omega) (by omega) (by omega) (by omega)
    rw [decide_eq_false g1, decide_eq_false g2, decide_eq_false g3, decide_eq_false g4, decide_eq_false g5, decide_eq_false g6, wrap_id (n := n * own) (by omega), wrap_id (n := went * p) (by omega), wrap_id (n := n * own - went * p) (by omega), wrap_id (n := 0 - own) (by omega)]
    simp only [cond_false]
    by_cases g7 : n * own - went * p ≤ 0 - own
    · rw [decide_eq_true g7]; rfl
    by_cases g8 : own ≤ n * own - went * p
    · rw [decide_eq_false g7, decide_eq_true g8]; rfl
    rw [decide_eq_false g7, decide_eq_false g8, f_wheel_Learn _ _ _ _ h']
    obtain ⟨k1, k2⟩ := learn_true circ way p n own went (by omega) (by omega) (by omega) (by omega) (by omega) (by omega) (by omega)
    simp only [cond_false, Option.bind_some, f_Has, isIn, decide_eq_true k1, decide_eq_true k2, cond_true]
  · rw [decide_eq_false h]; rfl
section
variable (w : World)
theorem law16_WheelLearns (a b c d p n : Int) (ha : I64 a) (hb : I64 b) (hc : I64 c) (hd : I64 d) (hp : I64 p) (hn : I64 n) :
    Calls Try.prog 9 #[.agg #[.int .i64 a, .int .i64 b], .agg #[.int .i64 c, .int .i64 d], .int .i64 p, .int .i64 n] w fun e w' => e = .returned (.bool true) ∧ Below w.heap.size w w' :=
  call_true ok_F_law16_WheelLearns rfl (x := ((a, b), (c, d), p, n)) (f_WheelLearns _ _ _ _) rfl w _ ⟨rl_span ha hb, rl_span hc hd, rl_i64 hp, rl_i64 hn, trivial⟩
theorem law16_WheelBack (a b c d p n : Int) (ha : I64 a) (hb : I64 b) (hc : I64 c) (hd : I64 d) (hp : I64 p) (hn : I64 n) :
    Calls Try.prog 10 #[.agg #[.int .i64 a, .int .i64 b], .agg #[.int .i64 c, .int .i64 d], .int .i64 p, .int .i64 n] w fun e w' => e = .returned (.bool true) ∧ Below w.heap.size w w' :=
  call_true ok_F_law16_WheelBack rfl (x := ((a, b), (c, d), p, n)) (f_WheelBack _ _ _ _) rfl w _ ⟨rl_span ha hb, rl_span hc hd, rl_i64 hp, rl_i64 hn, trivial⟩
theorem law16_WheelMore (a b c d e f p n : Int) (ha : I64 a) (hb : I64 b) (hc : I64 c) (hd : I64 d) (he : I64 e) (hf : I64 f) (hp : I64 p) (hn : I64 n) :
    Calls Try.prog 11 #[.agg #[.int .i64 a, .int .i64 b], .agg #[.int .i64 c, .int .i64 d], .agg #[.int .i64 e, .int .i64 f], .int .i64 p, .int .i64 n] w fun e w' => e = .returned (.bool true) ∧ Below w.heap.size w w' :=
  call_true ok_F_law16_WheelMore rfl (x := ((a, b), (c, d), (e, f), p, n)) (f_WheelMore _ _ _ _ _) rfl w _ ⟨rl_span ha hb, rl_span hc hd, rl_span he hf, rl_i64 hp, rl_i64 hn, trivial⟩
theorem law16_WheelTrue (a b c d p n o g : Int) (ha : I64 a) (hb : I64 b) (hc : I64 c) (hd : I64 d) (hp : I64 p) (hn : I64 n) (ho : I64 o) (hg : I64 g) :
    Calls Try.prog 12 #[.agg #[.int .i64 a, .int .i64 b], .agg #[.int .i64 c, .int .i64 d], .int .i64 p, .int .i64 n, .int .i64 o, .int .i64 g] w fun e w' => e = .returned (.bool true) ∧ Below w.heap.size w w' :=
  call_true ok_F_law16_WheelTrue rfl (x := ((a, b), (c, d), p, n, o, g)) (f_WheelTrue _ _ _ _ _ _) rfl w _ ⟨rl_span ha hb, rl_span hc hd, rl_i64 hp, rl_i64 hn, rl_i64 ho, rl_i64 hg, trivial⟩
end
end Go.Proofs.Ytbgdgpdfaebniaa
