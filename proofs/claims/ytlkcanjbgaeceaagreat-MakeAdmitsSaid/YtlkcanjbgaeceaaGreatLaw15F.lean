/- The laws of chapter 15 on tachometers: what their readings say is true. -/
import Derived.Test.YtlkcanjbgaeceaaGreatLaw16F
import Derived.Test.YtlkcanjbgaeceaaGreatConfF
set_option linter.unusedSimpArgs false
set_option linter.unusedVariables false
namespace Go.Proofs.YtlkcanjbgaeceaaGreat
open Go.RowKit
def gLo (k : Int) (c : Int × Int) : Int := k * (if k < 0 then c.2 else c.1)
def gHi (k : Int) (c : Int × Int) : Int := k * (if k < 0 then c.1 else c.2)
theorem g_le (k : Int) (c : Int × Int) (x : Int) (h1 : c.1 ≤ x) (h2 : x ≤ c.2) : gLo k c ≤ k * x ∧ k * x ≤ gHi k c := by
  unfold gLo gHi
  by_cases h : k < 0
  · rw [if_pos h, if_pos h]
    exact ⟨Int.mul_le_mul_of_nonpos_left (by omega) h2, Int.mul_le_mul_of_nonpos_left (by omega) h1⟩
  · rw [if_neg h, if_neg h]
    exact ⟨Int.mul_le_mul_of_nonneg_left h1 (by omega), Int.mul_le_mul_of_nonneg_left h2 (by omega)⟩
theorem g_at (k : Int) (c : Int × Int) (h : c.1 ≤ c.2) : (∃ x, c.1 ≤ x ∧ x ≤ c.2 ∧ gLo k c = k * x) ∧ ∃ x, c.1 ≤ x ∧ x ≤ c.2 ∧ gHi k c = k * x := by
  unfold gLo gHi
  by_cases hk : k < 0
  · rw [if_pos hk, if_pos hk]; exact ⟨⟨_, h, Int.le_refl _, rfl⟩, ⟨_, Int.le_refl _, h, rfl⟩⟩
  · rw [if_neg hk, if_neg hk]; exact ⟨⟨_, Int.le_refl _, h, rfl⟩, ⟨_, h, Int.le_refl _, rfl⟩⟩
theorem g_mono {j k : Int} {c : Int × Int} (hjk : j ≤ k) (h0 : 0 ≤ c.1) (h : c.1 ≤ c.2) : gLo j c ≤ gLo k c ∧ gHi j c ≤ gHi k c := by
  obtain ⟨⟨x, x1, x2, x3⟩, _⟩ := g_at k c h
  obtain ⟨_, y, y1, y2, y3⟩ := g_at j c h
  have h1 : j * x ≤ k * x := Int.mul_le_mul_of_nonneg_right hjk (by omega)
  have h2 : j * y ≤ k * y := Int.mul_le_mul_of_nonneg_right hjk (by omega)
  have h3 := g_le j c x x1 x2
  have h4 := g_le k c y y1 y2
  omega
theorem up_ge (a b : Int) (hb : 0 < b) : a / b ≤ upI a b := by
  unfold upI
  have h1 : a / b * b ≤ a := Int.ediv_mul_le a (by omega)
  have h2 : -a / b * b ≤ -a := Int.ediv_mul_le (-a) (by omega)
  apply Classical.byContradiction
  intro hn
  have h3 : (-a / b + a / b) * b = -a / b * b + a / b * b := Int.add_mul _ _ _
  have h4 : 1 * b ≤ (-a / b + a / b) * b := Int.mul_le_mul_of_nonneg_right (by omega) (by omega)
  omega
theorem up_mono {a a' b : Int} (hb : 0 < b) (h : a ≤ a') : upI a b ≤ upI a' b := by
  unfold upI
  have := Int.ediv_le_ediv (c := b) (a := -a') (b := -a) hb (by omega)
  omega
theorem quo_up {n c : Int} (hc : 0 < c) : quoI n c true = upI n c := by
  have e : szI c = c := by unfold szI; rw [if_neg (by omega)]
  unfold quoI upI
  simp only [if_neg (show ¬ c < 0 by omega), e, if_true]
def WheelOK (c : Int × Int) (p : Int) : Prop := 1 ≤ c.1 ∧ c.1 ≤ c.2 ∧ c.2 ≤ 8388608 ∧ 1 ≤ p ∧ p ≤ 1024
instance (c : Int × Int) (p : Int) : Decidable (WheelOK c p) := by unfold WheelOK; infer_instance
theorem f_HullR (s t : Int × Int) (h1 : s.1 ≤ s.2) (h2 : t.1 ≤ t.2) (h3 : s.1 ≤ t.1) (h4 : s.2 ≤ t.2) : F_span_Span_Hull s t = some (s.1, t.2) := by
  unfold F_span_Span_Hull
  rw [f_Right, f_Right, Option.bind_some, Option.bind_some, decide_eq_true h1, decide_eq_true h2]
  simp only [Bool.not_true, cond_false]
  rw [if_neg (by omega)]
  by_cases g : t.2 > s.2
  · rw [if_pos g]
  · rw [if_neg g, show s.2 = t.2 by omega]
def tachoI (d : Int) (c : Int × Int) (p : Int) : Int × Int := (gLo (d - 1) c / p, upI (gHi (d + 1) c) p)
theorem g_bound (k : Int) (c : Int × Int) (hk : -32769 ≤ k ∧ k ≤ 32768) (h0 : 0 ≤ c.1) (h : c.1 ≤ c.2) (h2 : c.2 ≤ 8388608) : (-274886295552 ≤ gLo k c ∧ gLo k c ≤ 274886295552) ∧ -274886295552 ≤ gHi k c ∧ gHi k c ≤ 274886295552 := by
  obtain ⟨⟨x, x1, x2, x3⟩, y, y1, y2, y3⟩ := g_at k c h
  have b1 := mul_in (x := k) (y := x) (X := 32769) (Y := 8388608) (by omega) (by omega) (by omega) (by omega) (by omega)
  have b2 := mul_in (x := k) (y := y) (X := 32769) (Y := 8388608) (by omega) (by omega) (by omega) (by omega) (by omega)
  omega
theorem div_small {a b B : Int} (hb : 0 < b) (h : -B ≤ a ∧ a ≤ B) (hB : 0 ≤ B) : -B - 1 ≤ a / b ∧ a / b ≤ B := by
  have k1 : a / b * b ≤ a := Int.ediv_mul_le a (by omega)
  have k2 := Int.lt_ediv_add_one_mul_self a hb
  constructor
  · apply Classical.byContradiction
    intro hn
    have h4 : (a / b + 1) * b ≤ -(B + 1) * b := Int.mul_le_mul_of_nonneg_right (by omega) (by omega)
    have h5 : (B + 1) * 1 ≤ (B + 1) * b := Int.mul_le_mul_of_nonneg_left (by omega) (by omega)
    rw [Int.neg_mul] at h4
    omega
  · apply Classical.byContradiction
    intro hn
    have h4 : (B + 1) * b ≤ a / b * b := Int.mul_le_mul_of_nonneg_right (by omega) (by omega)
    have h5 : (B + 1) * 1 ≤ (B + 1) * b := Int.mul_le_mul_of_nonneg_left (by omega) (by omega)
    omega
theorem up_small {a b B : Int} (hb : 0 < b) (h : -B ≤ a ∧ a ≤ B) (hB : 0 ≤ B) : -B ≤ upI a b ∧ upI a b ≤ B + 1 := by
  have := div_small (a := -a) hb (B := B) (by omega) hB
  unfold upI
  omega
theorem times15 (k : Int) (c : Int × Int) (p : Int) (hk : -32769 ≤ k ∧ k ≤ 32768) (h : WheelOK c p) : F_span_Span_Times c k p = some ((gLo k c / p, upI (gHi k c) p), 0) := by
  obtain ⟨h1, h2, h3, h4, h5⟩ := h
  have hb := g_bound k c hk (by omega) h2 h3
  have d1 := div_small (b := p) (by omega) hb.1 (by omega)
  have d2 := up_small (b := p) (by omega) hb.2 (by omega)
  rw [f_Times c k p ⟨by omega, by omega⟩ ⟨by omega, by omega⟩ ⟨by omega, by omega⟩ ⟨by omega, by omega⟩, if_neg (by omega)]
  simp only
  rw [quo_floor (by omega), quo_up (by omega)]
  change some (if in64 (gLo k c / p) = true ∧ in64 (upI (gHi k c) p) = true then ((gLo k c / p, upI (gHi k c) p), (0 : Int)) else _) = _
  rw [if_pos ⟨in64_yes (by omega), in64_yes (by omega)⟩]
theorem f_Tacho (d : Int) (c : Int × Int) (p : Int) (hd : -32768 ≤ d ∧ d ≤ 32767) (h : WheelOK c p) : F_sense_Tacho d c p = some (tachoI d c p, 0) := by
  have h' := h
  obtain ⟨h1, h2, h3, h4, h5⟩ := h
  unfold F_sense_Tacho
  simp only [decide_eq_false (show ¬ d < -32768 by omega), decide_eq_false (show ¬ 32767 < d by omega), cond_false, wrap_id (n := d - 1) (by omega), wrap_id (n := d + 1) (by omega),
    times15 (d - 1) c p (by omega) h', times15 (d + 1) c p (by omega) h', Option.bind_some]
  have m := g_mono (j := d - 1) (k := d + 1) (c := c) (by omega) (by omega) h2
  have l1 := g_le (d - 1) c c.1 (Int.le_refl _) h2
  have l2 := g_le (d + 1) c c.1 (Int.le_refl _) h2
  have q1 := Int.ediv_le_ediv (c := p) (a := gLo (d - 1) c) (b := gHi (d - 1) c) (by omega) (by omega)
  have q2 := Int.ediv_le_ediv (c := p) (a := gLo (d + 1) c) (b := gHi (d + 1) c) (by omega) (by omega)
  have u1 := up_ge (gHi (d - 1) c) p (by omega)
  have u2 := up_ge (gHi (d + 1) c) p (by omega)
  rw [f_HullR _ _ (by simp only; omega) (by simp only; omega) (by simp only; exact Int.ediv_le_ediv (by omega) m.1) (by simp only; exact up_mono (by omega) m.2)]
  rfl
theorem f_ref_Tacho (d : Int) (c : Int × Int) (p : Int) (hd : -32768 ≤ d ∧ d ≤ 32767) (h : WheelOK c p) : F_ref15_Tacho d c.1 c.2 p = some (tachoI d c p) := by
  obtain ⟨h1, h2, h3, h4, h5⟩ := h
  have b1 := mul_in (x := d - 1) (y := c.1) (X := 32769) (Y := 8388608) (by omega) (by omega) (by omega) (by omega) (by omega)
  have b2 := mul_in (x := d - 1) (y := c.2) (X := 32769) (Y := 8388608) (by omega) (by omega) (by omega) (by omega) (by omega)
  have b3 := mul_in (x := d + 1) (y := c.1) (X := 32769) (Y := 8388608) (by omega) (by omega) (by omega) (by omega) (by omega)
  have b4 := mul_in (x := d + 1) (y := c.2) (X := 32769) (Y := 8388608) (by omega) (by omega) (by omega) (by omega) (by omega)
  unfold F_ref15_Tacho tachoI gLo gHi
  simp only [wrap_id (n := d - 1) (by omega), wrap_id (n := d + 1) (by omega), wrap_id (n := (d - 1) * c.1) (by omega), wrap_id (n := (d - 1) * c.2) (by omega), wrap_id (n := (d + 1) * c.1) (by omega), wrap_id (n := (d + 1) * c.2) (by omega)]
  rw [f_Down _ p ⟨by omega, by omega⟩ (by omega), f_Down _ p ⟨by omega, by omega⟩ (by omega), f_Up _ p ⟨by omega, by omega⟩ (by omega), f_Up _ p ⟨by omega, by omega⟩ (by omega)]
  simp only [Option.bind_some]
  by_cases g1 : d < 1
  · rw [decide_eq_true g1, if_pos (show d - 1 < 0 by omega)]
    by_cases g2 : d < -1
    · rw [decide_eq_true g2, if_pos (show d + 1 < 0 by omega)]; rfl
    · rw [decide_eq_false g2, if_neg (show ¬ d + 1 < 0 by omega)]; rfl
  · rw [decide_eq_false g1, if_neg (show ¬ d - 1 < 0 by omega), decide_eq_false (show ¬ d < -1 by omega), if_neg (show ¬ d + 1 < 0 by omega)]; rfl
end Go.Proofs.YtlkcanjbgaeceaaGreat
