/- The root of the reading; laws of chapter 03 on roots. -/
import Derived.Test.YtbpadfmdjgjjlaaLaw03F
set_option linter.unusedSimpArgs false
set_option linter.unusedVariables false
namespace Go.Proofs.Ytbpadfmdjgjjlaa
open Go.RowKit
def IsRoot (X r : Int) : Prop := 0 ≤ r ∧ r * r ≤ X ∧ X < (r + 1) * (r + 1)
theorem IsRoot.le {X Y r s : Int} (h : IsRoot X r) (k : IsRoot Y s) (hXY : X ≤ Y) : r ≤ s := by
  obtain ⟨h0, h1, h2⟩ := h
  obtain ⟨k0, k1, k2⟩ := k
  apply Classical.byContradiction
  intro hn
  have : (s + 1) * (s + 1) ≤ r * r := Int.mul_le_mul (by omega) (by omega) (by omega) h0
  omega
theorem IsRoot.uniq {X r s : Int} (h : IsRoot X r) (k : IsRoot X s) : r = s := Int.le_antisymm (h.le k (Int.le_refl _)) (k.le h (Int.le_refl _))
noncomputable def rootI (X : Int) : Int := Classical.epsilon (IsRoot X)
theorem rootI_of {X r : Int} (h : IsRoot X r) : rootI X = r := (Classical.epsilon_spec (p := IsRoot X) ⟨r, h⟩).uniq h
/-- What holds ahead of bit i. -/
def RootAt (X r : Int) (k : Nat) : Prop := 0 ≤ r ∧ r % 2 ^ k = 0 ∧ r + 2 ^ k ≤ 18446744073709551616 ∧ r * r ≤ X ∧ X < (r + 2 ^ k) * (r + 2 ^ k)
theorem RootAt.step {X r : Int} {j : Nat} (h : RootAt X r (j + 1)) :
    (¬ (r + 2 ^ j) * (r + 2 ^ j) ≤ X → RootAt X r j) ∧ ((r + 2 ^ j) * (r + 2 ^ j) ≤ X → RootAt X (r + 2 ^ j) j) := by
  obtain ⟨h0, h1, h2, h3, h4⟩ := h
  have hp := pow_pos' j
  unfold RootAt
  rw [Int.pow_succ] at h1 h2 h4
  generalize (2 : Int) ^ j = P at *
  have hm : r % P = 0 := by
    have := Int.emod_emod_of_dvd r (show P ∣ P * 2 from ⟨2, rfl⟩)
    rw [h1] at this; simpa using this.symm
  constructor
  · intro hn
    exact ⟨h0, hm, by omega, h3, by omega⟩
  · intro hn
    refine ⟨by omega, ?_, by omega, hn, ?_⟩
    · rw [Int.add_emod, hm]; simp
    · have e : r + P + P = r + P * 2 := by omega
      rw [e]; exact h4
theorem root_or (r : Int) (j : Nat) (hj : j < 64) (h0 : 0 ≤ r) (h1 : r % 2 ^ (j + 1) = 0) (h2 : r + 2 ^ (j + 1) ≤ 18446744073709551616) : Go.bits .or .u64 r (2 ^ j) = r + 2 ^ j := by
  have hp := pow_pos' j
  have hpp := Int.pow_succ (2 : Int) j
  exact or_join r (2 ^ j) (j + 1) h0 (by omega) h1 (by omega) (by omega) (by omega)
theorem f_Root (h l : Int) (hh : U64 h) (hl : U64 l) : ∃ r, F_wide_U_Root (h, l) = some r ∧ IsRoot (vU h l) r ∧ U64 r := by
  have hX := vU_128 hh hl
  have main : ∀ (I : Int × Int → Prop), True := fun _ => trivial
  suffices hs : ∃ r, (F_wide_U_Root (h, l) = some r) ∧ (IsRoot (vU h l) r ∧ U64 r) by
    obtain ⟨r, h1, h2, h3⟩ := hs
    exact ⟨r, h1, h2, h3⟩
  unfold F_wide_U_Root
  have hbind : ∀ (o : Option Int), (Option.bind o fun r => some r) = o := fun o => by cases o <;> rfl
  rw [hbind]
  refine loopO_inv (fun s => ∃ (k : Nat) (r : Int), k ≤ 64 ∧ s = ((k : Int) - 1, r) ∧ RootAt (vU h l) r k) (fun s => (s.1 + 1).toNat) (fun r => IsRoot (vU h l) r ∧ U64 r) ?_ _ ⟨64, 0, by omega, rfl, ⟨by omega, by simp, by omega, by simpa using hX.1, by have := hX.2; omega⟩⟩
  rintro s ⟨k, r, hk, rfl, hR⟩
  cases k with
  | zero =>
    left
    obtain ⟨h0, _, h2, h3, h4⟩ := hR
    rw [Int.pow_zero] at h2 h4
    refine ⟨r, ?_, ⟨h0, h3, h4⟩, ⟨h0, by omega⟩⟩
    simp only []
    rw [show decide ((0 : Int) ≤ ((0 : Nat) : Int) - 1) = false from rfl, cond_false]
  | succ j =>
    right
    have hst := hR.step
    obtain ⟨h0, h1, h2, h3, h4⟩ := hR
    have hor := root_or r j (by omega) h0 h1 h2
    have hp := pow_pos' j
    have hpp := Int.pow_succ (2 : Int) j
    have hn : U64 (r + 2 ^ j) := ⟨by omega, by omega⟩
    have hw : IntKind.u64.wrap (j : Int) = (j : Int) := by rw [uwrap_of]; omega
    have hw2 : IntKind.i64.wrap ((j : Int) - 1) = (j : Int) - 1 := by rw [IntKind.wrap_i64]; omega
    have hsh : IntKind.u64.wrap (1 * 2 ^ min ((j : Int).toNat) 64) = 2 ^ j := by
      rw [Int.toNat_natCast, Nat.min_eq_left (by omega), Int.one_mul, uwrap_of, Int.emod_eq_of_lt (by omega) (by omega)]
    have hnn : U128 ((r + 2 ^ j) * (r + 2 ^ j)) := by
      obtain ⟨a, b⟩ := hn
      refine ⟨Int.mul_nonneg a a, ?_⟩
      have : (r + 2 ^ j) * (r + 2 ^ j) ≤ 18446744073709551615 * 18446744073709551615 := Int.mul_le_mul b b a (by omega)
      omega
    have hC := f_Cmp (hiU ((r + 2 ^ j) * (r + 2 ^ j))) (loU ((r + 2 ^ j) * (r + 2 ^ j))) h l (hiU_64 hnn) (loU_64 _) hh hl
    rw [vU_hilo] at hC
    rw [show (((j + 1 : Nat) : Int) - 1) = (j : Int) by omega]
    simp only [hw, hw2, hsh, bits_go _ _ _ _ (.inr (.inl rfl)), hor]
    rw [show decide ((0 : Int) ≤ (j : Int)) = true by simp, cond_true, chk_none rfl, f_Mul _ _ hn hn, Option.bind_some, hC, Option.bind_some]
    by_cases hle : (r + 2 ^ j) * (r + 2 ^ j) ≤ vU h l
    · have hcmp : decide (cmpI ((r + 2 ^ j) * (r + 2 ^ j)) (vU h l) ≤ 0) = true := by
        have := cmpI_pos ((r + 2 ^ j) * (r + 2 ^ j)) (vU h l)
        simp; omega
      rw [hcmp]
      refine ⟨_, rfl, ⟨j, _, by omega, rfl, hst.2 hle⟩, ?_⟩
      simp only []; omega
    · have hcmp : decide (cmpI ((r + 2 ^ j) * (r + 2 ^ j)) (vU h l) ≤ 0) = false := by
        have := cmpI_pos ((r + 2 ^ j) * (r + 2 ^ j)) (vU h l)
        simp; omega
      rw [hcmp]
      refine ⟨_, rfl, ⟨j, _, by omega, rfl, hst.1 hle⟩, ?_⟩
      simp only []; omega
theorem f_RatioRoot (a b : Int) (ha : I64 a) (hb : I64 b) : (a < 0 ∨ b < 0) ∧ F_ratio_Root a b = some (0, 10) ∨ (0 ≤ a ∧ 0 ≤ b) ∧ ∃ r, F_ratio_Root a b = some (r, 0) ∧ IsRoot (a * b) r ∧ r ≤ 9223372036854775807 := by
  obtain ⟨h1, h2⟩ := ha
  obtain ⟨h3, h4⟩ := hb
  unfold F_ratio_Root
  by_cases h : a < 0 ∨ b < 0
  · left
    refine ⟨h, ?_⟩
    by_cases k1 : a < 0 <;> by_cases k2 : b < 0 <;> first | (exfalso; omega) | simp [k1, k2]
  · right
    refine ⟨by omega, ?_⟩
    have e1 : decide (a < 0) = false := by simp; omega
    have e2 : decide (b < 0) = false := by simp; omega
    have w1 : IntKind.u64.wrap a = a := by rw [uwrap_of]; omega
    have w2 : IntKind.u64.wrap b = b := by rw [uwrap_of]; omega
    have hab : 0 ≤ a * b := Int.mul_nonneg (by omega) (by omega)
    have hab2 : a * b ≤ 9223372036854775807 * 9223372036854775807 := Int.mul_le_mul h2 h4 (by omega) (by omega)
    obtain ⟨r, k1, k2, k3⟩ := f_Root (hiU (a * b)) (loU (a * b)) (hiU_64 ⟨hab, by omega⟩) (loU_64 _)
    rw [vU_hilo] at k2
    have hr : r ≤ 9223372036854775807 := by
      apply Classical.byContradiction
      intro hn
      have : 9223372036854775808 * 9223372036854775808 ≤ r * r := Int.mul_le_mul (by omega) (by omega) (by omega) k2.1
      have := k2.2.1
      omega
    refine ⟨r, ?_, k2, hr⟩
    simp only [e1, e2, w1, w2, cond_false]
    rw [f_Mul a b ⟨by omega, by omega⟩ ⟨by omega, by omega⟩, Option.bind_some, k1, Option.bind_some]
    have : IntKind.i64.wrap r = r := by rw [IntKind.wrap_i64]; have := k2.1; omega
    rw [this]
theorem f_RatioRoots (a b : Int) (ha : I64 a) (hb : I64 b) : F_law03_RatioRoots a b = some true := by
  unfold F_law03_RatioRoots
  rw [f_anchor03, Option.bind_some]
  rcases f_RatioRoot a b ha hb with ⟨h, e⟩ | ⟨h, r, e, hr, hr2⟩
  · rw [e]
    by_cases k1 : a < 0 <;> by_cases k2 : b < 0 <;> first | (exfalso; omega) | simp [k1, k2]
  · obtain ⟨r0, r1, r2⟩ := hr
    have e1 : decide (a < 0) = false := by simp; omega
    have e2 : decide (b < 0) = false := by simp; omega
    have e3 : decide (r < 0) = false := by simp; omega
    obtain ⟨ha1, ha2⟩ := ha
    obtain ⟨hb1, hb2⟩ := hb
    rw [e]
    simp only [Option.bind_some, e1, e2, e3, Bool.not_true, cond_false, bne_self_eq_false, beq_self_eq_true, cond_true]
    by_cases hq : r = 9223372036854775807
    · subst hq
      have hA : a = 9223372036854775807 := by
        apply Classical.byContradiction
        intro hn
        have : a * b ≤ 9223372036854775806 * 9223372036854775807 := Int.mul_le_mul (by omega) hb2 (by omega) (by omega)
        omega
      have hB : b = 9223372036854775807 := by
        apply Classical.byContradiction
        intro hn
        have : a * b ≤ 9223372036854775807 * 9223372036854775806 := Int.mul_le_mul ha2 (by omega) (by omega) (by omega)
        omega
      subst hA hB
      rfl
    · have hq' : (r == 9223372036854775807) = false := by simpa using hq
      have hw : IntKind.i64.wrap (r + 1) = r + 1 := by rw [IntKind.wrap_i64]; omega
      have z : ∀ x : Int, 0 ≤ x → szI x = x := fun x hx => by unfold szI; rw [if_neg (by omega)]
      have hab : 0 ≤ a * b := Int.mul_nonneg h.1 h.2
      have hab2 : a * b ≤ 9223372036854775807 * 9223372036854775807 := Int.mul_le_mul ha2 hb2 h.2 (by omega)
      have hrr : 0 ≤ r * r := Int.mul_nonneg r0 r0
      have hr1 : 0 ≤ (r + 1) * (r + 1) := Int.mul_nonneg (by omega) (by omega)
      have hr3 : (r + 1) * (r + 1) ≤ 9223372036854775807 * 9223372036854775807 := Int.mul_le_mul (by omega) (by omega) (by omega) (by omega)
      simp only [hq', cond_false, hw]
      rw [f_Times01 a b ⟨ha1, ha2⟩ ⟨hb1, hb2⟩, f_Times01 r r ⟨by omega, by omega⟩ ⟨by omega, by omega⟩, f_Times01 (r + 1) (r + 1) ⟨by omega, by omega⟩ ⟨by omega, by omega⟩, z a h.1, z b h.2, z r r0, z (r + 1) (by omega)]
      simp only [Option.bind_some]
      rw [f_Less _ _ (dg_isD _) (dg_isD _), num_dg ⟨hab, by omega⟩, num_dg ⟨hrr, by omega⟩, decide_eq_false (by omega)]
      simp only [Option.bind_some, Bool.not_false, cond_true]
      rw [f_Less _ _ (dg_isD _) (dg_isD _), num_dg ⟨hab, by omega⟩, num_dg ⟨hr1, by omega⟩, decide_eq_true r2]
      rfl
theorem law03_RatioRoots (a b : Int) (ha : I64 a) (hb : I64 b) (w : World) :
    Calls Try.prog 13 #[.int .i64 a, .int .i64 b] w fun e w' => e = .returned (.bool true) ∧ Below w.heap.size w w' :=
  call_true ok_F_law03_RatioRoots rfl (x := (a, b)) (f_RatioRoots _ _ ha hb) rfl w _ ⟨rl_i64 ha, rl_i64 hb, trivial⟩
end Go.Proofs.Ytbpadfmdjgjjlaa
