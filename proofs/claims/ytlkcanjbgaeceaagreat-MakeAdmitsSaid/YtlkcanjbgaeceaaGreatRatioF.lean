/- What the reading of the package ratio says. -/
import Derived.Test.YtlkcanjbgaeceaaGreatDivF
set_option linter.unusedSimpArgs false
set_option linter.unusedVariables false
namespace Go.Proofs.YtlkcanjbgaeceaaGreat
def szI (a : Int) : Int := if a < 0 then -a else a
theorem szI_64 {a : Int} (h : I64 a) : 0 ≤ szI a ∧ szI a ≤ 9223372036854775808 := by
  obtain ⟨h1, h2⟩ := h
  unfold szI; split <;> omega
theorem sz_mul (a b : Int) : szI a * szI b = if (decide (a < 0) == decide (b < 0)) = true then a * b else -(a * b) := by
  unfold szI
  by_cases h1 : a < 0 <;> by_cases h2 : b < 0 <;> simp [h1, h2, Int.neg_mul, Int.mul_neg]
def sayI (n : Int) : Int × Int := if in64 n = true then (n, 0) else (0, 20)
theorem f_signed (X : Int) (hX : U128 X) (below : Bool) : F_ratio_signed (hiU X, loU X) below = some (sayI (if below = true then -X else X)) := by
  obtain ⟨h1, h2⟩ := hX
  have hc : ∀ t : Int, U64 t → F_wide_U_Cmp (hiU X, loU X) (0, t) = some (cmpI X t) := fun t ht => f_cmplo X t ⟨h1, h2⟩ ht
  unfold F_ratio_signed sayI
  cases below with
  | true =>
    have e : IntKind.u64.wrap (9223372036854775807 + 1) = 9223372036854775808 := rfl
    simp only [cond_true, Option.bind_some, e, if_true]
    rw [hc _ ⟨by omega, by omega⟩, Option.bind_some]
    by_cases h : 9223372036854775808 < X
    · rw [cmpI_gt h, in64_no (by omega)]
      rfl
    · have hn : decide (0 < cmpI X 9223372036854775808) = false := by
        have := cmpI_pos X 9223372036854775808
        simp; omega
      rw [hn, cond_false, in64_yes (by omega), if_pos rfl, uwrap_of, IntKind.wrap_i64]
      have : loU X = X := by unfold loU; omega
      rw [this]
      congr 2
      omega
  | false =>
    simp only [cond_false, Option.bind_some, Bool.false_eq_true, if_false]
    rw [hc _ ⟨by omega, by omega⟩, Option.bind_some]
    by_cases h : 9223372036854775807 < X
    · rw [cmpI_gt h, in64_no (by omega)]
      rfl
    · have hn : decide (0 < cmpI X 9223372036854775807) = false := by
        have := cmpI_pos X 9223372036854775807
        simp; omega
      rw [hn, cond_false, in64_yes (by omega), if_pos rfl, IntKind.wrap_i64]
      have : loU X = X := by unfold loU; omega
      rw [this]
      congr 2
      omega
def quoI (n c : Int) (up : Bool) : Int :=
  let m := if c < 0 then -n else n
  if up = true then -((-m) / szI c) else m / szI c
theorem div_neg_split (X D : Int) (hD : 0 < D) : (-X) / D = if 0 < X % D then -(X / D + 1) else -(X / D) := by
  have h1 := Int.emod_add_ediv_mul X D
  have h2 := Int.emod_nonneg X (show D ≠ 0 by omega)
  have h3 := Int.emod_lt_of_pos X hD
  split
  · rename_i h
    have e : -X = (D - X % D) + (-(X / D + 1)) * D := by
      rw [Int.neg_mul, Int.add_mul]; omega
    rw [e, Int.add_mul_ediv_right _ _ (by omega), Int.ediv_eq_zero_of_lt (by omega) (by omega)]
    omega
  · have e : -X = 0 + (-(X / D)) * D := by
      rw [Int.neg_mul]; omega
    rw [e, Int.add_mul_ediv_right _ _ (by omega)]
    simp
theorem f_divide (a b c : Int) (up : Bool) (ha : I64 a) (hb : I64 b) (hc : I64 c) : F_ratio_divide a b c up = some (if c = 0 then (0, 21) else sayI (quoI (a * b) c up)) := by
  unfold F_ratio_divide
  by_cases h0 : c = 0
  · subst h0
    rfl
  · have hne : (c == 0) = false := by simp; omega
    rw [hne, cond_false, if_neg h0]
    have hA := szI_64 ha
    have hB := szI_64 hb
    have hC := szI_64 hc
    have hC0 : 0 < szI c := by unfold szI; split <;> omega
    have hm : 0 ≤ szI a * szI b := Int.mul_nonneg hA.1 hB.1
    have hm2 : szI a * szI b ≤ 9223372036854775808 * 9223372036854775808 := Int.mul_le_mul hA.2 hB.2 hB.1 (by omega)
    have hsz := sz_mul a b
    have e1 : F_num_Size a = some (szI a) := f_Size a ha
    have e2 : F_num_Size b = some (szI b) := f_Size b hb
    have e3 : F_num_Size c = some (szI c) := f_Size c hc
    simp only [e1, e2, e3, Option.bind_some]
    rw [f_Mul _ _ ⟨hA.1, by omega⟩ ⟨hB.1, by omega⟩, Option.bind_some]
    have hD := f_Div (hiU (szI a * szI b)) (loU (szI a * szI b)) (szI c) (hiU_64 ⟨hm, by omega⟩) (loU_64 _) ⟨hC.1, by omega⟩ hC0
    rw [vU_hilo] at hD
    rw [hD, Option.bind_some]
    simp only []
    generalize hX : szI a * szI b = X at *
    generalize hE : szI c = D at *
    have hq0 := Int.ediv_nonneg hm (show 0 ≤ D by omega)
    have hq1 := Int.ediv_le_self D hm
    have hr1 := Int.emod_nonneg X (show D ≠ 0 by omega)
    have hsign : quoI (a * b) c up = if (!((!(decide (a < 0) == decide (b < 0))) == decide (c < 0))) = true then (if up = true then -(X / D) else (-X) / D) else (if up = true then -((-X) / D) else X / D) := by
      unfold quoI
      rw [hE]
      by_cases g1 : (decide (a < 0) == decide (b < 0)) = true <;> by_cases g2 : c < 0
      · rw [if_pos g1] at hsz; rw [← hsz]; simp [g1, g2]
      · rw [if_pos g1] at hsz; rw [← hsz]; simp [g1, g2]
      · have g1' : (decide (a < 0) == decide (b < 0)) = false := by simpa using g1
        rw [if_neg g1] at hsz
        have : a * b = -X := by omega
        rw [this]; simp [g1', g2]
      · have g1' : (decide (a < 0) == decide (b < 0)) = false := by simpa using g1
        rw [if_neg g1] at hsz
        have : a * b = -X := by omega
        rw [this]; simp [g1', g2]
    rw [hsign]
    generalize (!((!(decide (a < 0) == decide (b < 0))) == decide (c < 0))) = below
    have hneg := div_neg_split X D hC0
    have hadd : F_wide_U_Add (hiU (X / D), loU (X / D)) (0, 1) = some ((hiU (X / D + 1), loU (X / D + 1)), false) := by
      rw [f_Add _ _ 0 1 (hiU_64 ⟨hq0, by omega⟩) (loU_64 _) ⟨by omega, by omega⟩ ⟨by omega, by omega⟩, vU_hilo, show vU 0 1 = 1 from rfl, Int.emod_eq_of_lt (by omega) (by omega)]
      congr 2
      simp; omega
    by_cases hr : 0 < X % D
    · rw [if_pos hr] at hneg
      simp only [hr, decide_true, cond_true]
      cases up <;> cases below <;> simp only [Bool.not_true, Bool.not_false, beq_self_eq_true, cond_true, cond_false, Option.bind_some, hadd, if_true, if_false, Bool.false_eq_true,
        show (true == false) = false from rfl, show (false == true) = false from rfl]
      · rw [f_signed _ ⟨hq0, by omega⟩]; rfl
      · rw [f_signed _ ⟨by omega, by omega⟩, hneg]; rfl
      · rw [f_signed _ ⟨by omega, by omega⟩, hneg]; simp
      · rw [f_signed _ ⟨hq0, by omega⟩]; rfl
    · rw [if_neg hr] at hneg
      have hr' : decide (0 < X % D) = false := by simpa using hr
      simp only [hr', cond_false, Option.bind_some]
      rw [f_signed _ ⟨hq0, by omega⟩]
      simp only [Option.bind_some]
      have e : (if below = true then (if up = true then -(X / D) else (-X) / D) else (if up = true then -((-X) / D) else X / D)) = if below = true then -(X / D) else X / D := by
        cases up <;> cases below <;> simp [hneg]
      rw [e]
theorem f_Floor (a b c : Int) (ha : I64 a) (hb : I64 b) (hc : I64 c) : F_ratio_Floor a b c = some (if c = 0 then (0, 21) else sayI (quoI (a * b) c false)) := by
  unfold F_ratio_Floor
  rw [f_divide a b c false ha hb hc]
  rfl
theorem f_Ceil (a b c : Int) (ha : I64 a) (hb : I64 b) (hc : I64 c) : F_ratio_Ceil a b c = some (if c = 0 then (0, 21) else sayI (quoI (a * b) c true)) := by
  unfold F_ratio_Ceil
  rw [f_divide a b c true ha hb hc]
  rfl
end Go.Proofs.YtlkcanjbgaeceaaGreat
