/- Plain facts on numbers of 64 bits; no program in sight. -/
import Derived.Below
import Derived.Calls
import Derived.Laws.BitsLemmas
import Derived.Laws.BitsAllLaws
import Derived.Laws.Small
set_option linter.unusedSimpArgs false
set_option linter.unusedVariables false
namespace Go.Proofs.YtlkcanjbgaeceaaGreat
def I64 (n : Int) : Prop := -9223372036854775808 ≤ n ∧ n ≤ 9223372036854775807
def U64 (n : Int) : Prop := 0 ≤ n ∧ n ≤ 18446744073709551615
def in64 (n : Int) : Bool := decide (-9223372036854775808 ≤ n) && decide (n ≤ 9223372036854775807)
def or0 (n : Int) : Int := if in64 n = true then n else 0
theorem in64_yes {n : Int} (h : -9223372036854775808 ≤ n ∧ n ≤ 9223372036854775807) : in64 n = true := by
  simp [in64]; omega
theorem in64_no {n : Int} (h : ¬ (-9223372036854775808 ≤ n ∧ n ≤ 9223372036854775807)) : in64 n = false := by
  unfold in64
  by_cases h1 : -9223372036854775808 ≤ n
  · have h2 : ¬ n ≤ 9223372036854775807 := fun h' => h ⟨h1, h'⟩
    simp only [h1, h2, decide_true, decide_false, Bool.and_false]
  · simp only [h1, decide_false, Bool.false_and]
theorem or0_yes {n : Int} (h : -9223372036854775808 ≤ n ∧ n ≤ 9223372036854775807) : or0 n = n := by rw [or0, if_pos (in64_yes h)]
theorem or0_no {n : Int} (h : ¬ (-9223372036854775808 ≤ n ∧ n ≤ 9223372036854775807)) : or0 n = 0 := by
  rw [or0, if_neg (by rw [in64_no h]; decide)]
theorem uwrap_of (n : Int) : IntKind.u64.wrap n = n % 18446744073709551616 := by
  simp [IntKind.wrap, IntKind.bits, IntKind.signed]
def cmpI (a b : Int) : Int := if a < b then -1 else if a = b then 0 else 1
theorem cmpI_lt {a b : Int} (h : a < b) : cmpI a b = -1 := by rw [cmpI, if_pos h]
theorem cmpI_eq {a b : Int} (h : a = b) : cmpI a b = 0 := by rw [cmpI, if_neg (by omega), if_pos h]
theorem cmpI_gt {a b : Int} (h : b < a) : cmpI a b = 1 := by rw [cmpI, if_neg (by omega), if_neg (by omega)]
theorem cmpI_neg (a b : Int) : cmpI a b < 0 ↔ a < b := by unfold cmpI; split <;> (try split) <;> omega
theorem cmpI_pos (a b : Int) : 0 < cmpI a b ↔ b < a := by unfold cmpI; split <;> (try split) <;> omega
def vU (h l : Int) : Int := h * 18446744073709551616 + l
def hiU (x : Int) : Int := x / 18446744073709551616
def loU (x : Int) : Int := x % 18446744073709551616
def U128 (x : Int) : Prop := 0 ≤ x ∧ x ≤ 340282366920938463463374607431768211455
theorem and_low (a : Int) (h1 : 0 ≤ a) (h2 : a ≤ 18446744073709551615) : bits .and .u64 a 4294967295 = a % 4294967296 := by
  rw [u64_and a 4294967295 h1 (by omega) (by omega) (by omega)]
  have h : a.toNat &&& 4294967295 = a.toNat % 4294967296 := Nat.and_two_pow_sub_one_eq_mod a.toNat 32
  show ((a.toNat &&& 4294967295 : Nat) : Int) = _
  rw [h]; omega
theorem or_join (x y : Int) (i : Nat) (hx0 : 0 ≤ x) (hx : x ≤ 18446744073709551615) (hm : x % 2 ^ i = 0) (hy0 : 0 ≤ y) (hy : y ≤ 18446744073709551615) (hyi : y < 2 ^ i) : bits .or .u64 x y = x + y := by
  rw [u64_or x y hx0 (by omega) hy0 (by omega)]
  obtain ⟨x, rfl⟩ := Int.eq_ofNat_of_zero_le hx0
  obtain ⟨y, rfl⟩ := Int.eq_ofNat_of_zero_le hy0
  rw [Int.toNat_natCast, Int.toNat_natCast, nat_join i x y (by exact_mod_cast hm) (by exact_mod_cast hyi)]
  rfl
theorem vU_hilo (x : Int) : vU (hiU x) (loU x) = x := by unfold vU hiU loU; omega
theorem hiU_v {h l : Int} (hl : U64 l) : hiU (vU h l) = h := by obtain ⟨a, b⟩ := hl; unfold vU hiU; omega
theorem loU_v {h l : Int} (hl : U64 l) : loU (vU h l) = l := by obtain ⟨a, b⟩ := hl; unfold vU loU; omega
theorem hiU_64 {x : Int} (h : U128 x) : U64 (hiU x) := by obtain ⟨a, b⟩ := h; exact ⟨by unfold hiU; omega, by unfold hiU; omega⟩
theorem loU_64 (x : Int) : U64 (loU x) := ⟨by unfold loU; omega, by unfold loU; omega⟩
theorem vU_128 {h l : Int} (hh : U64 h) (hl : U64 l) : U128 (vU h l) := by
  obtain ⟨a, b⟩ := hl; obtain ⟨c, d⟩ := hh; exact ⟨by unfold vU; omega, by unfold vU; omega⟩

theorem pow_split (n : Nat) (hn : n ≤ 64) : ((2 : Int) ^ n) * 2 ^ (64 - n) = 18446744073709551616 := by
  rw [← Int.pow_add, show n + (64 - n) = 64 by omega]; rfl
theorem pow_pos' (n : Nat) : 0 < (2 : Int) ^ n := Int.pow_pos (by omega)
theorem shr_lo (h l : Int) (n : Nat) (h0 : 0 < n) (hn : n < 64) (hh : U64 h) (hl : U64 l) :
    bits .or .u64 (l / 2 ^ n) (IntKind.u64.wrap (h * 2 ^ (64 - n))) = loU (vU h l / 2 ^ n) := by
  obtain ⟨h1, h2⟩ := hh; obtain ⟨h3, h4⟩ := hl
  have hs := pow_split n (by omega)
  have hp := pow_pos' n
  have hq := pow_pos' (64 - n)
  rw [uwrap_of, loU, vU]
  generalize hP : (2 : Int) ^ n = P at *
  generalize hQ : (2 : Int) ^ (64 - n) = Q at *
  have e1 : h * Q % 18446744073709551616 = (h % P) * Q := by
    rw [← hs, Int.mul_comm h Q, Int.mul_comm P Q, Int.mul_emod_mul_of_pos _ _ hq, Int.mul_comm]
  have e2 : (h * 18446744073709551616 + l) / P = h * Q + l / P := by
    rw [← hs, show h * (P * Q) + l = P * (h * Q) + l by rw [Int.mul_left_comm], Int.add_comm, Int.add_mul_ediv_left _ _ (by omega), Int.add_comm]
  have hr := Int.emod_lt_of_pos h hp
  have hr0 := Int.emod_nonneg h (show P ≠ 0 by omega)
  have hld : l / P < Q := by
    apply Int.ediv_lt_of_lt_mul hp
    rw [Int.mul_comm, hs]; omega
  have hl0 : 0 ≤ l / P := Int.ediv_nonneg h3 (by omega)
  have hhq : (h % P) * Q ≤ 18446744073709551616 - Q := by
    have : (h % P + 1) * Q ≤ P * Q := Int.mul_le_mul_of_nonneg_right (by omega) (by omega)
    rw [Int.add_mul] at this; omega
  have hhq0 : 0 ≤ (h % P) * Q := Int.mul_nonneg hr0 (by omega)
  have hcomm : bits .or .u64 (l / P) (h * Q % 18446744073709551616) = bits .or .u64 (h * Q % 18446744073709551616) (l / P) := by
    rw [u64_or _ _ hl0 (by omega) (by omega) (by omega), u64_or _ _ (by omega) (by omega) hl0 (by omega), Nat.or_comm]
  rw [hcomm, or_join _ _ (64 - n) (by omega) (by omega) (by rw [hQ, e1]; exact Int.mul_emod_left _ _) hl0 (by omega) (by rw [hQ]; exact hld), e1, e2]
  have e3 : (h * Q + l / P) % 18446744073709551616 = h * Q % 18446744073709551616 + l / P := by
    rw [Int.add_emod, e1, Int.emod_eq_of_lt hl0 (by omega), Int.emod_eq_of_lt (by omega) (by omega)]
  rw [e3, e1]
theorem shr_hi (h l : Int) (n : Nat) (hn : n ≤ 64) (hl : U64 l) : h / 2 ^ n = hiU (vU h l / 2 ^ n) := by
  obtain ⟨h3, h4⟩ := hl
  have hp := pow_pos' n
  rw [hiU, vU, Int.ediv_ediv_of_nonneg (by omega), Int.mul_comm ((2:Int) ^ n), ← Int.ediv_ediv_of_nonneg (by omega)]
  congr 1
  omega
theorem shl_hi (h l : Int) (n : Nat) (h0 : 0 < n) (hn : n < 64) (hh : U64 h) (hl : U64 l) :
    bits .or .u64 (IntKind.u64.wrap (h * 2 ^ n)) (l / 2 ^ (64 - n)) = hiU (vU h l * 2 ^ n % 340282366920938463463374607431768211456) := by
  obtain ⟨h1, h2⟩ := hh; obtain ⟨h3, h4⟩ := hl
  have hs := pow_split n (by omega)
  have hp := pow_pos' n
  have hq := pow_pos' (64 - n)
  rw [uwrap_of, hiU, vU]
  generalize hP : (2 : Int) ^ n = P at *
  generalize hQ : (2 : Int) ^ (64 - n) = Q at *
  have e1 : h * P % 18446744073709551616 = (h % Q) * P := by
    rw [← hs, Int.mul_comm h P, Int.mul_emod_mul_of_pos _ _ hp, Int.mul_comm]
  have hr := Int.emod_lt_of_pos h hq
  have hr0 := Int.emod_nonneg h (show Q ≠ 0 by omega)
  have hld : l / Q < P := by
    apply Int.ediv_lt_of_lt_mul hq
    rw [hs]; omega
  have hl0 : 0 ≤ l / Q := Int.ediv_nonneg h3 (by omega)
  have hhq : (h % Q) * P ≤ 18446744073709551616 - P := by
    have : (h % Q + 1) * P ≤ Q * P := Int.mul_le_mul_of_nonneg_right (by omega) (by omega)
    rw [Int.add_mul, Int.mul_comm Q P, hs] at this; omega
  have hhq0 : 0 ≤ (h % Q) * P := Int.mul_nonneg hr0 (by omega)
  rw [or_join _ _ n (by omega) (by omega) (by rw [hP, e1]; exact Int.mul_emod_left _ _) hl0 (by omega) (by rw [hP]; exact hld), e1]
  have e2 : (h * 18446744073709551616 + l) * P = h * P * 18446744073709551616 + l * P := by
    rw [Int.add_mul, Int.mul_right_comm]
  have e3 : l * P / 18446744073709551616 = l / Q := by
    rw [← hs, Int.mul_comm l P, Int.mul_ediv_mul_of_pos _ _ hp]
  have e4 : 0 ≤ l * P := Int.mul_nonneg h3 (by omega)
  have e5 : h * P = 18446744073709551616 * (h * P / 18446744073709551616) + h % Q * P := by rw [← e1]; omega
  rw [e2]
  generalize l * P = A at *
  generalize h % Q * P = B at *
  generalize l / Q = D at *
  generalize h * P = C at *
  omega
theorem shl_lo (h l : Int) (n : Nat) : IntKind.u64.wrap (l * 2 ^ n) = loU (vU h l * 2 ^ n % 340282366920938463463374607431768211456) := by
  rw [uwrap_of, loU, vU, Int.emod_emod_of_dvd _ (by decide), Int.add_mul, Int.mul_right_comm, Int.add_comm, Int.add_mul_emod_self_right]
theorem shl_far (h l : Int) (n : Nat) (hn : 64 ≤ n) :
    IntKind.u64.wrap (l * 2 ^ min (n - 64) 64) = hiU (vU h l * 2 ^ n % 340282366920938463463374607431768211456) ∧ loU (vU h l * 2 ^ n % 340282366920938463463374607431768211456) = 0 := by
  have hn' : (2 : Int) ^ n = 2 ^ (n - 64) * 18446744073709551616 := by
    rw [show (18446744073709551616 : Int) = 2 ^ 64 by rfl, ← Int.pow_add, show n - 64 + 64 = n by omega]
  have hm : l * 2 ^ min (n - 64) 64 % 18446744073709551616 = l * 2 ^ (n - 64) % 18446744073709551616 := by
    by_cases hk : n - 64 ≤ 64
    · rw [Nat.min_eq_left hk]
    · rw [Nat.min_eq_right (by omega)]
      have : (2 : Int) ^ (n - 64) = 2 ^ (n - 64 - 64) * 18446744073709551616 := by
        rw [show (18446744073709551616 : Int) = 2 ^ 64 by rfl, ← Int.pow_add, show n - 64 - 64 + 64 = n - 64 by omega]
      rw [this, ← Int.mul_assoc, Int.mul_emod_left]
      exact Int.mul_emod_left l 18446744073709551616
  rw [uwrap_of, hm, hiU, loU, vU, hn']
  have e : (h * 18446744073709551616 + l) * (2 ^ (n - 64) * 18446744073709551616) = (h * 2 ^ (n - 64)) * 340282366920938463463374607431768211456 + (l * 2 ^ (n - 64)) * 18446744073709551616 := by
    rw [Int.add_mul, ← Int.mul_assoc l, Int.mul_comm h 18446744073709551616, Int.mul_comm (2 ^ (n-64)) 18446744073709551616, Int.mul_assoc, Int.mul_left_comm h, ← Int.mul_assoc, Int.mul_comm _ (h * _)]
    rfl
  rw [e]
  generalize h * 2 ^ (n - 64) = A
  generalize l * 2 ^ (n - 64) = B
  omega
theorem shr_far (h l : Int) (n : Nat) (hn : 64 ≤ n) (hh : U64 h) (hl : U64 l) :
    h / 2 ^ min (n - 64) 64 = loU (vU h l / 2 ^ n) ∧ hiU (vU h l / 2 ^ n) = 0 := by
  obtain ⟨h1, h2⟩ := hh; obtain ⟨h3, h4⟩ := hl
  have hn' : (2 : Int) ^ n = 18446744073709551616 * 2 ^ (n - 64) := by
    rw [show (18446744073709551616 : Int) = 2 ^ 64 by rfl, ← Int.pow_add, show 64 + (n - 64) = n by omega]
  have e : vU h l / 2 ^ n = h / 2 ^ (n - 64) := by
    rw [hn', ← Int.ediv_ediv_of_nonneg (by omega), vU]
    congr 1
    omega
  have hp := pow_pos' (n - 64)
  have hb : 0 ≤ h / 2 ^ (n - 64) := Int.ediv_nonneg h1 (by omega)
  have hb' : h / 2 ^ (n - 64) ≤ h := Int.ediv_le_self _ h1
  have hm : h / 2 ^ min (n - 64) 64 = h / 2 ^ (n - 64) := by
    by_cases hk : n - 64 ≤ 64
    · rw [Nat.min_eq_left hk]
    · rw [Nat.min_eq_right (by omega)]
      have h64 : h / 2 ^ 64 = 0 := Int.ediv_eq_zero_of_lt h1 (by omega)
      rw [h64]
      have hp2 : (2 : Int) ^ (n - 64) = 18446744073709551616 * 2 ^ (n - 64 - 64) := by
        rw [show (18446744073709551616 : Int) = 2 ^ 64 by rfl, ← Int.pow_add, show 64 + (n - 64 - 64) = n - 64 by omega]
      have hp3 := pow_pos' (n - 64 - 64)
      exact (Int.ediv_eq_zero_of_lt h1 (by omega)).symm
  rw [e, hm, loU, hiU]
  omega
theorem mul_bound {x y : Int} (h1 : 0 ≤ x) (h2 : x ≤ 4294967295) (h3 : 0 ≤ y) (h4 : y ≤ 4294967295) : 0 ≤ x * y ∧ x * y ≤ 18446744065119617025 := by
  refine ⟨Int.mul_nonneg h1 h3, ?_⟩
  have := Int.mul_le_mul h2 h4 h3 (by omega)
  omega
theorem mul_parts (a b : Int) : a * b = (a / 4294967296 * (b / 4294967296)) * 18446744073709551616 + ((a / 4294967296 * (b % 4294967296)) + (a % 4294967296 * (b / 4294967296))) * 4294967296 + a % 4294967296 * (b % 4294967296) := by
  have ha : a = 4294967296 * (a / 4294967296) + a % 4294967296 := by omega
  have hb : b = 4294967296 * (b / 4294967296) + b % 4294967296 := by omega
  generalize a / 4294967296 = a1 at *
  generalize b / 4294967296 = b1 at *
  generalize a % 4294967296 = a0 at *
  generalize b % 4294967296 = b0 at *
  subst ha hb
  have e1 : 4294967296 * a1 * (4294967296 * b1) = 18446744073709551616 * (a1 * b1) := by
    rw [Int.mul_assoc, Int.mul_left_comm a1, ← Int.mul_assoc]; rfl
  have e2 : 4294967296 * a1 * b0 = 4294967296 * (a1 * b0) := Int.mul_assoc _ _ _
  have e3 : a0 * (4294967296 * b1) = 4294967296 * (a0 * b1) := Int.mul_left_comm _ _ _
  rw [Int.add_mul, Int.mul_add, Int.mul_add, e1, e2, e3]
  omega
theorem mul_plain (a b : Int) (ha : 0 ≤ a ∧ a ≤ 18446744073709551615) (hb : 0 ≤ b ∧ b ≤ 18446744073709551615) :
    let a1 := a / 4294967296; let b1 := b / 4294967296
    let a0 := bits .and .u64 a 4294967295; let b0 := bits .and .u64 b 4294967295
    let p := IntKind.u64.wrap (a0 * b0)
    let m := IntKind.u64.wrap (IntKind.u64.wrap (a1 * b0) + p / 4294967296)
    let n := IntKind.u64.wrap (IntKind.u64.wrap (a0 * b1) + bits .and .u64 m 4294967295)
    IntKind.u64.wrap (IntKind.u64.wrap (IntKind.u64.wrap (a1 * b1) + m / 4294967296) + n / 4294967296) = a * b / 18446744073709551616 ∧
    bits .or .u64 (IntKind.u64.wrap (n * 4294967296)) (bits .and .u64 p 4294967295) = a * b % 18446744073709551616 := by
  intro a1 b1 a0 b0 p m n
  have hw : ∀ n : Int, IntKind.u64.wrap n = n % 18446744073709551616 := fun n => by simp [IntKind.wrap, IntKind.bits, IntKind.signed]
  have ha0 : a0 = a % 4294967296 := and_low a ha.1 ha.2
  have hb0 : b0 = b % 4294967296 := and_low b hb.1 hb.2
  have hab := mul_parts a b
  have k1 := mul_bound (x := a1) (y := b1) (by omega) (by omega) (by omega) (by omega)
  have k2 := mul_bound (x := a1) (y := b0) (by omega) (by omega) (by omega) (by omega)
  have k3 := mul_bound (x := a0) (y := b1) (by omega) (by omega) (by omega) (by omega)
  have k4 := mul_bound (x := a0) (y := b0) (by omega) (by omega) (by omega) (by omega)
  rw [← ha0, ← hb0] at hab
  change a * b = a1 * b1 * _ + (a1 * b0 + a0 * b1) * _ + a0 * b0 at hab
  have hp : p = a0 * b0 := by show IntKind.u64.wrap _ = _; rw [hw]; omega
  have hm : m = a1 * b0 + p / 4294967296 := by
    show IntKind.u64.wrap (IntKind.u64.wrap _ + _) = _; rw [hw, hw]; omega
  have hma : bits .and .u64 m 4294967295 = m % 4294967296 := and_low m (by omega) (by omega)
  have hn : n = a0 * b1 + m % 4294967296 := by
    show IntKind.u64.wrap (IntKind.u64.wrap _ + bits .and .u64 m _) = _; rw [hma, hw, hw]; omega
  have hpa : bits .and .u64 p 4294967295 = p % 4294967296 := and_low p (by omega) (by omega)
  clear_value p m n a0 b0
  generalize a1 * b1 = X at *
  generalize a1 * b0 = Y at *
  generalize a0 * b1 = Z at *
  generalize a0 * b0 = T at *
  generalize a * b = Q at *
  constructor
  · rw [hw, hw, hw]; omega
  · rw [hpa, hw, or_join _ _ 32 (by omega) (by omega) (by omega) (by omega) (by omega) (by omega)]
    omega
end Go.Proofs.YtlkcanjbgaeceaaGreat
