/- Images: numbers read out of bytes. -/
import Derived.Test.YtomkodhihiloiaaDoorImgF
import Derived.Test.YtomkodhihiloiaaDoorCrcG
set_option linter.unusedSimpArgs false
set_option linter.unusedVariables false
namespace Go.Proofs.YtomkodhihiloiaaDoor
open Go.RowKit
/-- Bytes that are left, and whether more was asked for than there was. -/
abbrev Rs := List Int × Bool
def ByL (l : List Int) : Prop := ∀ c ∈ l, 0 ≤ c ∧ c ≤ 255
theorem byL_bytes {l : List Int} (h : ByL l) : Bytes l := by
  intro i
  by_cases hi : i < l.length
  · rw [getD_lt hi]
    exact h _ (List.getElem_mem hi)
  · rw [List.getD_eq_getElem?_getD, List.getElem?_eq_none (by omega)]
    exact ⟨by decide, by decide⟩
theorem byL_take {l : List Int} (h : ByL l) (n : Nat) : ByL (l.take n) := fun c hc => h c (List.mem_of_mem_take hc)
theorem byL_drop {l : List Int} (h : ByL l) (n : Nat) : ByL (l.drop n) := fun c hc => h c (List.mem_of_mem_drop hc)
theorem byL_app {l m : List Int} (h : ByL l) (h' : ByL m) : ByL (l ++ m) := fun c hc => by
  rcases List.mem_append.1 hc with hc | hc
  · exact h c hc
  · exact h' c hc
/-- The number that bytes are, without a sign. -/
def numU (l : List Int) : Int := l.foldl (fun v c => 256 * v + c) 0
theorem numU_app (l : List Int) (c : Int) : numU (l ++ [c]) = 256 * numU l + c := by simp [numU]
theorem putL_zero (v : Int) : putL v 0 = [] := rfl
theorem putL_succ (v : Int) (n : Nat) : putL v (n + 1) = putL (v / 256) n ++ [v % 256] := by
  unfold putL
  rw [List.range_succ, List.map_append]
  congr 1
  · refine List.map_congr_left fun j hj => ?_
    have hj := List.mem_range.1 hj
    have e : n + 1 - 1 - j = (n - 1 - j) + 1 := by omega
    rw [e, Int.pow_succ, Int.mul_comm, ← Int.ediv_ediv_of_nonneg (by decide)]
  · simp
theorem putL_by : ∀ (n : Nat) (v : Int), ByL (putL v n)
  | 0, v => by intro c hc; cases hc
  | n + 1, v => by
    rw [putL_succ]
    refine byL_app (putL_by n _) fun c hc => ?_
    rw [List.mem_singleton.1 hc]
    omega
theorem mod_256 (v m : Int) (hm : 0 < m) : v % (m * 256) = 256 * (v / 256 % m) + v % 256 := by
  have e : v / (m * 256) = v / 256 / m := by rw [Int.mul_comm, Int.ediv_ediv_of_nonneg (by decide)]
  have h1 := Int.emod_def v (m * 256)
  have h2 := Int.emod_def (v / 256) m
  have h3 := Int.emod_def v 256
  rw [e] at h1
  rw [h1, h2, h3, Int.mul_sub, Int.mul_assoc, Int.mul_left_comm m 256]
  omega
theorem numU_put : ∀ (n : Nat) (v : Int), numU (putL v n) = v % 256 ^ n
  | 0, v => by simp [putL, numU]
  | n + 1, v => by rw [putL_succ, numU_app, numU_put n, Int.pow_succ, mod_256 _ _ (Int.pow_pos (by decide))]
theorem put_numU : ∀ (n : Nat) (l : List Int), ByL l → l.length = n → putL (numU l) n = l
  | 0, l, _, h => by rw [List.length_eq_zero_iff.1 h]; rfl
  | n + 1, l, hb, h => by
    have hne : l ≠ [] := by intro h0; rw [h0] at h; cases h
    obtain ⟨m, c, rfl⟩ : ∃ m c, l = m ++ [c] := ⟨l.dropLast, l.getLast hne, (List.dropLast_concat_getLast hne).symm⟩
    have hc := hb c (by simp)
    rw [numU_app, putL_succ, show (256 * numU m + c) / 256 = numU m by omega, show (256 * numU m + c) % 256 = c by omega]
    rw [put_numU n m (fun d hd => hb d (by simp [hd])) (by simp at h; omega)]
theorem put_mod (v : Int) (n : Nat) : putL (v % 256 ^ n) n = putL v n := by
  rw [← numU_put n v]
  exact put_numU n _ (putL_by n v) (putL_length v n)
theorem numU_range {l : List Int} (hb : ByL l) : 0 ≤ numU l ∧ numU l < 256 ^ l.length := by
  have h := numU_put l.length (numU l)
  rw [put_numU _ l hb rfl] at h
  rw [h]
  exact ⟨Int.emod_nonneg _ (Int.ne_of_gt (Int.pow_pos (by decide))), Int.emod_lt_of_pos _ (Int.pow_pos (by decide))⟩
/-- With a sign. -/
def sgn (n : Nat) (u : Int) : Int := if 128 * 256 ^ (n - 1) ≤ u then u - 256 ^ n else u
theorem put_sgn (n : Nat) (u : Int) : putL (sgn n u) n = putL u n := by
  unfold sgn
  split
  · rw [← put_mod (u - 256 ^ n), Int.sub_emod_right, put_mod]
  · rfl
theorem sgn_mod {n : Nat} (hn : 0 < n) {v : Int} (h1 : -(128 * 256 ^ (n - 1)) ≤ v) (h2 : v < 128 * 256 ^ (n - 1)) : sgn n (v % 256 ^ n) = v := by
  obtain ⟨k, rfl⟩ : ∃ k, n = k + 1 := ⟨n - 1, by omega⟩
  rw [Nat.add_sub_cancel] at h1 h2
  unfold sgn
  rw [Nat.add_sub_cancel, Int.pow_succ]
  have hp : (0 : Int) < 256 ^ k := Int.pow_pos (by decide)
  generalize (256 : Int) ^ k = p at *
  by_cases h : 0 ≤ v
  · rw [Int.emod_eq_of_lt h (by omega), if_neg (by omega)]
  · have e : v % (p * 256) = v + p * 256 := by
      rw [← Int.add_emod_right]
      exact Int.emod_eq_of_lt (by omega) (by omega)
    rw [e, if_pos (by omega)]
    omega
/-- A number of n bytes is read. -/
def numR (n : Nat) (s : Bool) (x : Rs) : Int × Rs :=
  if x.2 = true ∨ x.1.length < n then (0, x.1, true) else (bif s then sgn n (numU (x.1.take n)) else numU (x.1.take n), x.1.drop n, false)
theorem numR_suf (n : Nat) (s : Bool) (x : Rs) : (numR n s x).2.1 <:+ x.1 := by
  unfold numR
  split
  · exact List.suffix_refl _
  · exact List.drop_suffix _ _
theorem byL_suf {l m : List Int} (h : ByL m) (hs : l <:+ m) : ByL l := fun c hc => h c (hs.subset hc)
/-- What was put is read, if it fits. -/
theorem numR_put (n : Nat) (v : Int) (l : List Int) (h : 0 ≤ v ∧ v < 256 ^ n) : numR n false (putL v n ++ l, false) = (v, l, false) := by
  unfold numR
  rw [if_neg (by simp [putL_length])]
  simp only [cond_false]
  rw [List.take_left' (putL_length v n), List.drop_left' (putL_length v n), numU_put, Int.emod_eq_of_lt h.1 h.2]
theorem numR_puts (n : Nat) (hn : 0 < n) (v : Int) (l : List Int) (h1 : -(128 * 256 ^ (n - 1)) ≤ v) (h2 : v < 128 * 256 ^ (n - 1)) : numR n true (putL v n ++ l, false) = (v, l, false) := by
  unfold numR
  rw [if_neg (by simp [putL_length])]
  simp only [cond_true]
  rw [List.take_left' (putL_length v n), List.drop_left' (putL_length v n), numU_put, sgn_mod hn h1 h2]
/-- What was read is what is put. -/
theorem numR_back (n : Nat) (s : Bool) (x : Rs) (hb : ByL x.1) (h : (numR n s x).2.2 = false) : x.2 = false ∧ x.1 = putL (numR n s x).1 n ++ (numR n s x).2.1 := by
  unfold numR at h ⊢
  by_cases hc : x.2 = true ∨ x.1.length < n
  · rw [if_pos hc] at h; cases h
  · rw [if_neg hc]
    have h2 : ¬ x.2 = true := fun h => hc (.inl h)
    have h3 : n ≤ x.1.length := Nat.le_of_not_lt fun h => hc (.inr h)
    refine ⟨by simpa using h2, ?_⟩
    have e : putL (numU (x.1.take n)) n = x.1.take n := put_numU n _ (byL_take hb n) (by rw [List.length_take]; omega)
    cases s with
    | false => simp only [cond_false]; rw [e, List.take_append_drop]
    | true => simp only [cond_true]; rw [put_sgn, e, List.take_append_drop]
end Go.Proofs.YtomkodhihiloiaaDoor
