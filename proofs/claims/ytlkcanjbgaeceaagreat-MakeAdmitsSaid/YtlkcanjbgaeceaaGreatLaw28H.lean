/- AdmitTrue: the document's sensors, and the law. -/
import Derived.Test.YtlkcanjbgaeceaaGreatLaw28G
set_option linter.unusedSimpArgs false
set_option linter.unusedVariables false
namespace Go.Proofs.YtlkcanjbgaeceaaGreat
open Go.RowKit
abbrev RTick := Int × ((Int × Int) × (Int × (Int × ((Int × (Int × (Int × Int))) × (List (List Int) × Int)))))
abbrev RScr := List Int × (Int × (Int × ((Int × Int) × ((Int × Int) × (List RTick × List Rd)))))
def b01 (b : Bool) : Int := bif b then 1 else 0
def refT (t : Tick) : RTick := (t.1, t.2.1, t.2.2.1, t.2.2.2.1, (b01 t.2.2.2.2.1.1, b01 t.2.2.2.2.1.2.1, b01 t.2.2.2.2.1.2.2.1, b01 t.2.2.2.2.1.2.2.2), t.2.2.2.2.2.1, b01 t.2.2.2.2.2.2)
def refS (s : Scr) : RScr := (s.1, s.2.1, s.2.2.1, s.2.2.2.1, s.2.2.2.2.1, s.2.2.2.2.2.1.map refT, s.2.2.2.2.2.2)
theorem rt_def (l : List RTick) : ∀ i, l.getD i ((0 : Int), (((0 : Int), (0 : Int)), ((0 : Int), ((0 : Int), (((0 : Int), ((0 : Int), ((0 : Int), (0 : Int)))), ([], (0 : Int))))))) = l.getD i (refT tk0) := fun _ => rfl
theorem map_d {α β : Type} (f : α → β) (l : List α) (i : Nat) (d : α) : (l.map f).getD i (f d) = f (l.getD i d) := by
  simp only [List.getD, List.getElem?_map]
  cases l[i]? <;> rfl
theorem f_rFit (i k : Nat) (s : Scr) (hi : i < 3) (hk : k < s.2.2.2.2.2.1.length) (hl : s.2.2.2.2.2.1.length ≤ 4096) : F_ref28_Fit (refS s) (i : Int) (k : Int) = some (fitB i s.2.2.2.2.2.1 k) := by
  unfold F_ref28_Fit refS fitB lostI
  simp only [List.length_map]
  rw [decide_eq_true (show (0 : Int) ≤ k by omega), decide_eq_true (show (k : Int) < s.2.2.2.2.2.1.length by omega), decide_eq_true (show (0 : Int) ≤ i by omega), decide_eq_true (show (i : Int) < 4 by omega)]
  simp only [Bool.and_self, chk_yes, Int.toNat_natCast, rt_def, map_d]
  have pick : ∀ (t : Tick), (List.getD [(refT t).2.2.2.2.1.1, (refT t).2.2.2.2.1.2.1, (refT t).2.2.2.2.1.2.2.1, (refT t).2.2.2.2.1.2.2.2] i 0) = b01 (List.getD [t.2.2.2.2.1.1, t.2.2.2.2.1.2.1, t.2.2.2.2.1.2.2.1, t.2.2.2.2.1.2.2.2] i false) := by
    intro t
    have : i = 0 ∨ i = 1 ∨ i = 2 := by omega
    rcases this with rfl | rfl | rfl <;> rfl
  rw [pick]
  by_cases h2 : i = 2
  · subst h2
    rw [if_pos rfl]
    cases (List.getD [(s.2.2.2.2.2.1.getD k tk0).2.2.2.2.1.1, (s.2.2.2.2.2.1.getD k tk0).2.2.2.2.1.2.1, (s.2.2.2.2.2.1.getD k tk0).2.2.2.2.1.2.2.1, (s.2.2.2.2.2.1.getD k tk0).2.2.2.2.1.2.2.2] 2 false) with
    | true => rfl
    | false =>
      have e : (((2 : Nat) : Int) == 2) = true := rfl
      rw [e]
      simp only [b01, cond_false, cond_true, Bool.not_true, Bool.and_false, Bool.not_false, Bool.or_true, chk_yes]
      rfl
  · have e : ((i : Int) == 2) = false := beq_false_of_ne (by omega)
    rw [e, if_neg h2]
    cases (List.getD [(s.2.2.2.2.2.1.getD k tk0).2.2.2.2.1.1, (s.2.2.2.2.2.1.getD k tk0).2.2.2.2.1.2.1, (s.2.2.2.2.2.1.getD k tk0).2.2.2.2.1.2.2.1, (s.2.2.2.2.2.1.getD k tk0).2.2.2.2.1.2.2.2] i false) with
    | true =>
      cases decide (0 < k) <;> rfl
    | false =>
      have e3 : (b01 false == 1) = false := rfl
      rw [e3]
      simp only [cond_false]
      by_cases hk0 : k = 0
      · subst hk0
        have e1 : decide ((0 : Int) < ((0 : Nat) : Int)) = false := rfl
        have e2 : decide (0 < 0) = false := rfl
        rw [e1, e2]
        simp only [cond_false, Bool.false_and, Bool.not_false, Bool.or_true, chk_yes]
      · have e1 : decide ((0 : Int) < (k : Int)) = true := by simp; omega
        have e2 : decide (0 < k) = true := by simp; omega
        have et : ((k : Int) - 1).toNat = k - 1 := by omega
        rw [e1, e2, wrap_ok (n := (k : Int) - 1) (by omega), decide_eq_true (show (0 : Int) ≤ (k : Int) - 1 by omega), decide_eq_true (show (k : Int) - 1 < s.2.2.2.2.2.1.length by omega), et]
        simp only [cond_true, Bool.and_self, Bool.true_or, chk_yes]
        rw [pick]
        cases (List.getD [(s.2.2.2.2.2.1.getD (k - 1) tk0).2.2.2.2.1.1, (s.2.2.2.2.2.1.getD (k - 1) tk0).2.2.2.2.1.2.1, (s.2.2.2.2.2.1.getD (k - 1) tk0).2.2.2.2.1.2.2.1, (s.2.2.2.2.2.1.getD (k - 1) tk0).2.2.2.2.1.2.2.2] i false) <;> rfl
theorem f_far28 (x far : Int) (h : -4611686018427387904 ≤ far ∧ far ≤ 4611686018427387904) : F_ref28_far x far = some (!withB x far) := by
  unfold F_ref28_far withB
  rw [wrap_ok (n := 0 - far) (by omega), Int.zero_sub]
  simp only []
  rw [@not_le_dec x (-far), @not_le_dec far x]
  cases decide (-far ≤ x) <;> cases decide (x ≤ far) <;> rfl
def turnE (p ph : Int) (slip : Tick → Int) (tk : List Tick) : Nat → Int
  | 0 => ph
  | n + 1 => turnE p ph slip tk n + p * (tk.getD n tk0).1 + slip (tk.getD n tk0)
structure Calm (p ph : Int) (slip : Tick → Int) (tk : List Tick) : Prop where
  p : 1 ≤ p ∧ p ≤ 1024
  ph : 0 ≤ ph ∧ ph ≤ 8388608
  v : ∀ i, i < tk.length → -16777216 ≤ (tk.getD i tk0).1 ∧ (tk.getD i tk0).1 ≤ 16777216
  s : ∀ i, i < tk.length → -1099511627776 ≤ slip (tk.getD i tk0) ∧ slip (tk.getD i tk0) ≤ 1099511627776
theorem Calm.pv {p ph : Int} {slip : Tick → Int} {tk : List Tick} (h : Calm p ph slip tk) {i : Nat} (hi : i < tk.length) : -17179869184 ≤ p * (tk.getD i tk0).1 ∧ p * (tk.getD i tk0).1 ≤ 17179869184 := by
  have h1 := h.v i hi
  have h2 := h.p
  have := mul_in (x := (tk.getD i tk0).1) (y := p) (X := 16777216) (Y := 1024) (by omega) (by omega) (by omega) (by omega) (by omega)
  rw [Int.mul_comm p]
  omega
theorem Calm.bound {p ph : Int} {slip : Tick → Int} {tk : List Tick} (h : Calm p ph slip tk) : ∀ n, n ≤ tk.length → -(8388608 + n * 1116691496960) ≤ turnE p ph slip tk n ∧ turnE p ph slip tk n ≤ 8388608 + n * 1116691496960 := by
  intro n
  induction n with
  | zero => intro _; have := h.ph; simp only [turnE]; omega
  | succ n ih =>
    intro hn
    have h1 := ih (by omega)
    have h2 := h.pv (i := n) (by omega)
    have h3 := h.s n (by omega)
    simp only [turnE]
    rw [Int.natCast_add]
    omega
theorem f_Count0 (s : Scr) (p : Int) (n : Nat) (hn : n ≤ s.2.2.2.2.2.1.length) (hl : s.2.2.2.2.2.1.length ≤ 4096) (hC : Calm p s.2.2.2.2.1.1 (fun t => t.2.1.1) s.2.2.2.2.2.1) (hc : 0 < s.2.2.2.1.1) :
    F_ref27_Count (refS s) p 0 (n : Int) = some (turnE p s.2.2.2.2.1.1 (fun t => t.2.1.1) s.2.2.2.2.2.1 n / s.2.2.2.1.1) := by
  unfold F_ref27_Count refS
  have e0 : ∀ (a b : Int), List.getD [a, b] (0 : Int).toNat (0 : Int) = a := fun _ _ => rfl
  simp only [e0, List.length_map]
  generalize s.2.2.2.2.2.1 = tk at *
  generalize s.2.2.2.2.1.1 = ph at *
  generalize s.2.2.2.1.1 = ci at *
  have g : (decide ((0 : Int) ≤ 0) && decide ((0 : Int) < 2)) = true := by decide
  rw [chk_yes g]
  rw [show ((0 : Int), ph) = (((0 : Nat) : Int), turnE p ph (fun t => t.2.1.1) tk 0) from rfl]
  have hb : ∀ i, i ≤ n → -4611686018427387904 ≤ turnE p ph (fun t => t.2.1.1) tk i ∧ turnE p ph (fun t => t.2.1.1) tk i ≤ 4611686018427387903 := by
    intro i hi
    have := hC.bound i (by omega)
    omega
  rw [loop_run (n := n) (st := fun i => ((i : Int), turnE p ph (fun t => t.2.1.1) tk i)) (x := turnE p ph (fun t => t.2.1.1) tk n)]
  · rw [Option.bind_some, chk_yes g, f_Down _ _ ⟨by have := hb n (Nat.le_refl n); omega, by have := hb n (Nat.le_refl n); omega⟩ hc]
    rfl
  · intro i hi
    have h1 := hC.pv (i := i) (by omega)
    have h2 := hC.s i (by omega)
    have h3 := hb i (by omega)
    have h4 := hb (i + 1) (by omega)
    simp only []
    rw [decide_eq_true (show (i : Int) < n by omega), decide_eq_true (show (0 : Int) ≤ i by omega), decide_eq_true (show (i : Int) < tk.length by omega), Int.toNat_natCast, rt_def, map_d, wrap_ok (n := (i : Int) + 1) (by omega)]
    have e : turnE p ph (fun t => t.2.1.1) tk (i + 1) = turnE p ph (fun t => t.2.1.1) tk i + p * (tk.getD i tk0).1 + (tk.getD i tk0).2.1.1 := rfl
    have r1 : (refT (tk.getD i tk0)).1 = (tk.getD i tk0).1 := rfl
    have r2 : (refT (tk.getD i tk0)).2.1.1 = (tk.getD i tk0).2.1.1 := rfl
    simp only [cond_true, Bool.and_self, chk_yes, g, r1, r2]
    rw [e] at h4 ⊢
    rw [wrap_ok (n := p * (tk.getD i tk0).1) (by omega), wrap_ok (n := turnE p ph (fun t => t.2.1.1) tk i + p * (tk.getD i tk0).1) (by omega), wrap_ok (n := turnE p ph (fun t => t.2.1.1) tk i + p * (tk.getD i tk0).1 + (tk.getD i tk0).2.1.1) (by omega)]
    rfl
  · simp
theorem f_Count1 (s : Scr) (p : Int) (n : Nat) (hn : n ≤ s.2.2.2.2.2.1.length) (hl : s.2.2.2.2.2.1.length ≤ 4096) (hC : Calm p s.2.2.2.2.1.2 (fun t => t.2.1.2) s.2.2.2.2.2.1) (hc : 0 < s.2.2.2.1.2) :
    F_ref27_Count (refS s) p 1 (n : Int) = some (turnE p s.2.2.2.2.1.2 (fun t => t.2.1.2) s.2.2.2.2.2.1 n / s.2.2.2.1.2) := by
  unfold F_ref27_Count refS
  have e0 : ∀ (a b : Int), List.getD [a, b] (1 : Int).toNat (0 : Int) = b := fun _ _ => rfl
  simp only [e0, List.length_map]
  generalize s.2.2.2.2.2.1 = tk at *
  generalize s.2.2.2.2.1.2 = ph at *
  generalize s.2.2.2.1.2 = ci at *
  have g : (decide ((0 : Int) ≤ 1) && decide ((1 : Int) < 2)) = true := by decide
  rw [chk_yes g]
  rw [show ((0 : Int), ph) = (((0 : Nat) : Int), turnE p ph (fun t => t.2.1.2) tk 0) from rfl]
  have hb : ∀ i, i ≤ n → -4611686018427387904 ≤ turnE p ph (fun t => t.2.1.2) tk i ∧ turnE p ph (fun t => t.2.1.2) tk i ≤ 4611686018427387903 := by
    intro i hi
    have := hC.bound i (by omega)
    omega
  rw [loop_run (n := n) (st := fun i => ((i : Int), turnE p ph (fun t => t.2.1.2) tk i)) (x := turnE p ph (fun t => t.2.1.2) tk n)]
  · rw [Option.bind_some, chk_yes g, f_Down _ _ ⟨by have := hb n (Nat.le_refl n); omega, by have := hb n (Nat.le_refl n); omega⟩ hc]
    rfl
  · intro i hi
    have h1 := hC.pv (i := i) (by omega)
    have h2 := hC.s i (by omega)
    have h3 := hb i (by omega)
    have h4 := hb (i + 1) (by omega)
    simp only []
    rw [decide_eq_true (show (i : Int) < n by omega), decide_eq_true (show (0 : Int) ≤ i by omega), decide_eq_true (show (i : Int) < tk.length by omega), Int.toNat_natCast, rt_def, map_d, wrap_ok (n := (i : Int) + 1) (by omega)]
    have e : turnE p ph (fun t => t.2.1.2) tk (i + 1) = turnE p ph (fun t => t.2.1.2) tk i + p * (tk.getD i tk0).1 + (tk.getD i tk0).2.1.2 := rfl
    have r1 : (refT (tk.getD i tk0)).1 = (tk.getD i tk0).1 := rfl
    have r2 : (refT (tk.getD i tk0)).2.1.2 = (tk.getD i tk0).2.1.2 := rfl
    simp only [cond_true, Bool.and_self, chk_yes, g, r1, r2]
    rw [e] at h4 ⊢
    rw [wrap_ok (n := p * (tk.getD i tk0).1) (by omega), wrap_ok (n := turnE p ph (fun t => t.2.1.2) tk i + p * (tk.getD i tk0).1) (by omega), wrap_ok (n := turnE p ph (fun t => t.2.1.2) tk i + p * (tk.getD i tk0).1 + (tk.getD i tk0).2.1.2) (by omega)]
    rfl
  · simp
theorem tmod_pos (x : Int) : 0 ≤ (x.tmod 65536 + 65536).tmod 65536 ∧ (x.tmod 65536 + 65536).tmod 65536 < 65536 ∧ ∃ q : Int, x = 65536 * q + (x.tmod 65536 + 65536).tmod 65536 := by
  have h1 := Int.mul_tdiv_add_tmod x 65536
  have h2 : x.tmod 65536 < 65536 := Int.tmod_lt_of_pos x (by decide)
  have h3 : -65536 < x.tmod 65536 := by
    have := Int.tmod_lt_of_pos (-x) (b := 65536) (by decide)
    rw [Int.neg_tmod] at this
    omega
  have h4 : 0 ≤ x.tmod 65536 + 65536 := by omega
  rw [Int.tmod_eq_emod_of_nonneg h4]
  generalize x.tmod 65536 = t at *
  generalize x.tdiv 65536 = q at *
  refine ⟨by omega, by omega, ?_⟩
  by_cases ht : 0 ≤ t
  · exact ⟨q, by omega⟩
  · exact ⟨q - 1, by omega⟩
theorem tmod_small (x : Int) : -65536 < x.tmod 65536 ∧ x.tmod 65536 < 65536 := by
  have h2 : x.tmod 65536 < 65536 := Int.tmod_lt_of_pos x (by decide)
  have := Int.tmod_lt_of_pos (-x) (b := 65536) (by decide)
  rw [Int.neg_tmod] at this
  omega
end Go.Proofs.YtlkcanjbgaeceaaGreat
