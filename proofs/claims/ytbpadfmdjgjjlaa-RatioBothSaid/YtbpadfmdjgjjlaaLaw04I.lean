/- More laws of chapter 04: the reference's quotient. -/
import Derived.Test.YtbpadfmdjgjjlaaLaw04H
set_option linter.unusedSimpArgs false
set_option linter.unusedVariables false
namespace Go.Proofs.Ytbpadfmdjgjjlaa
open Go.RowKit
theorem eqT_d4 (d e : D4) : eqT (.agg (.pair (.int .u64) (.pair (.int .u64) (.pair (.int .u64) (.int .u64))))) d e = decide (d = e) := by
  rw [eqT_agg, eqT_pair, eqT_pair, eqT_pair, eqT_int, eqT_int, eqT_int, eqT_int, Bool.eq_iff_iff]
  obtain ⟨a, b, c, f⟩ := d
  obtain ⟨a', b', c', f'⟩ := e
  simp
theorem dg_zero {m : Int} (h : U128 m) : dg m = (0, 0, 0, 0) ↔ m = 0 := by
  constructor
  · intro e
    have := num_dg h
    rw [e] at this
    exact this.symm
  · rintro rfl; rfl
theorem n_zero {n : Int × D4} {v : Int} (h : IsN n v) (hv : -85070591730234615865843651857942052864 ≤ v ∧ v ≤ 85070591730234615865843651857942052864) :
    eqT (.agg (.pair (.int .u64) (.pair (.int .u64) (.pair (.int .u64) (.int .u64))))) n.2 (0, 0, 0, 0) = decide (v = 0) := by
  obtain ⟨s, h1, rfl, h3⟩ := h
  have b1 : 0 ≤ szI v ∧ szI v ≤ 85070591730234615865843651857942052864 := by unfold szI; split <;> omega
  have hz := dg_zero (m := szI v) ⟨b1.1, by omega⟩
  rw [eqT_d4, Bool.eq_iff_iff, decide_eq_true_eq, decide_eq_true_eq]
  simp only [hz]
  unfold szI
  split <;> omega
theorem n_pos {n : Int × D4} {v : Int} (h : IsN n v) (hv : v ≠ 0) : decide (0 < n.1) = decide (0 < v) := by
  obtain ⟨s, h1, rfl, h3⟩ := h
  have b1 : 0 ≤ szI v := by unfold szI; split <;> omega
  rw [Bool.eq_iff_iff, decide_eq_true_eq, decide_eq_true_eq]
  simp only []
  generalize szI v = x at *
  rcases h1 with rfl | rfl <;> omega
theorem prod_bound {a b : Int} (ha : I64 a) (hb : I64 b) : -85070591730234615865843651857942052864 ≤ a * b ∧ a * b ≤ 85070591730234615865843651857942052864 := by
  have h1 := szI_64 ha
  have h2 := szI_64 hb
  have h3 : szI a * szI b ≤ 9223372036854775808 * 9223372036854775808 := Int.mul_le_mul h1.2 h2.2 h2.1 (by omega)
  have h4 := Int.mul_nonneg h1.1 h2.1
  rw [sz_mul] at h3 h4
  split at h3 <;> (rename_i g; simp only [g, if_true, if_false, Bool.false_eq_true] at h4) <;> omega
theorem f_Above (n b v : Int) (p : Int × D4) (hn : I64 n) (hb : I64 b) (hp : IsN p v) (hv : -85070591730234615865843651857942052864 ≤ v ∧ v ≤ 85070591730234615865843651857942052864) : F_ref04_Above n b p = some (decide (v < n * b)) := by
  obtain ⟨m1, e1, h1⟩ := n_Times n b hn hb
  obtain ⟨m2, e2, h2⟩ := n_Minor hp
  have hb1 := prod_bound hn hb
  obtain ⟨m3, e3, h3⟩ := n_Sum h1 h2 hb1 (by omega)
  obtain ⟨s, k1, k2, k3⟩ := id h3
  have b1 : 0 ≤ szI (n * b + -v) ∧ szI (n * b + -v) ≤ 170141183460469231731687303715884105728 := by unfold szI; split <;> omega
  have hz := dg_zero (m := szI (n * b + -v)) ⟨b1.1, by omega⟩
  unfold F_ref04_Above
  rw [e1, Option.bind_some, e2, Option.bind_some, e3, Option.bind_some]
  refine congrArg some ?_
  rw [eqT_d4, Bool.eq_iff_iff, k2]
  simp only [Bool.cond_false_right, Bool.and_eq_true, decide_eq_true_eq, Bool.not_eq_true', decide_eq_false_iff_not, hz]
  have hs0 : szI (n * b + -v) = 0 ↔ n * b + -v = 0 := by unfold szI; split <;> omega
  rw [hs0]
  generalize szI (n * b + -v) = x at *
  rcases k1 with rfl | rfl <;> omega
theorem f_Above2 (n b v : Int) (p : Int × D4) (hn : I64 n) (hb : I64 b) (hp : IsN p v) (hv : -85070591730234615865843651857942052864 ≤ v ∧ v ≤ 85070591730234615865843651857942052864) (hnb : -85070591730234615865843651857942052864 ≤ n * b + b ∧ n * b + b ≤ 85070591730234615865843651857942052864) :
    F_ref04_Above2 n b p = some (decide (n * b + b ≤ v)) := by
  obtain ⟨m1, e1, h1⟩ := n_Times n b hn hb
  obtain ⟨m2, e2, h2⟩ := n_Of b hb
  have hb1 := prod_bound hn hb
  have hb2 := hb
  obtain ⟨hb3, hb4⟩ := hb
  obtain ⟨m3, e3, h3⟩ := n_Sum h1 h2 hb1 (by omega)
  obtain ⟨m4, e4, h4⟩ := n_Minor h3
  obtain ⟨m5, e5, h5⟩ := n_Sum hp h4 hv (by omega)
  obtain ⟨s, k1, k2, k3⟩ := id h5
  have b1 : 0 ≤ szI (v + -(n * b + b)) ∧ szI (v + -(n * b + b)) ≤ 170141183460469231731687303715884105728 := by unfold szI; split <;> omega
  have hz := dg_zero (m := szI (v + -(n * b + b))) ⟨b1.1, by omega⟩
  unfold F_ref04_Above2
  rw [e1, Option.bind_some, e2, Option.bind_some, e3, Option.bind_some, e4, Option.bind_some, e5, Option.bind_some]
  refine congrArg some ?_
  rw [eqT_d4, Bool.eq_iff_iff, k2]
  simp only [Bool.cond_true_left, Bool.or_eq_true, decide_eq_true_eq, hz]
  have hs0 : szI (v + -(n * b + b)) = 0 ↔ v + -(n * b + b) = 0 := by unfold szI; split <;> omega
  rw [hs0]
  generalize szI (v + -(n * b + b)) = x at *
  rcases k1 with rfl | rfl <;> omega
theorem f_Half (lo hi : Int) (h1 : I64 lo) (h2 : I64 hi) (h : lo ≤ hi) : F_ref04_Half lo hi = some ((hi - lo) / 2) := by
  obtain ⟨a1, a2⟩ := h1
  obtain ⟨a3, a4⟩ := h2
  unfold F_ref04_Half
  have e : (hi % 18446744073709551616 - lo % 18446744073709551616) % 18446744073709551616 = hi - lo := by omega
  simp only [uwrap_of, IntKind.wrap_i64, e]
  rw [Int.tdiv_eq_ediv_of_nonneg (by omega)]
  congr 1
  omega
theorem f_Quotient (a b c : Int) (ha : I64 a) (hb : I64 b) (hc : I64 c) (hc0 : 0 < c) : F_ref04_Quotient a b c = some (if in64 (a * b / c) = true then (a * b / c, true) else (0, false)) := by
  obtain ⟨p, e1, hp⟩ := n_Times a b ha hb
  have hV := prod_bound ha hb
  generalize a * b = V at *
  obtain ⟨c1, c2⟩ := hc
  have key : ∀ n : Int, n ≤ V / c ↔ n * c ≤ V := fun n => Int.le_ediv_iff_mul_le hc0
  have k1 := key (-9223372036854775808)
  have k2 := key 9223372036854775807
  have k3 := key (9223372036854775807 + 1)
  rw [Int.add_mul, Int.one_mul] at k3
  have m1 := f_Above (-9223372036854775808) c V p ⟨by omega, by omega⟩ ⟨c1, c2⟩ hp hV
  have m2 := f_Above 9223372036854775807 c V p ⟨by omega, by omega⟩ ⟨c1, c2⟩ hp hV
  have m3 := f_Above2 9223372036854775807 c V p ⟨by omega, by omega⟩ ⟨c1, c2⟩ hp hV (by omega)
  unfold F_ref04_Quotient
  rw [e1, Option.bind_some, m1, Option.bind_some, m2, m3]
  by_cases h1 : V < -9223372036854775808 * c
  · rw [decide_eq_true h1, in64_no (by omega)]
    rfl
  · by_cases h2 : 9223372036854775807 * c + c ≤ V
    · rw [decide_eq_false h1, decide_eq_true h2, decide_eq_false (by omega), in64_no (by omega)]
      rfl
    · have hin : -9223372036854775808 ≤ V / c ∧ V / c ≤ 9223372036854775807 := by omega
      have hg : (bif decide (V < -9223372036854775808 * c) then true else (bif !decide (V < 9223372036854775807 * c) then decide (9223372036854775807 * c + c ≤ V) else false)) = false := by
        rw [decide_eq_false h1, decide_eq_false h2]
        cases decide (V < 9223372036854775807 * c) <;> rfl
      rw [in64_yes hin, if_pos rfl]
      rw [decide_eq_false h1, decide_eq_false h2]
      have step : ∀ t : Bool, (Option.bind (bif (!t) && !false then some false else some false) fun x : Bool => some (bif (false : Bool) then true else bif !t then x else false)) = some false := by
        intro t; cases t <;> rfl
      simp only [Bool.not_false, cond_true, Option.bind_some, Bool.and_true]
      generalize decide (V < 9223372036854775807 * c) = t
      have hloop : ∀ (k : Int → Option (Int × Bool)), (∀ x, x = V / c → k x = some (V / c, true)) → Option.bind (loopO (X := Int) (fun (s_10 : (Int × Int)) =>
          bif (decide (s_10.2 < s_10.1)) then
            (F_ref04_Half s_10.2 s_10.1).bind fun t38_13 =>
            (F_ref04_Above (IntKind.wrap .i64 (s_10.1 - t38_13)) c p).bind fun t43_15 =>
            Option.bind (
              (bif t43_15 then
                some (IntKind.wrap .i64 (IntKind.wrap .i64 (s_10.1 - t38_13) - (1 : Int)), s_10.2)
              else
                some (s_10.1, IntKind.wrap .i64 (s_10.1 - t38_13)))) fun r_17 =>
            some (.inl (r_17.1, r_17.2))
          else
            some (.inr s_10.2)) ((9223372036854775807 : Int), (-9223372036854775808 : Int))) k = some (V / c, true) := by
        intro k hk
        refine bind_loop (fun s => (I64 s.1 ∧ I64 s.2) ∧ s.2 ≤ V / c ∧ V / c ≤ s.1) (fun s => (s.1 - s.2).toNat) (fun x => x = V / c) ⟨⟨⟨by omega, by omega⟩, ⟨by omega, by omega⟩⟩, hin⟩ ?_ hk
        rintro ⟨hi, lo⟩ ⟨⟨hh, hl⟩, i1, i2⟩
        simp only at hh hl i1 i2 ⊢
        by_cases hlt : lo < hi
        · right
          obtain ⟨x1, x2⟩ := id hh
          obtain ⟨x3, x4⟩ := id hl
          have hw : IntKind.i64.wrap (hi - (hi - lo) / 2) = hi - (hi - lo) / 2 := by rw [IntKind.wrap_i64]; omega
          rw [decide_eq_true hlt, cond_true, f_Half lo hi hl hh (by omega), Option.bind_some, hw, f_Above _ c V p ⟨by omega, by omega⟩ ⟨c1, c2⟩ hp hV, Option.bind_some]
          have hk' := key (hi - (hi - lo) / 2)
          by_cases ha : V < (hi - (hi - lo) / 2) * c
          · have hw2 : IntKind.i64.wrap (hi - (hi - lo) / 2 - 1) = hi - (hi - lo) / 2 - 1 := by rw [IntKind.wrap_i64]; omega
            rw [decide_eq_true ha, hw2]
            exact ⟨_, rfl, ⟨⟨⟨by simp only []; omega, by simp only []; omega⟩, ⟨by simp only []; omega, by simp only []; omega⟩⟩, by simp only []; omega, by simp only []; omega⟩, by simp only []; omega⟩
          · rw [decide_eq_false ha]
            exact ⟨_, rfl, ⟨⟨⟨by simp only []; omega, by simp only []; omega⟩, ⟨by simp only []; omega, by simp only []; omega⟩⟩, by simp only []; omega, by simp only []; omega⟩, by simp only []; omega⟩
        · left
          rw [decide_eq_false hlt]
          exact ⟨_, rfl, by omega⟩
      cases t <;> simp only [Bool.not_true, Bool.not_false, cond_true, cond_false, Option.bind_some] <;> exact hloop _ (fun x hx => by rw [hx])
end Go.Proofs.Ytbpadfmdjgjjlaa
