/- RatioFloors, RatioCeils, RatioBoth: what is left, and its sign. -/
import Derived.Test.YtbpadfmdjgjjlaaLaw04I
import Derived.Test.YtbpadfmdjgjjlaaLaw03F
set_option linter.unusedSimpArgs false
set_option linter.unusedVariables false
namespace Go.Proofs.Ytbpadfmdjgjjlaa
open Go.RowKit
theorem n_rest (a b q c : Int) (ha : I64 a) (hb : I64 b) (hq : I64 q) (hc : I64 c) : ∃ n, F_law03_rest a b q c = some n ∧ IsN n (a * b - q * c) := by
  obtain ⟨m1, e1, h1⟩ := n_Times a b ha hb
  obtain ⟨m2, e2, h2⟩ := n_Times q c hq hc
  obtain ⟨m3, e3, h3⟩ := n_Minor h2
  have p1 := prod_bound ha hb
  have p2 := prod_bound hq hc
  obtain ⟨m4, e4, h4⟩ := n_Sum h1 h3 p1 (by omega)
  refine ⟨m4, ?_, by rw [Int.sub_eq_add_neg]; exact h4⟩
  unfold F_law03_rest
  rw [e1, Option.bind_some, e2, Option.bind_some, e3, Option.bind_some, e4, Option.bind_some]
def signI (v : Int) : Int := if 0 < v then 1 else if v < 0 then -1 else 0
theorem n_sign {n : Int × D4} {v : Int} (h : IsN n v) (hv : -170141183460469231731687303715884105728 ≤ v ∧ v ≤ 170141183460469231731687303715884105728) : F_law03_sign n = some (signI v) := by
  obtain ⟨s, h1, rfl, h3⟩ := h
  have b1 : 0 ≤ szI v ∧ szI v ≤ 170141183460469231731687303715884105728 := by unfold szI; split <;> omega
  have hz := dg_zero (m := szI v) ⟨b1.1, by omega⟩
  have hs : signI v = if szI v = 0 then 0 else s := by
    unfold signI
    generalize szI v = x at *
    rcases h1 with rfl | rfl <;> (split <;> split <;> (try split) <;> omega)
  rw [hs]
  generalize szI v = x at *
  generalize hd : dg x = d at *
  obtain ⟨a, b, c, e⟩ := d
  unfold F_law03_sign
  simp only [Prod.mk.injEq] at hz
  by_cases k1 : a = 0
  · by_cases k2 : b = 0
    · by_cases k3 : c = 0
      · by_cases k4 : e = 0
        · rw [if_pos (hz.1 ⟨k1, k2, k3, k4⟩)]; simp [k1, k2, k3, k4]
        · rw [if_neg (fun h => k4 (hz.2 h).2.2.2)]; have k : (e != 0) = true := bne_iff_ne.2 k4; simp [k1, k2, k3, k]
      · rw [if_neg (fun h => k3 (hz.2 h).2.2.1)]; have k : (c != 0) = true := bne_iff_ne.2 k3; simp [k1, k2, k]
    · rw [if_neg (fun h => k2 (hz.2 h).2.1)]; have k : (b != 0) = true := bne_iff_ne.2 k2; simp [k1, k]
  · rw [if_neg (fun h => k1 (hz.2 h).1)]; have k : (a != 0) = true := bne_iff_ne.2 k1; simp [k]
/-- Where a quotient, rounded down, lies. -/
theorem quo_down (n c : Int) (hc : c ≠ 0) : 0 < szI c ∧ (0 < c → 0 ≤ n - quoI n c false * c ∧ n - quoI n c false * c < szI c) ∧ (c < 0 → -szI c < n - quoI n c false * c ∧ n - quoI n c false * c ≤ 0) := by
  have hD : 0 < szI c := by unfold szI; split <;> omega
  refine ⟨hD, fun h => ?_, fun h => ?_⟩
  · have e : szI c = c := by unfold szI; rw [if_neg (by omega)]
    rw [quoI]
    simp only [if_neg (show ¬ c < 0 by omega), e, Bool.false_eq_true, if_false]
    have h1 := Int.emod_add_ediv_mul n c
    have h2 := Int.emod_nonneg n hc
    have h3 := Int.emod_lt_of_pos n h
    omega
  · have e : szI c = -c := by unfold szI; rw [if_pos h]
    rw [quoI]
    simp only [if_pos h, e, Bool.false_eq_true, if_false]
    have h1 := Int.emod_add_ediv_mul (-n) (-c)
    have h2 := Int.emod_nonneg (-n) (show -c ≠ 0 by omega)
    have h3 := Int.emod_lt_of_pos (-n) (show 0 < -c by omega)
    rw [Int.mul_neg] at h1
    omega
theorem quo_up (n c : Int) : quoI n c true = -quoI (-n) c false := by
  unfold quoI
  simp only [if_true, Bool.false_eq_true, if_false]
  by_cases h : c < 0
  · simp only [if_pos h, Int.neg_neg]
  · simp only [if_neg h]
theorem f_lies {r : Int × D4} {v c : Int} {up : Bool} (hr : IsN r v) (hv : -170141183460469231731687303715884105728 ≤ v ∧ v ≤ 170141183460469231731687303715884105728) (hc : I64 c)
    (h : v = 0 ∨ (signI v = (if (decide (c < 0) == up) = true then 1 else -1) ∧ szI v < szI c)) : F_law03_lies r c up = some true := by
  have hsg := n_sign hr hv
  have hC := szI_64 hc
  obtain ⟨s, t1, rfl, t3⟩ := id hr
  have b1 : 0 ≤ szI v ∧ szI v ≤ 170141183460469231731687303715884105728 := by unfold szI; split <;> omega
  have hl := f_Less (dg (szI v)) (dg (szI c)) (dg_isD _) (dg_isD _)
  rw [num_dg ⟨b1.1, by omega⟩, num_dg ⟨hC.1, by omega⟩] at hl
  have hz : (signI v == 0) = decide (v = 0) := by
    unfold signI
    rw [Bool.eq_iff_iff]
    split
    · simp; omega
    · split <;> simp <;> omega
  unfold F_law03_lies
  rw [hsg, f_Of c hc]
  simp only [Option.bind_some, hz, hl]
  rcases h with h | ⟨h1, h2⟩
  · subst h
    cases (decide (c < 0) == up) <;> rfl
  · have hv0 : v ≠ 0 := by
      intro e
      subst e
      unfold signI at h1
      cases hb : (decide (c < 0) == up) <;> simp [hb] at h1
    rw [decide_eq_true h2] at hl
    rw [decide_eq_false hv0]
    cases hb : (decide (c < 0) == up)
    · rw [hb] at h1
      simp only [Bool.false_eq_true, if_false] at h1
      rw [h1]
      simp [hl]
    · rw [hb] at h1
      simp only [if_true] at h1
      rw [h1]
      simp [hl]
theorem signI_neg (v : Int) : IntKind.i64.wrap (0 - signI v) = signI (-v) := by
  unfold signI
  repeat' split
  all_goals first | rfl | (exfalso; omega)
theorem signI_pos (v : Int) : decide (0 < signI v) = decide (0 < v) := by
  unfold signI
  split
  · rw [decide_eq_true (by omega), decide_eq_true (by omega)]
  · split
    · rw [decide_eq_false (by omega), decide_eq_false (by omega)]
    · rw [decide_eq_false (by omega), decide_eq_false (by omega)]
theorem signI_lt (v : Int) : decide (signI v < 0) = decide (v < 0) := by
  unfold signI
  split
  · rw [decide_eq_false (by omega), decide_eq_false (by omega)]
  · split
    · rw [decide_eq_true (by omega), decide_eq_true (by omega)]
    · rw [decide_eq_false (by omega), decide_eq_false (by omega)]
theorem szI_neg (v : Int) : szI (-v) = szI v := by unfold szI; split <;> split <;> omega
/-- A quotient that is too great, rounded down. -/
theorem f_beyond_down (a b c : Int) (ha : I64 a) (hb : I64 b) (hc : I64 c) (hc0 : c ≠ 0) (h : ¬ (-9223372036854775808 ≤ quoI (a * b) c false ∧ quoI (a * b) c false ≤ 9223372036854775807)) : F_law03_beyond a b c false = some true := by
  obtain ⟨n1, e1, k1⟩ := n_rest a b (-9223372036854775808) c ha hb ⟨by omega, by omega⟩ hc
  obtain ⟨n2, e2, k2⟩ := n_rest a b 9223372036854775807 c ha hb ⟨by omega, by omega⟩ hc
  obtain ⟨hD, hp, hm⟩ := quo_down (a * b) c hc0
  have hV := prod_bound ha hb
  have hC := szI_64 hc
  obtain ⟨c1, c2⟩ := id hc
  have s1 := n_sign k1 (by omega)
  have s2 := n_sign k2 (by omega)
  obtain ⟨sg, t1, t2, t3⟩ := id k2
  have b1 : 0 ≤ szI (a * b - 9223372036854775807 * c) ∧ szI (a * b - 9223372036854775807 * c) ≤ 170141183460469231731687303715884105728 := by unfold szI; split <;> omega
  have hl := f_Less (dg (szI (a * b - 9223372036854775807 * c))) (dg (szI c)) (dg_isD _) (dg_isD _)
  rw [num_dg ⟨b1.1, by omega⟩, num_dg ⟨hC.1, by omega⟩] at hl
  have t2' : n2.2 = dg (szI (a * b - 9223372036854775807 * c)) := by rw [t2]
  unfold F_law03_beyond
  rw [e1, Option.bind_some, e2, Option.bind_some, s1, Option.bind_some, s2, Option.bind_some, f_Of c hc]
  simp only [signI_neg, Option.bind_some, t2', hl, cond_false]
  generalize a * b = V at *
  generalize quoI V c false = F at *
  by_cases g : c < 0
  · obtain ⟨m1, m2⟩ := hm g
    have eC : szI c = -c := by unfold szI; rw [if_pos g]
    rw [decide_eq_true g]
    simp only [cond_true, Option.bind_some, signI_lt, signI_pos, hl]
    by_cases q : F < -9223372036854775808
    · have : (F + 9223372036854775808) * c ≥ -c := by
        have := Int.mul_le_mul_of_nonpos_right (show F + 9223372036854775808 ≤ -1 by omega) (show c ≤ 0 by omega)
        omega
      rw [Int.add_mul] at this
      rw [decide_eq_true (show -(V - -9223372036854775808 * c) < 0 by omega)]
      simp
    · have : (F - 9223372036854775808) * c ≤ 0 := Int.mul_nonpos_of_nonneg_of_nonpos (by omega) (by omega)
      rw [Int.sub_mul] at this
      have e : szI (V - 9223372036854775807 * c) = 9223372036854775807 * c - V := by unfold szI; rw [if_pos (by omega)]; omega
      rw [decide_eq_false (show ¬ -(V - -9223372036854775808 * c) < 0 by omega), decide_eq_true (show 0 < -(V - 9223372036854775807 * c) by omega), e, eC, decide_eq_false (by omega)]
      simp
  · obtain ⟨m1, m2⟩ := hp (by omega)
    have eC : szI c = c := by unfold szI; rw [if_neg g]
    rw [decide_eq_false g]
    simp only [cond_false, Option.bind_some, signI_lt, signI_pos, hl]
    by_cases q : F < -9223372036854775808
    · have : (F + 9223372036854775808) * c ≤ -1 * c := Int.mul_le_mul_of_nonneg_right (by omega) (by omega)
      rw [Int.add_mul] at this
      rw [decide_eq_true (show V - -9223372036854775808 * c < 0 by omega)]
      simp
    · have : 0 ≤ (F - 9223372036854775808) * c := Int.mul_nonneg (by omega) (by omega)
      rw [Int.sub_mul] at this
      have e : szI (V - 9223372036854775807 * c) = V - 9223372036854775807 * c := by unfold szI; rw [if_neg (by omega)]
      rw [decide_eq_false (show ¬ V - -9223372036854775808 * c < 0 by omega), decide_eq_true (show 0 < V - 9223372036854775807 * c by omega), e, eC, decide_eq_false (by omega)]
      simp
/-- Where a quotient, rounded up, lies. -/
theorem quo_upper (n c : Int) (hc : c ≠ 0) : (0 < c → -szI c < n - quoI n c true * c ∧ n - quoI n c true * c ≤ 0) ∧ (c < 0 → 0 ≤ n - quoI n c true * c ∧ n - quoI n c true * c < szI c) := by
  obtain ⟨hD, h1, h2⟩ := quo_down (-n) c hc
  rw [quo_up]
  have e : -quoI (-n) c false * c = -(quoI (-n) c false * c) := Int.neg_mul _ _
  rw [e]
  refine ⟨fun g => ?_, fun g => ?_⟩
  · have := h1 g; omega
  · have := h2 g; omega
/-- A quotient that is too great, rounded up. -/
theorem f_beyond_up (a b c : Int) (ha : I64 a) (hb : I64 b) (hc : I64 c) (hc0 : c ≠ 0) (h : ¬ (-9223372036854775808 ≤ quoI (a * b) c true ∧ quoI (a * b) c true ≤ 9223372036854775807)) : F_law03_beyond a b c true = some true := by
  obtain ⟨n1, e1, k1⟩ := n_rest a b (-9223372036854775808) c ha hb ⟨by omega, by omega⟩ hc
  obtain ⟨n2, e2, k2⟩ := n_rest a b 9223372036854775807 c ha hb ⟨by omega, by omega⟩ hc
  obtain ⟨hp, hm⟩ := quo_upper (a * b) c hc0
  have hD : 0 < szI c := by unfold szI; split <;> omega
  have hV := prod_bound ha hb
  have hC := szI_64 hc
  obtain ⟨c1, c2⟩ := id hc
  have s1 := n_sign k1 (by omega)
  have s2 := n_sign k2 (by omega)
  obtain ⟨sg, t1, t2, t3⟩ := id k1
  have b1 : 0 ≤ szI (a * b - -9223372036854775808 * c) ∧ szI (a * b - -9223372036854775808 * c) ≤ 170141183460469231731687303715884105728 := by unfold szI; split <;> omega
  have hl := f_Less (dg (szI (a * b - -9223372036854775808 * c))) (dg (szI c)) (dg_isD _) (dg_isD _)
  rw [num_dg ⟨b1.1, by omega⟩, num_dg ⟨hC.1, by omega⟩] at hl
  have t2' : n1.2 = dg (szI (a * b - -9223372036854775808 * c)) := by rw [t2]
  unfold F_law03_beyond
  rw [e1, Option.bind_some, e2, Option.bind_some, s1, Option.bind_some, s2, Option.bind_some, f_Of c hc]
  simp only [signI_neg, Option.bind_some, t2', hl, cond_true]
  generalize a * b = V at *
  generalize quoI V c true = F at *
  by_cases g : c < 0
  · obtain ⟨m1, m2⟩ := hm g
    have eC : szI c = -c := by unfold szI; rw [if_pos g]
    rw [decide_eq_true g]
    simp only [cond_true, Option.bind_some, signI_lt, signI_pos, hl]
    by_cases q : 9223372036854775807 < F
    · have : (F - 9223372036854775807) * c ≤ 1 * c := Int.mul_le_mul_of_nonpos_right (show 1 ≤ F - 9223372036854775807 by omega) (show c ≤ 0 by omega)
      rw [Int.sub_mul] at this
      rw [decide_eq_true (show 0 < -(V - 9223372036854775807 * c) by omega)]
      simp
    · have : 0 ≤ (F + 9223372036854775809) * c := Int.mul_nonneg_of_nonpos_of_nonpos (by omega) (by omega)
      rw [Int.add_mul] at this
      have e : szI (V - -9223372036854775808 * c) = V - -9223372036854775808 * c := by unfold szI; rw [if_neg (by omega)]
      rw [decide_eq_false (show ¬ 0 < -(V - 9223372036854775807 * c) by omega), decide_eq_true (show -(V - -9223372036854775808 * c) < 0 by omega), e, eC, decide_eq_false (by omega)]
      simp
  · obtain ⟨m1, m2⟩ := hp (by omega)
    have eC : szI c = c := by unfold szI; rw [if_neg g]
    rw [decide_eq_false g]
    simp only [cond_false, Option.bind_some, signI_lt, signI_pos, hl]
    by_cases q : 9223372036854775807 < F
    · have : 1 * c ≤ (F - 9223372036854775807) * c := Int.mul_le_mul_of_nonneg_right (by omega) (by omega)
      rw [Int.sub_mul] at this
      rw [decide_eq_true (show 0 < V - 9223372036854775807 * c by omega)]
      simp
    · have : (F + 9223372036854775809) * c ≤ 0 := Int.mul_nonpos_of_nonpos_of_nonneg (by omega) (by omega)
      rw [Int.add_mul] at this
      have e : szI (V - -9223372036854775808 * c) = -9223372036854775808 * c - V := by unfold szI; rw [if_pos (by omega)]; omega
      rw [decide_eq_false (show ¬ 0 < V - 9223372036854775807 * c by omega), decide_eq_true (show V - -9223372036854775808 * c < 0 by omega), e, eC, decide_eq_false (by omega)]
      simp
theorem f_RatioFloors (a b c : Int) (ha : I64 a) (hb : I64 b) (hc : I64 c) : F_law03_RatioFloors a b c = some true := by
  unfold F_law03_RatioFloors
  rw [f_anchor03, Option.bind_some, f_Floor a b c ha hb hc, Option.bind_some]
  simp only [Bool.not_true, cond_false]
  by_cases h0 : c = 0
  · subst h0; rfl
  · have hne : (c == 0) = false := by simpa using h0
    rw [if_neg h0, hne, cond_false]
    unfold sayI
    by_cases hq : in64 (quoI (a * b) c false) = true
    · have hq' := in64_iff.1 hq
      obtain ⟨n, e1, k1⟩ := n_rest a b (quoI (a * b) c false) c ha hb ⟨hq'.1, hq'.2⟩ hc
      obtain ⟨hD, hp, hm⟩ := quo_down (a * b) c h0
      have hC := szI_64 hc
      rw [if_pos hq]
      simp only [bne_self_eq_false, cond_false, e1, Option.bind_some]
      generalize a * b - quoI (a * b) c false * c = v at *
      have hv : -170141183460469231731687303715884105728 ≤ v ∧ v ≤ 170141183460469231731687303715884105728 := by
        rcases Int.lt_or_gt_of_ne h0 with g | g
        · have := hm g; omega
        · have := hp g; omega
      rw [f_lies k1 hv hc, Option.bind_some]
      rcases Int.lt_or_gt_of_ne h0 with g | g
      · have := hm g
        by_cases hv0 : v = 0
        · exact .inl hv0
        · right
          rw [decide_eq_true g, if_neg (by decide)]
          exact ⟨by unfold signI; rw [if_neg (by omega), if_pos (by omega)], by unfold szI at *; rw [if_pos (show v < 0 by omega)]; omega⟩
      · have := hp g
        by_cases hv0 : v = 0
        · exact .inl hv0
        · right
          rw [decide_eq_false (by omega), if_pos (by decide)]
          exact ⟨by unfold signI; rw [if_pos (by omega)], by rw [show szI v = v by unfold szI; rw [if_neg (by omega)]]; omega⟩
    · have hq' : ¬ (-9223372036854775808 ≤ quoI (a * b) c false ∧ quoI (a * b) c false ≤ 9223372036854775807) := fun h => hq (in64_yes h)
      rw [if_neg hq, f_beyond_down a b c ha hb hc h0 hq']
      rfl
theorem law03_RatioFloors (a b c : Int) (ha : I64 a) (hb : I64 b) (hc : I64 c) (w : World) :
    Calls Try.prog 9 #[.int .i64 a, .int .i64 b, .int .i64 c] w fun e w' => e = .returned (.bool true) ∧ Below w.heap.size w w' :=
  call_true ok_F_law03_RatioFloors rfl (x := (a, b, c)) (f_RatioFloors _ _ _ ha hb hc) rfl w _ ⟨rl_i64 ha, rl_i64 hb, rl_i64 hc, trivial⟩
theorem f_RatioCeils (a b c : Int) (ha : I64 a) (hb : I64 b) (hc : I64 c) : F_law03_RatioCeils a b c = some true := by
  unfold F_law03_RatioCeils
  rw [f_anchor03, Option.bind_some, f_Ceil a b c ha hb hc, Option.bind_some]
  simp only [Bool.not_true, cond_false]
  by_cases h0 : c = 0
  · subst h0; rfl
  · have hne : (c == 0) = false := by simpa using h0
    rw [if_neg h0, hne, cond_false]
    unfold sayI
    by_cases hq : in64 (quoI (a * b) c true) = true
    · have hq' := in64_iff.1 hq
      obtain ⟨n, e1, k1⟩ := n_rest a b (quoI (a * b) c true) c ha hb ⟨hq'.1, hq'.2⟩ hc
      obtain ⟨hp, hm⟩ := quo_upper (a * b) c h0
      have hC := szI_64 hc
      rw [if_pos hq]
      simp only [bne_self_eq_false, cond_false, e1, Option.bind_some]
      generalize a * b - quoI (a * b) c true * c = v at *
      have hv : -170141183460469231731687303715884105728 ≤ v ∧ v ≤ 170141183460469231731687303715884105728 := by
        rcases Int.lt_or_gt_of_ne h0 with g | g
        · have := hm g; omega
        · have := hp g; omega
      rw [f_lies k1 hv hc, Option.bind_some]
      rcases Int.lt_or_gt_of_ne h0 with g | g
      · have := hm g
        by_cases hv0 : v = 0
        · exact .inl hv0
        · right
          rw [decide_eq_true g, if_pos (by decide)]
          exact ⟨by unfold signI; rw [if_pos (by omega)], by rw [show szI v = v by unfold szI; rw [if_neg (by omega)]]; omega⟩
      · have := hp g
        by_cases hv0 : v = 0
        · exact .inl hv0
        · right
          rw [decide_eq_false (by omega), if_neg (by decide)]
          exact ⟨by unfold signI; rw [if_neg (by omega), if_pos (by omega)], by unfold szI at *; rw [if_pos (show v < 0 by omega)]; omega⟩
    · have hq' : ¬ (-9223372036854775808 ≤ quoI (a * b) c true ∧ quoI (a * b) c true ≤ 9223372036854775807) := fun h => hq (in64_yes h)
      rw [if_neg hq, f_beyond_up a b c ha hb hc h0 hq']
      rfl
theorem law03_RatioCeils (a b c : Int) (ha : I64 a) (hb : I64 b) (hc : I64 c) (w : World) :
    Calls Try.prog 10 #[.int .i64 a, .int .i64 b, .int .i64 c] w fun e w' => e = .returned (.bool true) ∧ Below w.heap.size w w' :=
  call_true ok_F_law03_RatioCeils rfl (x := (a, b, c)) (f_RatioCeils _ _ _ ha hb hc) rfl w _ ⟨rl_i64 ha, rl_i64 hb, rl_i64 hc, trivial⟩
end Go.Proofs.Ytbpadfmdjgjjlaa
