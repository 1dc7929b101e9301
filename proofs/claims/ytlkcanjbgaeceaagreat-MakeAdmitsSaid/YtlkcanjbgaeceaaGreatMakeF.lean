/- The maker of scripts: dice, brakes, speeds, ways. -/
import Derived.Test.YtlkcanjbgaeceaaGreatAdmitK
set_option linter.unusedSimpArgs false
set_option linter.unusedVariables false
namespace Go.Proofs.YtlkcanjbgaeceaaGreat
open Go.RowKit
theorem getD_append_left {α : Type} {l m : List α} {i : Nat} {d : α} (h : i < l.length) : (l ++ m).getD i d = l.getD i d := by
  rw [List.getD_eq_getElem?_getD, List.getD_eq_getElem?_getD, List.getElem?_append_left h]
theorem getD_append_end {α : Type} {l : List α} {x d : α} : (l ++ [x]).getD l.length d = x := by
  rw [List.getD_eq_getElem?_getD, List.getElem?_append_right (Nat.le_refl _), Nat.sub_self]
  rfl
theorem f_to (n x : Int) (hn : n ≤ 9223372036854775807) : ∃ r d, F_make_dice_to n x = some (r, d) ∧ (n < 1 → r = 0) ∧ (1 ≤ n → 0 ≤ r ∧ r < n) := by
  unfold F_make_dice_to
  simp only []
  obtain ⟨d, hd, h1, h2⟩ : ∃ d, IntKind.u64.wrap (IntKind.u64.wrap (x * 6364136223846793005) + 1442695040888963407) = d ∧ 0 ≤ d ∧ d < 18446744073709551616 := by
    refine ⟨_, rfl, ?_⟩
    rw [uwrap_of]
    omega
  rw [hd]
  by_cases h : n < 1
  · rw [decide_eq_true h]
    exact ⟨0, d, rfl, fun _ => rfl, fun h' => by omega⟩
  · rw [decide_eq_false h, show (!(n == (0 : Int))) = true by rw [beq_false_of_ne (by omega)]; rfl]
    have e : d.fdiv (2 ^ 33) = d / 8589934592 := by
      rw [show (2 : Int) ^ 33 = 8589934592 by decide, Int.fdiv_eq_ediv_of_nonneg _ (by decide)]
    rw [e, wrap_ok (by omega)]
    refine ⟨_, d, rfl, fun h' => absurd h' h, fun _ => ?_⟩
    rw [Int.tmod_eq_emod_of_nonneg (by omega)]
    exact ⟨Int.emod_nonneg _ (by omega), Int.emod_lt_of_pos _ (by omega)⟩
theorem f_one (n x : Int) (hn : n ≤ 9223372036854775807) : ∃ b d, F_make_dice_one n x = some (b, d) := by
  unfold F_make_dice_one
  obtain ⟨r, d, h, _⟩ := f_to n x hn
  rw [h]
  exact ⟨_, _, rfl⟩
def sizeV (v : Int) : Int := if v < 0 then -v else v
def leftV (ln po v : Int) : Int := if v < 0 then po else ln - po
def goesV (ma s : Int) : Int := s / ma * s - ma * (s / ma * (s / ma + 1) / 2)
def Can (ma ln po v : Int) : Prop := 0 ≤ po ∧ po ≤ ln ∧ goesV ma (sizeV v) ≤ leftV ln po v
instance (ma ln po v : Int) : Decidable (Can ma ln po v) := by unfold Can; infer_instance
theorem tri (n : Int) : n * (n + 1) / 2 * 2 = n * (n + 1) := by
  have h : n * (n + 1) % 2 = 0 := by
    have : n % 2 = 0 ∨ n % 2 = 1 := by omega
    rcases this with h | h
    · rw [Int.mul_emod, h]; simp
    · rw [Int.mul_emod, Int.add_emod, h]; simp
  omega
theorem goes_bounds {ma s : Int} (h1 : 1 ≤ ma) (h0 : 0 ≤ s) (hs : s ≤ 33554432) :
    (0 ≤ s / ma ∧ s / ma ≤ 33554432) ∧ (0 ≤ s / ma * s ∧ s / ma * s ≤ 1125899906842624) ∧ (0 ≤ s / ma * (s / ma + 1) ∧ s / ma * (s / ma + 1) ≤ 1125899940397056) ∧
      (0 ≤ ma * (s / ma * (s / ma + 1) / 2) ∧ ma * (s / ma * (s / ma + 1) / 2) ≤ 1125899940397056) ∧ 0 ≤ goesV ma s := by
  have hn0 : 0 ≤ s / ma := Int.ediv_nonneg h0 (by omega)
  have hns : s / ma ≤ s := Int.ediv_le_self _ h0
  have hq : s / ma * ma ≤ s := Int.ediv_mul_le s (by omega)
  have hq0 : 0 ≤ s / ma * ma := Int.mul_nonneg hn0 (by omega)
  have ht := tri (s / ma)
  have e1 : ma * (s / ma * (s / ma + 1) / 2) * 2 = s / ma * ma * (s / ma + 1) := by
    rw [Int.mul_assoc, ht, ← Int.mul_assoc, Int.mul_comm ma]
  have m1 := mul_pq (x := s / ma) (y := s) (X := 33554432) (Y := 33554432) hn0 (by omega) h0 hs
  have m2 := mul_pq (x := s / ma) (y := s / ma + 1) (X := 33554432) (Y := 33554433) hn0 (by omega) (by omega) (by omega)
  have m3 := mul_pq (x := s / ma * ma) (y := s / ma + 1) (X := 33554432) (Y := 33554433) hq0 (by omega) (by omega) (by omega)
  have hg : 0 ≤ goesV ma s := by
    unfold goesV
    have k1 : s / ma * (s / ma * ma) ≤ s / ma * s := Int.mul_le_mul_of_nonneg_left hq hn0
    have k2 : s / ma * ma * (s / ma + 1) ≤ 2 * (s / ma * (s / ma * ma)) := by
      by_cases hz : s / ma = 0
      · rw [hz]; simp
      · have h3 : s / ma + 1 ≤ 2 * (s / ma) := by omega
        have := Int.mul_le_mul_of_nonneg_left h3 hq0
        have e : s / ma * ma * (2 * (s / ma)) = 2 * (s / ma * (s / ma * ma)) := by
          rw [Int.mul_left_comm, Int.mul_comm (s / ma * ma)]
        omega
    omega
  refine ⟨⟨hn0, by omega⟩, m1, m2, ⟨by omega, by omega⟩, hg⟩
theorem f_stops (cp lo hi rb rp ae ms ma an sl ss ro ti br : Int) (sg : List Sg) (gs : List Gp) (rt : List Int) (st v0 c0 c1 p0 p1 : Int) (tk : List Tick) (rd : List Rd) (ln po ve go t0 t1 ca di : Int) (a v : Int) (hma : 1 ≤ ma) (hln : 0 ≤ ln ∧ ln ≤ 140737488355328) (ha : -1125899906842624 ≤ a ∧ a ≤ 1125899906842624) (hv : -33554432 ≤ v ∧ v ≤ 33554432) :
    F_make_maker_stops cp lo hi rb rp ae ms ma an sl ss ro ti br sg gs rt st v0 c0 c1 p0 p1 tk rd ln po ve go t0 t1 ca a v = some (decide (Can ma ln a v)) := by
  unfold F_make_maker_stops
  have e : (Option.bind (bif decide (v < 0) then (let t21_37 : Int := (IntKind.wrap .i64 (0 - v)); some (a, t21_37)) else some (IntKind.wrap .i64 (ln - a), v)) : ((Int × Int) → Option Bool) → Option Bool) = fun K => K (leftV ln a v, sizeV v) := by
    funext K
    unfold leftV sizeV
    by_cases h : v < 0
    · rw [decide_eq_true h, if_pos h, if_pos h]
      simp only [cond_true, Option.bind_some]
      rw [wrap_ok (n := 0 - v) (by omega), Int.zero_sub]
    · rw [decide_eq_false h, if_neg h, if_neg h]
      simp only [cond_false, Option.bind_some]
      rw [wrap_ok (n := ln - a) (by omega)]
  simp only [] at e ⊢
  rw [e]
  simp only []
  by_cases hin : a < 0 ∨ ln < a
  · have : (bif decide (a < 0) then true else decide (ln < a)) = true := by
      rcases hin with h | h
      · rw [decide_eq_true h]; rfl
      · rw [decide_eq_true h]; cases decide (a < 0) <;> rfl
    rw [this, decide_eq_false (show ¬ Can ma ln a v from fun h => by unfold Can at h; omega)]
    rfl
  · have : (bif decide (a < 0) then true else decide (ln < a)) = false := by
      rw [decide_eq_false (show ¬ a < 0 by omega), decide_eq_false (show ¬ ln < a by omega)]; rfl
    have hs0 : 0 ≤ sizeV v := by unfold sizeV; split <;> omega
    have hs1 : sizeV v ≤ 33554432 := by unfold sizeV; split <;> omega
    obtain ⟨b1, b2, b3, b4, b5⟩ := goes_bounds hma hs0 hs1
    rw [this, show (!(ma == (0 : Int))) = true by rw [beq_false_of_ne (by omega)]; rfl, Int.tdiv_eq_ediv_of_nonneg hs0]
    simp only [cond_false, chk_yes]
    rw [wrap_ok (n := sizeV v / ma) (by omega), wrap_ok (n := sizeV v / ma * sizeV v) (by omega), wrap_ok (n := sizeV v / ma + 1) (by omega), wrap_ok (n := sizeV v / ma * (sizeV v / ma + 1)) (by omega)]
    rw [Int.tdiv_eq_ediv_of_nonneg b3.1, wrap_ok (n := sizeV v / ma * (sizeV v / ma + 1) / 2) (by omega), wrap_ok (n := ma * (sizeV v / ma * (sizeV v / ma + 1) / 2)) (by omega), wrap_ok (by omega)]
    refine congrArg some ?_
    rw [decide_eq_decide]
    unfold Can goesV
    constructor
    · intro h; exact ⟨by omega, by omega, h⟩
    · intro h; exact h.2.2
theorem goes_next {ma s : Int} (h1 : 1 ≤ ma) (hs : ma ≤ s) : goesV ma (s - ma) = goesV ma s - (s - ma) := by
  have e : (s - ma) / ma = s / ma - 1 := by
    rw [show s - ma = s + (-1) * ma by omega, Int.add_mul_ediv_right _ _ (by omega)]
    omega
  unfold goesV
  rw [e]
  have t1 := tri (s / ma)
  have t2 := tri (s / ma - 1)
  generalize s / ma = n at *
  have e3 : (n - 1) * (n - 1 + 1) = n * (n + 1) - 2 * n := by
    rw [show n - 1 + 1 = n by omega, Int.sub_mul, Int.mul_add]
    omega
  rw [e3] at t2 ⊢
  have e4 : (n * (n + 1) - 2 * n) / 2 = n * (n + 1) / 2 - n := by omega
  have e5 : (n - 1) * (s - ma) = n * s - n * ma - s + ma := by
    rw [Int.sub_mul, Int.mul_sub, Int.one_mul]
    omega
  have e6 : ma * (n * (n + 1) / 2 - n) = ma * (n * (n + 1) / 2) - n * ma := by rw [Int.mul_sub, Int.mul_comm ma n]
  rw [e4, e5, e6]
  omega
theorem can_brake {ma ln po v : Int} (h1 : 1 ≤ ma) (hv : -33554432 ≤ v ∧ v ≤ 33554432) (h : Can ma ln po v) :
    Can ma ln (po + (v - (if ma < (if -ma > v then -ma else v) then ma else (if -ma > v then -ma else v)))) (v - (if ma < (if -ma > v then -ma else v) then ma else (if -ma > v then -ma else v))) := by
  obtain ⟨a1, a2, a3⟩ := h
  have stop : ∀ p, 0 ≤ p → p ≤ ln → Can ma ln p 0 := by
    intro p p1 p2
    refine ⟨p1, p2, ?_⟩
    unfold goesV sizeV leftV
    simp
    omega
  by_cases c1 : ma < v
  · rw [if_neg (show ¬ -ma > v by omega), if_pos c1]
    have hs : sizeV v = v := by unfold sizeV; rw [if_neg (by omega)]
    have hl : leftV ln po v = ln - po := by unfold leftV; rw [if_neg (by omega)]
    rw [hs, hl] at a3
    have hn := goes_next (ma := ma) (s := v) h1 (by omega)
    obtain ⟨_, _, _, _, b5⟩ := goes_bounds (ma := ma) (s := v - ma) h1 (by omega) (by omega)
    refine ⟨by omega, by omega, ?_⟩
    have hs' : sizeV (v - ma) = v - ma := by unfold sizeV; rw [if_neg (by omega)]
    have hl' : leftV ln (po + (v - ma)) (v - ma) = ln - (po + (v - ma)) := by unfold leftV; rw [if_neg (by omega)]
    rw [hs', hl', hn]
    omega
  · by_cases c2 : v < -ma
    · rw [if_pos (show -ma > v by omega), if_neg (by omega), show v - -ma = v + ma by omega]
      have hs : sizeV v = -v := by unfold sizeV; rw [if_pos (by omega)]
      have hl : leftV ln po v = po := by unfold leftV; rw [if_pos (by omega)]
      rw [hs, hl] at a3
      have hn := goes_next (ma := ma) (s := -v) h1 (by omega)
      obtain ⟨_, _, _, _, b5⟩ := goes_bounds (ma := ma) (s := -v - ma) h1 (by omega) (by omega)
      refine ⟨by omega, by omega, ?_⟩
      have hs' : sizeV (v + ma) = -v - ma := by unfold sizeV; rw [if_pos (by omega)]; omega
      have hl' : leftV ln (po + (v + ma)) (v + ma) = po + (v + ma) := by unfold leftV; rw [if_pos (by omega)]
      rw [hs', hl', hn]
      omega
    · rw [if_neg (show ¬ -ma > v by omega), if_neg c1, Int.sub_self, Int.add_zero]
      exact stop po a1 a2
theorem f_speed (cp lo hi rb rp ae ms ma an sl ss ro ti br : Int) (sg : List Sg) (gs : List Gp) (rt : List Int) (st v0 c0 c1 p0 p1 : Int) (tk : List Tick) (rd : List Rd) (ln po ve go t0 t1 ca di : Int) (hms : 1 ≤ ms ∧ ms ≤ 16777216) (hma : 1 ≤ ma ∧ ma ≤ 1048576) (hln : ln ≤ 140737488355328) (hv : -ms ≤ ve ∧ ve ≤ ms) (hc : Can ma ln po ve) :
    ∃ v' go' di', F_make_maker_speed cp lo hi rb rp ae ms ma an sl ss ro ti br sg gs rt st v0 c0 c1 p0 p1 tk rd ln po ve go t0 t1 ca di = some (v', cp, lo, hi, rb, rp, ae, ms, ma, an, sl, ss, ro, ti, br, sg, gs, rt, st, v0, c0, c1, p0, p1, tk, rd, ln, po, ve, go', t0, t1, ca, di') ∧ Can ma ln (po + v') v' ∧ (-ms ≤ v' ∧ v' ≤ ms) ∧ -ma ≤ v' - ve ∧ v' - ve ≤ ma := by
  unfold F_make_maker_speed
  obtain ⟨b1, d1, h1⟩ := f_one 20 di (by decide)
  rw [h1, Option.bind_some]
  obtain ⟨g1, d2, hg⟩ : ∃ g1 d2, (bif b1 then (let t20_35 : Int := (IntKind.wrap .i64 ((2 : Int) * ms)); let t21_36 : Int := (IntKind.wrap .i64 (t20_35 + (1 : Int))); (F_make_dice_to t21_36 d1).bind fun t22_37 => let t28_38 : Int := (IntKind.wrap .i64 (ms.tdiv (2 : Int))); let t29_39 : Int := (IntKind.wrap .i64 (t22_37.1 - t28_38)); some (t29_39, t22_37.2)) else some (go, d1)) = some (g1, d2) := by
    cases b1 with
    | false => exact ⟨_, _, rfl⟩
    | true =>
      simp only [cond_true]
      obtain ⟨r, d, h, _⟩ := f_to (IntKind.i64.wrap (IntKind.i64.wrap (2 * ms) + 1)) d1 (by rw [IntKind.wrap_i64]; omega)
      rw [h]
      exact ⟨_, _, rfl⟩
  simp only [] at hg ⊢
  rw [hg, Option.bind_some]
  simp only []
  obtain ⟨b2, d3, h2⟩ := f_one 20 d2 (by decide)
  rw [h2, Option.bind_some]
  simp only []
  obtain ⟨g2, hg2⟩ : ∃ g2, (bif b2 then some (0 : Int) else some g1) = some g2 := by cases b2 <;> exact ⟨_, rfl⟩
  rw [hg2, Option.bind_some, wrap_ok (n := 0 - ms) (by omega), show (0 : Int) - ms = -ms by omega]
  obtain ⟨go2, hgo, q1, q2⟩ : ∃ go2, (if ms < (if -ms > g2 then -ms else g2) then ms else (if -ms > g2 then -ms else g2)) = go2 ∧ -ms ≤ go2 ∧ go2 ≤ ms := by
    refine ⟨_, rfl, ?_, ?_⟩ <;> (split <;> (try split) <;> omega)
  rw [hgo, wrap_ok (n := go2 - ve) (by omega), wrap_ok (n := 0 - ma) (by omega), show (0 : Int) - ma = -ma by omega]
  obtain ⟨st2, hst, q3, q4, q5, q6⟩ : ∃ st2, (if ma < (if -ma > go2 - ve then -ma else go2 - ve) then ma else (if -ma > go2 - ve then -ma else go2 - ve)) = st2 ∧ -ma ≤ st2 ∧ st2 ≤ ma ∧ -ms ≤ ve + st2 ∧ ve + st2 ≤ ms := by
    refine ⟨_, rfl, ?_, ?_, ?_, ?_⟩ <;> (split <;> (try split) <;> omega)
  have hc' := hc
  obtain ⟨y1', y2', y3'⟩ := hc
  rw [hst, wrap_ok (n := ve + st2) (by omega), wrap_ok (n := po + (ve + st2)) (by omega)]
  have hs := f_stops cp lo hi rb rp ae ms ma an sl ss ro ti br sg gs rt st v0 c0 c1 p0 p1 tk rd ln po ve g2 t0 t1 ca di (po + (ve + st2)) (ve + st2) hma.1 ⟨by omega, hln⟩ (by omega) (by omega)
  rw [hs, Option.bind_some]
  by_cases hcan : Can ma ln (po + (ve + st2)) (ve + st2)
  · rw [decide_eq_true hcan]
    exact ⟨_, _, _, rfl, hcan, ⟨q5, q6⟩, by omega, by omega⟩
  · rw [decide_eq_false hcan]
    simp only [cond_false]
    have hb := can_brake hma.1 (by omega) hc'
    obtain ⟨x, hx, y1, y2⟩ : ∃ x, (if ma < (if -ma > ve then -ma else ve) then ma else (if -ma > ve then -ma else ve)) = x ∧ (-ma ≤ x ∧ x ≤ ma) ∧ (-ms ≤ ve - x ∧ ve - x ≤ ms) := by
      refine ⟨_, rfl, ?_, ?_⟩ <;> constructor <;> (split <;> (try split) <;> omega)
    rw [hx] at hb ⊢
    rw [wrap_ok (n := ve - x) (by omega)]
    exact ⟨_, _, _, rfl, hb, y2, by omega, by omega⟩
theorem f_way (cp lo hi rb rp ae ms ma an sl ss ro ti br : Int) (sg : List Sg) (gs : List Gp) (rt : List Int) (st v0 c0 c1 p0 p1 : Int) (tk : List Tick) (rd : List Rd) (ln po ve go t0 t1 ca di : Int) (h1 : 1 ≤ sg.length) (h2 : sg.length ≤ 200) (hL : LensOK (sg, gs)) (hW : ∀ i, i < sg.length → (sg.getD i sg0).2.2.length ≤ 2 ∧ ∀ j, j < (sg.getD i sg0).2.2.length → 0 ≤ (sg.getD i sg0).2.2.getD j 0 ∧ (sg.getD i sg0).2.2.getD j 0 < sg.length) :
    ∃ (rt' : List Int) (st' di' : Int), F_make_maker_way cp lo hi rb rp ae ms ma an sl ss ro ti br sg gs rt st v0 c0 c1 p0 p1 tk rd ln po ve go t0 t1 ca di = some (cp, lo, hi, rb, rp, ae, ms, ma, an, sl, ss, ro, ti, br, sg, gs, rt', st', v0, c0, c1, p0, p1, tk, rd, startI (sg, gs) rt' rt'.length, st', ve, go, t0, t1, ca, di') ∧ routeB (sg, gs) rt' = true ∧ rt'.length ≤ 60 ∧ 0 ≤ st' ∧ st' ≤ startI (sg, gs) rt' rt'.length := by
  unfold F_make_maker_way
  obtain ⟨r, d, hr, _, hr2⟩ := f_to (sg.length : Int) di (by omega)
  obtain ⟨r1, r2⟩ := hr2 (by omega)
  rw [hr, Option.bind_some]
  simp only []
  have conv : ∀ o : Option _, (∃ y, o = some y ∧ ∃ (rt' : List Int) (st' di' : Int), y = (cp, lo, hi, rb, rp, ae, ms, ma, an, sl, ss, ro, ti, br, sg, gs, rt', st', v0, c0, c1, p0, p1, tk, rd, startI (sg, gs) rt' rt'.length, st', ve, go, t0, t1, ca, di') ∧ routeB (sg, gs) rt' = true ∧ rt'.length ≤ 60 ∧ 0 ≤ st' ∧ st' ≤ startI (sg, gs) rt' rt'.length) →
      ∃ (rt' : List Int) (st' di' : Int), o = some (cp, lo, hi, rb, rp, ae, ms, ma, an, sl, ss, ro, ti, br, sg, gs, rt', st', v0, c0, c1, p0, p1, tk, rd, startI (sg, gs) rt' rt'.length, st', ve, go, t0, t1, ca, di') ∧ routeB (sg, gs) rt' = true ∧ rt'.length ≤ 60 ∧ 0 ≤ st' ∧ st' ≤ startI (sg, gs) rt' rt'.length := by
    rintro o ⟨y, hy, rt', st', di', rfl, g1, g2, g3, g4⟩
    exact ⟨rt', st', di', hy, g1, g2, g3, g4⟩
  refine conv _ (bind_inv (fun s : List Int × Int => 1 ≤ s.1.length ∧ s.1.length ≤ 60 ∧ ∀ i, i < s.1.length → stepB (sg, gs) s.1 i = true) (fun s : List Int × Int => 60 - s.1.length) (fun s : List Int × Int => 1 ≤ s.1.length ∧ s.1.length ≤ 60 ∧ ∀ i, i < s.1.length → stepB (sg, gs) s.1 i = true) ?_ ?_ ?_)
  · refine ⟨by simp, by simp, fun i hi => ?_⟩
    have : i = 0 := by simpa using hi
    subst this
    unfold stepB
    simp only [List.getD_cons_zero, decide_true, Bool.true_or, Bool.and_true]
    rw [decide_eq_true r1, decide_eq_true r2]
    rfl
  · rintro ⟨l, d⟩ ⟨l1, l2, l3⟩
    simp only [] at l1 l2 l3 ⊢
    by_cases hl : l.length < 60
    · rw [decide_eq_true (show (l.length : Int) < 60 by omega), wrap_ok (n := (l.length : Int) - 1) (by omega), decide_eq_true (show (0 : Int) ≤ (l.length : Int) - 1 by omega), decide_eq_true (show (l.length : Int) - 1 < (l.length : Int) by omega), show ((l.length : Int) - 1).toNat = l.length - 1 by omega]
      have hlast := l3 (l.length - 1) (by omega)
      unfold stepB at hlast
      simp only [Bool.and_eq_true, decide_eq_true_eq] at hlast
      obtain ⟨⟨x1, x2⟩, _⟩ := hlast
      simp only [cond_true, Bool.and_self, chk_yes, sg_def]
      rw [decide_eq_true x1, decide_eq_true x2]
      simp only [Bool.and_self, chk_yes]
      have hw := hW (l.getD (l.length - 1) 0).toNat (by omega)
      by_cases hz : (sg.getD (l.getD (l.length - 1) 0).toNat sg0).2.2.length = 0
      · rw [hz]
        exact .inl ⟨_, rfl, l1, l2, l3⟩
      · rw [beq_false_of_ne (show ((sg.getD (l.getD (l.length - 1) 0).toNat sg0).2.2.length : Int) ≠ 0 by omega)]
        simp only [cond_false]
        obtain ⟨r, d', hr, _, hr2⟩ := f_to ((sg.getD (l.getD (l.length - 1) 0).toNat sg0).2.2.length : Int) d (by omega)
        obtain ⟨r1, r2⟩ := hr2 (by omega)
        rw [hr, Option.bind_some]
        simp only []
        rw [decide_eq_true r1, decide_eq_true r2]
        simp only [Bool.and_self, chk_yes]
        rw [chk_yes (by simp; omega)]
        refine .inr ⟨_, rfl, ⟨by simp, by simp; omega, fun i hi => ?_⟩, by simp; omega⟩
        have hn := hw.2 r.toNat (by omega)
        by_cases hi2 : i < l.length
        · have := l3 i hi2
          unfold stepB at this ⊢
          rw [getD_append_left hi2]
          by_cases h0 : i = 0
          · rw [h0] at this ⊢; simpa using this
          · rw [getD_append_left (show i - 1 < l.length by omega)]; exact this
        · have hie : i = l.length := by simp at hi; omega
          subst hie
          unfold stepB followsB
          rw [getD_append_left (show l.length - 1 < l.length by omega), getD_append_end]
          rw [decide_eq_true hn.1, decide_eq_true hn.2, decide_eq_true x1, decide_eq_true x2, decide_eq_false (show ¬ l.length = 0 by omega)]
          simp only [Bool.and_self, Bool.true_and, Bool.false_or]
          unfold anyB
          rw [List.any_eq_true]
          exact ⟨r.toNat, List.mem_range.2 (by omega), beq_self_eq_true _⟩
    · rw [decide_eq_false (show ¬ (l.length : Int) < 60 by omega)]
      exact .inl ⟨_, rfl, l1, l2, l3⟩
  · rintro ⟨l, d⟩ ⟨l1, l2, l3⟩
    simp only [] at l1 l2 l3 ⊢
    have hro : routeB (sg, gs) l = true := by
      unfold routeB
      rw [decide_eq_true l1, decide_eq_true (show l.length ≤ 400 by omega)]
      exact List.all_eq_true.2 fun i hi => l3 i (List.mem_range.1 hi)
    obtain ⟨_, _, hin⟩ := route_in hro
    have hb := start_bound hL hin l.length (Nat.le_refl _)
    rw [f_Start (sg, gs) l l.length (Nat.le_refl _) (by omega) hL hin, Option.bind_some]
    generalize hS : startI (sg, gs) l l.length = S at *
    rw [wrap_ok (n := S + 1) (by omega)]
    obtain ⟨m, hm, m1, m2⟩ : ∃ m, (if (1073741824 : Int) < S + 1 then 1073741824 else S + 1) = m ∧ 1 ≤ m ∧ m ≤ S + 1 := ⟨_, rfl, by split <;> omega, by split <;> omega⟩
    rw [hm]
    obtain ⟨r, d', hr, _, hr2⟩ := f_to m d (by omega)
    obtain ⟨r1, r2⟩ := hr2 m1
    rw [hr, Option.bind_some]
    exact ⟨_, rfl, l, r, d', by rw [hS], hro, l2, r1, by rw [hS]; omega⟩
end Go.Proofs.YtlkcanjbgaeceaaGreat
