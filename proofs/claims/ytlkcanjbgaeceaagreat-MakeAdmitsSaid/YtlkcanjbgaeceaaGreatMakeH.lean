/- The maker of scripts: one cycle. -/
import Derived.Test.YtlkcanjbgaeceaaGreatMakeG
set_option linter.unusedSimpArgs false
set_option linter.unusedVariables false
namespace Go.Proofs.YtlkcanjbgaeceaaGreat
open Go.RowKit
structure StepOK (c : Cf) (c0 c1 t0 t1 ca : Int) (k : Nat) (y : Tick) (ca' : Int) : Prop where
  slips : (-1099511627776 ≤ y.2.1.1 ∧ y.2.1.1 ≤ 1099511627776) ∧ -1099511627776 ≤ y.2.1.2 ∧ y.2.1.2 ≤ 1099511627776
  radar : -1073741824 ≤ y.2.2.1 ∧ y.2.2.1 ≤ 1073741824
  acc : -c.2.2.2.2.2.1 ≤ y.2.2.2.1 ∧ y.2.2.2.1 ≤ c.2.2.2.2.2.1
  junk : y.2.2.2.2.2.1 = []
  calm : 0 ≤ ca' ∧ ca' ≤ 1000000
  right : (y.2.1 = (0, 0) ∧ (-c.2.2.2.1 ≤ y.2.2.1 ∧ y.2.2.1 ≤ c.2.2.2.1) ∧ (lostAny y = true → 1 ≤ ca')) ∨
    (0 < k ∧ ca = 0 ∧ lostAny y = false ∧ showB c c0 c1 t0 t1 y = false ∧
      ((y.2.1.2 = 0 ∧ -c.2.2.2.1 ≤ y.2.2.1 ∧ y.2.2.1 ≤ c.2.2.2.1) ∨ (y.2.1.1 = 0 ∧ -c.2.2.2.1 ≤ y.2.2.1 ∧ y.2.2.1 ≤ c.2.2.2.1) ∨ y.2.1 = (0, 0)))
theorem f_tick (cp lo hi rb rp ae ms ma an sl ss ro ti br : Int) (sg : List Sg) (gs : List Gp) (rt : List Int) (st v0 c0 c1 p0 p1 : Int) (tk : List Tick) (rd : List Rd) (ln po ve go t0 t1 ca di : Int) (k : Nat) (h : NumM lo hi cp rp c0 c1 t0 t1) (hhi : 0 ≤ hi ∧ hi ≤ 8388608) (hms : 1 ≤ ms ∧ ms ≤ 16777216) (hma : 1 ≤ ma ∧ ma ≤ 1048576) (hae : 0 ≤ ae ∧ ae ≤ 1048576) (hrb : 0 ≤ rb ∧ rb ≤ 1048576) (hln : ln ≤ 140737488355328) (hv : -ms ≤ ve ∧ ve ≤ ms) (hc : Can ma ln po ve) (hca : 0 ≤ ca ∧ ca ≤ 1000000) (htk : tk.length ≤ 4096) (hL : LensOK (sg, gs)) (hr : ∀ i, i < rt.length → 0 ≤ rt.getD i 0 ∧ rt.getD i 0 < sg.length) (hrl : rt.length ≤ 60) (hgl : gs.length ≤ 400) (hg : ∀ i, i < gs.length → 0 ≤ (gs.getD i gp0).2.2.1 ∧ (gs.getD i gp0).2.2.1 ≤ 1099511627776) (hrd : rd.length ≤ 10000) :
    ∃ (y : Tick) (rd' : List Rd) (go' ca' di' : Int), F_make_maker_tick (k : Int) cp lo hi rb rp ae ms ma an sl ss ro ti br sg gs rt st v0 c0 c1 p0 p1 tk rd ln po ve go t0 t1 ca di = some (cp, lo, hi, rb, rp, ae, ms, ma, an, sl, ss, ro, ti, br, sg, gs, rt, st, v0, c0, c1, p0, p1, tk ++ [y], rd', ln, po + y.1, y.1, go', IntKind.i64.wrap (t0 + moreI cp y.1 y.2.1.1), IntKind.i64.wrap (t1 + moreI cp y.1 y.2.1.2), ca', di') ∧
      StepOK (cp, lo, hi, rb, rp, ae, ms, ma, an, sl, ss, ro, ti, br) c0 c1 t0 t1 ca k y ca' ∧ Can ma ln (po + y.1) y.1 ∧ (-ms ≤ y.1 ∧ y.1 ≤ ms) ∧ (-ma ≤ y.1 - ve ∧ y.1 - ve ≤ ma) ∧ (rd' = rd ∨ ∃ r, rd' = rd ++ [r] ∧ PassOK (sg, gs) rt (k : Int) po (po + y.1) r) := by
  unfold F_make_maker_tick
  obtain ⟨v', g1, d1, hs, hcan, hv', ha1, ha2⟩ := f_speed cp lo hi rb rp ae ms ma an sl ss ro ti br sg gs rt st v0 c0 c1 p0 p1 tk rd ln po ve go t0 t1 ca di hms hma hln hv hc
  have hcan' := hcan
  obtain ⟨z1, z2, _⟩ := hcan'
  rw [hs, Option.bind_some]
  simp only []
  rw [wrap_ok (n := 2 * ae) (by omega), wrap_ok (n := 2 * ae + 1) (by omega)]
  obtain ⟨r1, d2, h1, _, hj1⟩ := f_to (2 * ae + 1) d1 (by omega)
  obtain ⟨j1, j2⟩ := hj1 (by omega)
  rw [h1, Option.bind_some]
  simp only []
  rw [wrap_ok (n := r1 - ae) (by omega), wrap_ok (n := 2 * rb) (by omega), wrap_ok (n := 2 * rb + 1) (by omega)]
  obtain ⟨r2, d3, h2, _, hj2⟩ := f_to (2 * rb + 1) d2 (by omega)
  obtain ⟨j3, j4⟩ := hj2 (by omega)
  rw [h2, Option.bind_some]
  simp only []
  rw [wrap_ok (n := r2 - rb) (by omega)]
  by_cases hz : v' = 0
  · rw [show (v' != 0) = false by rw [hz]; rfl]
    simp only [Bool.not_false, cond_true, cond_false]
    obtain ⟨b, d3', h3⟩ := f_one 2 d3 (by decide)
    rw [h3, Option.bind_some]
    simp only []
    by_cases hk : 0 < k
    · rw [decide_eq_true (show (0 : Int) < (k : Int) by omega)]
      simp only [cond_true]
      obtain ⟨s0, s1, r', b0, b1, b2, b3, ca', d4, hf, F, hca2⟩ := f_fault cp lo hi rb rp ae ms ma an sl ss ro ti br sg gs rt st v0 c0 c1 p0 p1 tk rd ln po ve g1 t0 t1 ca d3' v' (r2 - rb) (r1 - ae) b h hhi hms (by omega) hca
      rw [hf]
      simp only [Option.bind_some]
      obtain ⟨rd', d5, hrd', hp⟩ := f_mread cp lo hi rb rp ae ms ma an sl ss ro ti br sg gs rt st v0 c0 c1 p0 p1 tk rd ln po ve g1 t0 t1 ca' d4 (k : Int) (po + v') hL hr hrl hgl hg hrd
      rw [wrap_ok (n := po + v') (by omega), hrd']
      simp only [Option.bind_some]
      rw [wrap_ok (n := po + v') (by omega), chk_yes (by simp; omega)]
      refine ⟨(v', (s0, s1), r', r1 - ae, (b0, b1, b2, b3), [], b), rd', g1, ca', d5, rfl, ⟨F.slips, F.radar, by simp only; omega, rfl, ⟨F.calm, hca2⟩, ?_⟩, hcan, hv', ⟨ha1, ha2⟩, hp⟩
      rcases F.right with ⟨q1, q2, q3⟩ | ⟨q1, q2, q3, q4⟩
      · simp only at q2
        exact .inl ⟨q1, by simp only; omega, q3⟩
      · refine .inr ⟨hk, q1, q2, q3, ?_⟩
        simp only at q4 ⊢
        rcases q4 with ⟨u1, u2⟩ | ⟨u1, u2⟩ | u
        · exact .inl ⟨u1, by omega⟩
        · exact .inr (.inl ⟨u1, by omega⟩)
        · exact .inr (.inr u)
    · have hk0 : k = 0 := by omega
      rw [decide_eq_false (show ¬ (0 : Int) < (k : Int) by omega)]
      simp only [cond_false, Option.bind_some]
      obtain ⟨rd', d5, hrd', hp⟩ := f_mread cp lo hi rb rp ae ms ma an sl ss ro ti br sg gs rt st v0 c0 c1 p0 p1 tk rd ln po ve g1 t0 t1 ca d3' (k : Int) (po + v') hL hr hrl hgl hg hrd
      rw [wrap_ok (n := po + v') (by omega), hrd']
      simp only [Option.bind_some]
      rw [wrap_ok (n := po + v') (by omega), chk_yes (by simp; omega)]
      exact ⟨(v', (0, 0), r2 - rb, r1 - ae, (false, false, false, false), [], b), rd', g1, ca, d5, rfl, ⟨⟨by simp, by simp⟩, by simp only; omega, by simp only; omega, rfl, hca, .inl ⟨rfl, by simp only; omega, fun h => by cases h⟩⟩, hcan, hv', ⟨ha1, ha2⟩, hp⟩
  · rw [show (v' != 0) = true by simp [hz]]
    simp only [Bool.not_true, cond_true, cond_false]
    by_cases hk : 0 < k
    · rw [decide_eq_true (show (0 : Int) < (k : Int) by omega)]
      simp only [cond_true]
      obtain ⟨s0, s1, r', b0, b1, b2, b3, ca', d4, hf, F, hca2⟩ := f_fault cp lo hi rb rp ae ms ma an sl ss ro ti br sg gs rt st v0 c0 c1 p0 p1 tk rd ln po ve g1 t0 t1 ca d3 v' (r2 - rb) (r1 - ae) true h hhi hms (by omega) hca
      rw [hf]
      simp only [Option.bind_some]
      obtain ⟨rd', d5, hrd', hp⟩ := f_mread cp lo hi rb rp ae ms ma an sl ss ro ti br sg gs rt st v0 c0 c1 p0 p1 tk rd ln po ve g1 t0 t1 ca' d4 (k : Int) (po + v') hL hr hrl hgl hg hrd
      rw [wrap_ok (n := po + v') (by omega), hrd']
      simp only [Option.bind_some]
      rw [wrap_ok (n := po + v') (by omega), chk_yes (by simp; omega)]
      refine ⟨(v', (s0, s1), r', r1 - ae, (b0, b1, b2, b3), [], true), rd', g1, ca', d5, rfl, ⟨F.slips, F.radar, by simp only; omega, rfl, ⟨F.calm, hca2⟩, ?_⟩, hcan, hv', ⟨ha1, ha2⟩, hp⟩
      rcases F.right with ⟨q1, q2, q3⟩ | ⟨q1, q2, q3, q4⟩
      · simp only at q2
        exact .inl ⟨q1, by simp only; omega, q3⟩
      · refine .inr ⟨hk, q1, q2, q3, ?_⟩
        simp only at q4 ⊢
        rcases q4 with ⟨u1, u2⟩ | ⟨u1, u2⟩ | u
        · exact .inl ⟨u1, by omega⟩
        · exact .inr (.inl ⟨u1, by omega⟩)
        · exact .inr (.inr u)
    · have hk0 : k = 0 := by omega
      rw [decide_eq_false (show ¬ (0 : Int) < (k : Int) by omega)]
      simp only [cond_false, Option.bind_some]
      obtain ⟨rd', d5, hrd', hp⟩ := f_mread cp lo hi rb rp ae ms ma an sl ss ro ti br sg gs rt st v0 c0 c1 p0 p1 tk rd ln po ve g1 t0 t1 ca d3 (k : Int) (po + v') hL hr hrl hgl hg hrd
      rw [wrap_ok (n := po + v') (by omega), hrd']
      simp only [Option.bind_some]
      rw [wrap_ok (n := po + v') (by omega), chk_yes (by simp; omega)]
      exact ⟨(v', (0, 0), r2 - rb, r1 - ae, (false, false, false, false), [], true), rd', g1, ca, d5, rfl, ⟨⟨by simp, by simp⟩, by simp only; omega, by simp only; omega, rfl, hca, .inl ⟨rfl, by simp only; omega, fun h => by cases h⟩⟩, hcan, hv', ⟨ha1, ha2⟩, hp⟩
end Go.Proofs.YtlkcanjbgaeceaaGreat
