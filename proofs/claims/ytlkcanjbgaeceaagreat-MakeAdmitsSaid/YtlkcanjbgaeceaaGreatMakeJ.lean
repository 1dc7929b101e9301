/- The maker of scripts: groups that are read; the whole. -/
import Derived.Test.YtlkcanjbgaeceaaGreatMakeI
set_option linter.unusedSimpArgs false
set_option linter.unusedVariables false
namespace Go.Proofs.YtlkcanjbgaeceaaGreat
open Go.RowKit
theorem find_grp {t : Tk} (hl : t.2.length ≤ 400) (hG : ∀ i, i < t.2.length → grpB t i (t.2.getD i gp0) = true) {g : Nat} (hg : g < t.2.length) : F_track_Track_Find t (t.2.getD g gp0).1 = some ((g : Int), true) := by
  have hm := ids_le hG
  obtain ⟨r, e, h1, h2, h3⟩ := f_Find t (t.2.getD g gp0).1 (by omega) hm
  have hrg : r = g := by
    by_cases c1 : g < r
    · have := h2 g c1; omega
    · by_cases c2 : r < g
      · have a1 := h3 r (Nat.le_refl _) (by omega)
        have a2 := hm r (g - 1) (by omega) (by omega)
        have a3 := hG g hg
        unfold grpB at a3
        simp only [Bool.and_eq_true, Bool.or_eq_true, decide_eq_true_eq] at a3
        omega
      · omega
  subst hrg
  rw [e, decide_eq_true hg]
  simp
theorem nom_pass {t : Tk} {rt : List Int} (hO : OnT t rt) (hG : ∀ i, i < t.2.length → grpB t i (t.2.getD i gp0) = true) (hoff : ∀ i, i < t.2.length → 0 ≤ (t.2.getD i gp0).2.2.1 ∧ (t.2.getD i gp0).2.2.1 ≤ 1099511627776) {k po to : Int} {r : Rd} (h : PassOK t rt k po to r) :
    nomV t rt r = (r.2.2.2, true) ∧ ∃ g : Nat, g < t.2.length ∧ grpOf t r.2.2.1 = t.2.getD g gp0 := by
  obtain ⟨_, i, g, hi, hg, e1, e2, e3, e4, _, _⟩ := h
  have hf := find_grp hO.glen hG hg
  have hb := start_bound hO.lens hO.rin i (by omega)
  have hrl := hO.rlen
  have ho := hoff g hg
  refine ⟨?_, g, hg, ?_⟩
  · unfold nomV F_world_Nominal
    rw [e3, hf, Option.bind_some]
    simp only []
    rw [e1, decide_eq_false (show ¬ (i : Int) < 0 by omega), decide_eq_false (show ¬ (rt.length : Int) ≤ i by omega), decide_eq_true (show (0 : Int) ≤ i by omega), decide_eq_true (show (i : Int) < rt.length by omega), decide_eq_true (show (0 : Int) ≤ g by omega), decide_eq_true (show (g : Int) < t.2.length by omega)]
    simp only [Bool.not_true, cond_false, Bool.and_self, Bool.true_or, chk_yes, Int.toNat_natCast, gp_def]
    rw [e2, show (rt.getD i 0 != rt.getD i 0) = false by simp]
    simp only [cond_false]
    rw [f_Start t rt i (by omega) hO.rlen hO.lens hO.rin, Option.bind_some, wrap_ok (n := startI t rt i + (t.2.getD g gp0).2.2.1) (by omega), e4]
    rfl
  · unfold grpOf
    rw [e3, hf]
    simp
theorem read_good {t : Tk} {rt : List Int} {st an : Int} {tk : List Tick} {rd : List Rd} {j : Nat} (han : 0 ≤ an ∧ an ≤ 1048576) (hO : OnT t rt) (hG : ∀ i, i < t.2.length → grpB t i (t.2.getD i gp0) = true)
    (hoff : ∀ i, i < t.2.length → (0 ≤ (t.2.getD i gp0).2.2.1 ∧ (t.2.getD i gp0).2.2.1 ≤ 1099511627776) ∧ 0 ≤ (t.2.getD i gp0).2.2.2.1 ∧ (t.2.getD i gp0).2.2.2.1 ≤ 1048576) (h : RdOK t rt st tk rd j) : readK t rt an st (placesL st tk) tk.length rd j = true := by
  obtain ⟨k, hk, hp, hlt⟩ := h
  obtain ⟨n1, g, hg, n2⟩ := nom_pass hO hG (fun i hi => (hoff i hi).1) hp
  have ho := (hoff g hg).2
  obtain ⟨e1, i, g', _, _, _, _, _, _, b1, b2⟩ := hp
  unfold readK readB
  rw [n1, n2, e1, decide_eq_true (show prevC rd j < (k : Int) by omega), decide_eq_true (show (k : Int) < tk.length by omega), Int.toNat_natCast]
  have p1 : (placesL st tk).getD k 0 = posI st tk (k + 1) := by unfold placesL; rw [map_getD hk]
  have p0 : aheadI st (placesL st tk) (k : Int) = posI st tk k := by
    unfold aheadI
    by_cases h0 : k = 0
    · subst h0; rfl
    · rw [if_pos (by omega), show ((k : Int) - 1).toNat = k - 1 by omega]
      unfold placesL
      rw [map_getD (by omega), show k - 1 + 1 = k by omega]
  rw [p1, p0, decide_eq_true b1, decide_eq_true b2, Int.sub_self, wrap_ok (n := (0 : Int)) (by decide), wrap_ok (n := (t.2.getD g gp0).2.2.2.1 + an) (by omega)]
  unfold withW
  rw [wrap_ok (by omega), decide_eq_true (by omega), decide_eq_true (by omega)]
  rfl
theorem minv_admits {c : Cf} {t : Tk} {rt : List Int} {st v0 c0 c1 p0 p1 : Int} {n : Nat} {tk : List Tick} {rd : List Rd} {po ve t0 t1 ca : Int} (hf : (fitsR c t).1 = 0) (hr : routeB t rt = true) (hst : 0 ≤ st ∧ st ≤ startI t rt rt.length) (hv0 : -c.2.2.2.2.2.2.1 ≤ v0 ∧ v0 ≤ c.2.2.2.2.2.2.1)
    (hw : (wheelB c.2.1 c.2.2.1 c0 p0 && wheelB c.2.1 c.2.2.1 c1 p1) = true) (hn : n ≤ 4096) (h : MInv c t rt (startI t rt rt.length) st v0 c0 c1 p0 p1 n tk rd po ve t0 t1 ca) : Admits c t (rt, st, v0, (c0, c1), (p0, p1), tk, rd) := by
  obtain ⟨hw', hc'⟩ := fits_ok hf
  obtain ⟨k1, k2, k3, k4, k5⟩ := check_ok' hc'
  have hlen := h.len
  obtain ⟨_, hr2, hr3⟩ := route_in hr
  refine ⟨hf, hr, ?_, ?_, hw, ?_, ?_, ?_, ?_⟩
  · simp only
    unfold onB
    simp only [Bool.and_eq_true, decide_eq_true_eq, List.all_eq_true, List.mem_range]
    refine ⟨⟨⟨by omega, hst.1⟩, hst.2⟩, fun i hi => ?_⟩
    have hp : ∀ i, i ≤ n → 0 ≤ posI st tk i ∧ posI st tk i ≤ startI t rt rt.length := by
      intro i hi
      cases i with
      | zero => exact hst
      | succ i =>
        obtain ⟨_, _, _, _, q, _⟩ := h.good i (by omega)
        exact q
    have q0 := hp i (by omega)
    have q1 := hp (i + 1) (by omega)
    have e : posI st tk (i + 1) = posI st tk i + (tk.getD i tk0).1 := rfl
    unfold onAt
    rw [Bool.and_eq_true, Bool.and_eq_true, decide_eq_true_eq, decide_eq_true_eq]
    exact ⟨with_iff.2 (by omega), q1⟩
  · simp only
    unfold speedsB
    rw [Bool.and_eq_true]
    refine ⟨with_iff.2 hv0, List.all_eq_true.2 fun i hi => ?_⟩
    rw [List.mem_range] at hi
    obtain ⟨_, _, _, _, _, q1, q2⟩ := h.good i (by omega)
    unfold speedAt
    rw [Bool.and_eq_true]
    exact ⟨with_iff.2 q1, with_iff.2 q2⟩
  · simp only
    unfold numbersB
    refine List.all_eq_true.2 fun i hi => ?_
    rw [List.mem_range] at hi
    obtain ⟨_, _, q, _⟩ := h.good i (by omega)
    unfold numAt
    simp only [Bool.and_eq_true, with_iff]
    have a1 := q.slips
    have a2 := q.radar
    have a3 := q.acc
    exact ⟨⟨⟨a1.1, a1.2⟩, a2⟩, a3⟩
  · intro k hk
    simp only at hk ⊢
    exact sens_good hw' hk (h.good k (by omega))
  · intro k hk
    simp only at hk ⊢
    have hO : OnT t rt := ⟨k3, ids_le k5, lens_ok k4, hr2, hr3⟩
    have han : 0 ≤ c.2.2.2.2.2.2.2.2.1 ∧ c.2.2.2.2.2.2.2.2.1 ≤ 1048576 := by
      obtain ⟨cp, lo, hi, rb, rp, ae, ms, ma, an, sl, ss, ro, ti, br⟩ := c
      exact (right_iff.1 hw').han
    refine read_good han hO k5 (fun i hi => ?_) (h.rord k hk)
    obtain ⟨g1, g2, g3, g4, g5, g6, g7, _⟩ := grp_facts k2 k4 (k5 i hi)
    exact ⟨⟨g3, by omega⟩, g6, g7⟩
  · intro k hk
    simp only at hk ⊢
    obtain ⟨_, _, q, _⟩ := h.good k (by omega)
    unfold junkAt
    rw [q.junk]
    rfl
end Go.Proofs.YtlkcanjbgaeceaaGreat
