/- The maker of scripts: the whole. -/
import Derived.Test.YtlkcanjbgaeceaaGreatMakeJ
set_option linter.unusedSimpArgs false
set_option linter.unusedVariables false
namespace Go.Proofs.YtlkcanjbgaeceaaGreat
open Go.RowKit
abbrev MSt := Int × Int × Int × Int × Int × Int × List Gp × Int × List Rd × Int × Int × Int × Int × Int × Int × Int × Int × List Sg × Int × List Tick × Int × Int × Int × Int × Int × Int × Int × Int × List Int × Int × Int × Int × Int × Int
abbrev MRs := Int × Int × Int × Int × Int × Int × List Gp × Int × List Rd × Int × Int × Int × Int × Int × Int × Int × Int × List Sg × Int × List Tick × Int × Int × Int × Int × Int × Int × Int × List Int × Int × Int × Int × Int × Int
def scr0 : Scr := ([], 0, 0, (0, 0), (0, 0), [], [])
theorem wheel_made (lo hi di : Int) (hlo : 131072 ≤ lo) (hhi : lo ≤ hi ∧ hi ≤ 8388608) : ∃ r ph d1 d2 : Int, F_make_dice_to (IntKind.i64.wrap (IntKind.i64.wrap (hi - lo) + 1)) di = some (r, d1) ∧ IntKind.i64.wrap (lo + r) = lo + r ∧ F_make_dice_to (lo + r) d1 = some (ph, d2) ∧ wheelB lo hi (lo + r) ph = true := by
  rw [wrap_ok (n := hi - lo) (by omega), wrap_ok (n := hi - lo + 1) (by omega)]
  obtain ⟨r, d1, h1, _, k1⟩ := f_to (hi - lo + 1) di (by omega)
  obtain ⟨a1, a2⟩ := k1 (by omega)
  obtain ⟨ph, d2, h2, _, k2⟩ := f_to (lo + r) d1 (by omega)
  obtain ⟨b1, b2⟩ := k2 (by omega)
  refine ⟨r, ph, d1, d2, h1, wrap_ok (by omega), h2, ?_⟩
  unfold wheelB
  rw [decide_eq_true (by omega), decide_eq_true (by omega), decide_eq_true (by omega), decide_eq_true (by omega)]
  rfl
theorem f_Make_no (c : Cf) (t : Tk) (seed n : Int) (hs : t.1.length ≤ 200 → ∀ s ∈ t.1, s.2.1.length ≤ big ∧ s.2.2.length ≤ big) (h : (fitsR c t).1 ≠ 0 ∨ n < 0 ∨ 4096 < n) : F_make_Make c t seed n = some (scr0, false) := by
  unfold F_make_Make
  rw [f_Fits c t hs, Option.bind_some]
  simp only []
  have e : (bif (bif (fitsR c t).1 != 0 then true else decide (n < 0)) then true else decide (4096 < n)) = true := by
    rcases h with h | h | h
    · rw [show ((fitsR c t).1 != 0) = true by simp [h]]; rfl
    · rw [decide_eq_true h]; cases ((fitsR c t).1 != 0) <;> rfl
    · rw [decide_eq_true h]; cases ((fitsR c t).1 != 0) <;> cases decide (n < 0) <;> rfl
  rw [e]
  rfl
def Made (c : Cf) (t : Tk) (n : Int) (s : Scr) : Prop :=
  Admits c t s ∧ (s.2.2.2.2.2.1.length : Int) = n ∧ s.2.2.2.2.2.2.length ≤ s.2.2.2.2.2.1.length ∧ (1 ≤ s.1.length ∧ s.1.length ≤ 60) ∧ (I64 s.2.2.2.1.1 ∧ I64 s.2.2.2.1.2) ∧ ∀ y ∈ s.2.2.2.2.2.1, y.2.2.2.2.2.1 = []
theorem f_Make (c : Cf) (t : Tk) (seed n : Int) (hs : t.1.length ≤ 200 → ∀ s ∈ t.1, s.2.1.length ≤ big ∧ s.2.2.length ≤ big) (hf : (fitsR c t).1 = 0) (hn0 : 0 ≤ n) (hn : n ≤ 4096) : ∃ s, F_make_Make c t seed n = some (s, true) ∧ Made c t n s := by
  unfold F_make_Make
  rw [f_Fits c t hs, Option.bind_some]
  simp only []
  obtain ⟨hw, hc⟩ := fits_ok hf
  obtain ⟨k1, k2, k3, k4, k5⟩ := check_ok' hc
  have e : (bif (bif (fitsR c t).1 != 0 then true else decide (n < 0)) then true else decide (4096 < n)) = false := by
    rw [show ((fitsR c t).1 != 0) = false by simp [hf], decide_eq_false (by omega), decide_eq_false (by omega)]; rfl
  rw [e]
  obtain ⟨cp, lo, hi, rb, rp, ae, ms, ma, an, sl, ss, ro, ti, br⟩ := c
  obtain ⟨sg, gs⟩ := t
  have R := right_iff.1 hw
  have hL : LensOK (sg, gs) := lens_ok k4
  have hW : ∀ i, i < sg.length → (sg.getD i sg0).2.2.length ≤ 2 ∧ ∀ j, j < (sg.getD i sg0).2.2.length → 0 ≤ (sg.getD i sg0).2.2.getD j 0 ∧ (sg.getD i sg0).2.2.getD j 0 < sg.length := by
    intro i hi
    have h := k4 i hi
    unfold segB at h
    simp only [Bool.and_eq_true, decide_eq_true_eq, List.all_eq_true, List.mem_range] at h
    refine ⟨h.1.2, fun j hj => ?_⟩
    have := h.2 j hj
    unfold wayB at this
    simp only [Bool.and_eq_true, decide_eq_true_eq] at this
    exact this.1
  obtain ⟨rt, st, d0, hway, hro, hr60, hst⟩ := f_way cp lo hi rb rp ae ms ma an sl ss ro ti br sg gs ([]) 0 0 0 0 0 0 ([]) ([]) 0 0 0 0 0 0 0 seed k1 k2 hL hW
  obtain ⟨hr1, _, hrin⟩ := route_in hro
  have hb := start_bound hL hrin rt.length (Nat.le_refl _)
  have hhi := R.hhi
  have hlo := R.hlo
  have hms := R.hms
  have hma := R.hma
  obtain ⟨r0, p0, d1, d2, e1, e2, e3, w0⟩ := wheel_made lo hi d0 R.hlo.1 R.hhi
  obtain ⟨r1, p1, d3, d4, e4, e5, e6, w1⟩ := wheel_made lo hi d2 R.hlo.1 R.hhi
  simp only [cond_false]
  rw [hway]
  simp only [Option.bind_some]
  rw [e1]
  simp only [Option.bind_some]
  rw [e2, e3]
  simp only [Option.bind_some]
  rw [e4]
  simp only [Option.bind_some]
  rw [e5, e6]
  simp only [Option.bind_some]
  obtain ⟨c0, hc0⟩ : ∃ c0, lo + r0 = c0 := ⟨_, rfl⟩
  obtain ⟨c1, hc1⟩ : ∃ c1, lo + r1 = c1 := ⟨_, rfl⟩
  rw [hc0] at w0 ⊢
  rw [hc1] at w1 ⊢
  have wh : (wheelB lo hi c0 p0 && wheelB lo hi c1 p1) = true := by rw [w0, w1]; rfl
  unfold wheelB at w0 w1
  simp only [Bool.and_eq_true, decide_eq_true_eq] at w0 w1
  obtain ⟨L, hLe⟩ : ∃ L, startI (sg, gs) rt rt.length = L := ⟨_, rfl⟩
  rw [hLe] at hst hb ⊢
  have hgr : ∀ i, i < gs.length → 0 ≤ (gs.getD i gp0).2.2.1 ∧ (gs.getD i gp0).2.2.1 ≤ 1099511627776 := by
    intro i hi
    obtain ⟨g1, g2, g3, g4, g5, _⟩ := grp_facts k2 k4 (k5 i hi)
    exact ⟨g3, Int.le_trans g4 g5⟩
  have conv : ∀ o : Option (Scr × Bool), (∃ y, o = some y ∧ ∃ s, y = (s, true) ∧ Made (cp, lo, hi, rb, rp, ae, ms, ma, an, sl, ss, ro, ti, br) (sg, gs) n s) → ∃ s, o = some (s, true) ∧ Made (cp, lo, hi, rb, rp, ae, ms, ma, an, sl, ss, ro, ti, br) (sg, gs) n s := by
    rintro o ⟨y, hy, s, rfl, h⟩
    exact ⟨s, hy, h⟩
  refine conv _ (bind_inv (fun s : MSt => ∃ (k : Nat) (tk : List Tick) (rd : List Rd) (po ve go t0 t1 ca di : Int), s = (di, rb, cp, ms, ti, sl, gs, 0, rd, p0, ve, t1, ae, hi, an, ro, st, sg, c1, tk, t0, po, (k : Int), lo, rp, ss, ma, br, rt, p1, c0, L, ca, go) ∧ (k : Int) ≤ n ∧ MInv (cp, lo, hi, rb, rp, ae, ms, ma, an, sl, ss, ro, ti, br) (sg, gs) rt L st 0 c0 c1 p0 p1 k tk rd po ve t0 t1 ca)
    (fun s : MSt => (n - s.2.2.2.2.2.2.2.2.2.2.2.2.2.2.2.2.2.2.2.2.2.2.1).toNat)
    (fun s : MRs => ∃ (tk : List Tick) (rd : List Rd) (po ve go t0 t1 ca di : Int), s = (di, rb, cp, ms, ti, sl, gs, 0, rd, p0, ve, t1, ae, hi, an, ro, st, sg, c1, tk, t0, po, lo, rp, ss, ma, br, rt, p1, c0, L, ca, go) ∧ MInv (cp, lo, hi, rb, rp, ae, ms, ma, an, sl, ss, ro, ti, br) (sg, gs) rt L st 0 c0 c1 p0 p1 n.toNat tk rd po ve t0 t1 ca) ?_ ?_ ?_)
  · refine ⟨0, [], [], st, 0, 0, p0, p1, 0, d4, rfl, hn0, ?_⟩
    refine ⟨rfl, rfl, rfl, ?_, ⟨by simp only; omega, by simp only; omega⟩, rfl, rfl, ⟨by omega, by omega⟩, ⟨by omega, by omega⟩, by omega, fun h => absurd h (by omega), fun i hi => absurd hi (by omega), by simp, fun j hj => absurd hj (by simp), fun j hj => absurd hj (by simp)⟩
    refine ⟨hst.1, hst.2, ?_⟩
    unfold goesV sizeV leftV
    simp
    omega
  · rintro _ ⟨k, tk, rd, po, ve, go, t0, t1, ca, di, rfl, hk, hI⟩
    simp only []
    by_cases hlt : (k : Int) < n
    · rw [decide_eq_true hlt]
      simp only [cond_true]
      have hlen := hI.len
      have hrlen := hI.rlen
      obtain ⟨y, rd', go', ca', di', ht, hS, hcan, hv, ha, hp⟩ := f_tick cp lo hi rb rp ae ms ma an sl ss ro ti br sg gs rt st 0 c0 c1 p0 p1 tk rd L po ve go t0 t1 ca di k ⟨⟨by omega, by omega⟩, ⟨by omega, by omega⟩, ⟨by have := R.hp; omega, by have := R.hp; omega⟩, ⟨by have := R.hrp; omega, by have := R.hrp; omega⟩, ⟨by omega, by omega⟩, ⟨by omega, by omega⟩, hI.in0, hI.in1⟩ (by omega) hms hma R.hae R.hrb (by omega) hI.spd hI.can hI.calm (by omega) hL hrin hr60 k3 hgr (by omega)
      rw [ht]
      simp only [Option.bind_some]
      rw [wrap_ok (n := (k : Int) + 1) (by omega)]
      exact .inr ⟨_, rfl, ⟨k + 1, _, _, _, _, _, _, _, _, _, rfl, by omega, minv_step hI hS hcan hv ha hp⟩, by show (n - ((k : Int) + 1)).toNat < (n - (k : Int)).toNat; omega⟩
    · rw [decide_eq_false hlt]
      have hkn : n.toNat = k := by omega
      refine .inl ⟨_, rfl, tk, rd, po, ve, go, t0, t1, ca, di, rfl, ?_⟩
      rw [hkn]
      exact hI
  · rintro _ ⟨tk, rd, po, ve, go, t0, t1, ca, di, rfl, hI⟩
    refine ⟨_, rfl, _, rfl, ?_⟩
    have hlen := hI.len
    refine ⟨minv_admits (n := n.toNat) hf hro (by rw [hLe]; exact hst) ⟨by simp only; omega, by simp only; omega⟩ wh (by omega) (by rw [hLe]; exact hI), by simp only; omega, by have := hI.rlen; simp only; omega, ⟨hr1, hr60⟩, ⟨⟨by simp only; omega, by simp only; omega⟩, ⟨by simp only; omega, by simp only; omega⟩⟩, fun y hy => ?_⟩
    simp only at hy
    obtain ⟨i, hi, rfl⟩ := List.getElem_of_mem hy
    obtain ⟨_, _, q, _⟩ := hI.good i (by omega)
    have := q.junk
    rwa [getD_lt hi] at this
end Go.Proofs.YtlkcanjbgaeceaaGreat
