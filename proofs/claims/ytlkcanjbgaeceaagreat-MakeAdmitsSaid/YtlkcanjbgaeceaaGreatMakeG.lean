/- The maker of scripts: what sensors say, what is wrong now and then, groups that are read. -/
import Derived.Test.YtlkcanjbgaeceaaGreatMakeF
set_option linter.unusedSimpArgs false
set_option linter.unusedVariables false
namespace Go.Proofs.YtlkcanjbgaeceaaGreat
open Go.RowKit
noncomputable def toldT (lo hi cp c t more : Int) : Int × Int := tachoV lo hi cp (floorV t c) (floorV (IntKind.i64.wrap (t + more)) c)
def moreI (cp v sl : Int) : Int := IntKind.i64.wrap (IntKind.i64.wrap (cp * v) + sl)
noncomputable def showB (c : Cf) (c0 c1 t0 t1 : Int) (y : Tick) : Bool := commonV [toldT c.2.1 c.2.2.1 c.1 c0 t0 (moreI c.1 y.1 y.2.1.1), toldT c.2.1 c.2.2.1 c.1 c1 t1 (moreI c.1 y.1 y.2.1.2), radarV c y]
theorem f_mcount0 (cp lo hi rb rp ae ms ma an sl ss ro ti br : Int) (sg : List Sg) (gs : List Gp) (rt : List Int) (st v0 c0 c1 p0 p1 : Int) (tk : List Tick) (rd : List Rd) (ln po ve go t0 t1 ca di : Int) (x : Int) (hx : I64 x) (hc : I64 c0) : F_make_maker_count cp lo hi rb rp ae ms ma an sl ss ro ti br sg gs rt st v0 c0 c1 p0 p1 tk rd ln po ve go t0 t1 ca 0 x = some (floorV x c0) := by
  unfold F_make_maker_count
  obtain ⟨e, h⟩ := f_FloorV x c0 hx hc
  rw [chk_yes (c := decide ((0 : Int) ≤ 0) && decide ((0 : Int) < 2)) (by decide)]
  simp only []
  rw [show ([c0, c1] : List Int).getD (0 : Int).toNat (0 : Int) = c0 from rfl, h]
  rfl
theorem f_mcount1 (cp lo hi rb rp ae ms ma an sl ss ro ti br : Int) (sg : List Sg) (gs : List Gp) (rt : List Int) (st v0 c0 c1 p0 p1 : Int) (tk : List Tick) (rd : List Rd) (ln po ve go t0 t1 ca di : Int) (x : Int) (hx : I64 x) (hc : I64 c1) : F_make_maker_count cp lo hi rb rp ae ms ma an sl ss ro ti br sg gs rt st v0 c0 c1 p0 p1 tk rd ln po ve go t0 t1 ca 1 x = some (floorV x c1) := by
  unfold F_make_maker_count
  obtain ⟨e, h⟩ := f_FloorV x c1 hx hc
  rw [chk_yes (c := decide ((0 : Int) ≤ 1) && decide ((1 : Int) < 2)) (by decide)]
  simp only []
  rw [show ([c0, c1] : List Int).getD (1 : Int).toNat (0 : Int) = c1 from rfl, h]
  rfl
theorem f_told (lo hi cp a b : Int) (hlo : I64 lo) (hhi : I64 hi) (hcp : I64 cp) : ∃ e, F_sense_Tacho (deltaI a b) (lo, hi) cp = some (tachoV lo hi cp a b, e) := by
  obtain ⟨y, hy⟩ := tacho_total (deltaI a b) (lo, hi) cp hlo hhi hcp
  unfold tachoV
  rw [hy]
  exact ⟨_, rfl⟩
theorem f_mtacho0 (cp lo hi rb rp ae ms ma an sl ss ro ti br : Int) (sg : List Sg) (gs : List Gp) (rt : List Int) (st v0 c0 c1 p0 p1 : Int) (tk : List Tick) (rd : List Rd) (ln po ve go t0 t1 ca di : Int) (more : Int) (ht : I64 t0) (hc : I64 c0) (hlo : I64 lo) (hhi : I64 hi) (hcp : I64 cp) : F_make_maker_tacho cp lo hi rb rp ae ms ma an sl ss ro ti br sg gs rt st v0 c0 c1 p0 p1 tk rd ln po ve go t0 t1 ca 0 more = some (toldT lo hi cp c0 t0 more) := by
  unfold F_make_maker_tacho
  rw [chk_yes (c := decide ((0 : Int) ≤ 0) && decide ((0 : Int) < 2)) (by decide)]
  simp only []
  rw [show ([t0, t1] : List Int).getD (0 : Int).toNat (0 : Int) = t0 from rfl, f_mcount0 cp lo hi rb rp ae ms ma an sl ss ro ti br sg gs rt st v0 c0 c1 p0 p1 tk rd ln po ve go t0 t1 ca di t0 ht hc, Option.bind_some, chk_yes (c := decide ((0 : Int) ≤ 0) && decide ((0 : Int) < 2)) (by decide), f_mcount0 cp lo hi rb rp ae ms ma an sl ss ro ti br sg gs rt st v0 c0 c1 p0 p1 tk rd ln po ve go t0 t1 ca di _ (wrap_i64 _) hc, Option.bind_some]
  unfold F_pulse_Delta F_conf_Config_Circ
  simp only [Option.bind_some]
  obtain ⟨e, h⟩ := f_told lo hi cp (floorV t0 c0) (floorV (IntKind.i64.wrap (t0 + more)) c0) hlo hhi hcp
  unfold deltaI at h
  rw [h]
  rfl
theorem f_mtacho1 (cp lo hi rb rp ae ms ma an sl ss ro ti br : Int) (sg : List Sg) (gs : List Gp) (rt : List Int) (st v0 c0 c1 p0 p1 : Int) (tk : List Tick) (rd : List Rd) (ln po ve go t0 t1 ca di : Int) (more : Int) (ht : I64 t1) (hc : I64 c1) (hlo : I64 lo) (hhi : I64 hi) (hcp : I64 cp) : F_make_maker_tacho cp lo hi rb rp ae ms ma an sl ss ro ti br sg gs rt st v0 c0 c1 p0 p1 tk rd ln po ve go t0 t1 ca 1 more = some (toldT lo hi cp c1 t1 more) := by
  unfold F_make_maker_tacho
  rw [chk_yes (c := decide ((0 : Int) ≤ 1) && decide ((1 : Int) < 2)) (by decide)]
  simp only []
  rw [show ([t0, t1] : List Int).getD (1 : Int).toNat (0 : Int) = t1 from rfl, f_mcount1 cp lo hi rb rp ae ms ma an sl ss ro ti br sg gs rt st v0 c0 c1 p0 p1 tk rd ln po ve go t0 t1 ca di t1 ht hc, Option.bind_some, chk_yes (c := decide ((0 : Int) ≤ 1) && decide ((1 : Int) < 2)) (by decide), f_mcount1 cp lo hi rb rp ae ms ma an sl ss ro ti br sg gs rt st v0 c0 c1 p0 p1 tk rd ln po ve go t0 t1 ca di _ (wrap_i64 _) hc, Option.bind_some]
  unfold F_pulse_Delta F_conf_Config_Circ
  simp only [Option.bind_some]
  obtain ⟨e, h⟩ := f_told lo hi cp (floorV t1 c1) (floorV (IntKind.i64.wrap (t1 + more)) c1) hlo hhi hcp
  unfold deltaI at h
  rw [h]
  rfl
structure NumM (lo hi cp rp c0 c1 t0 t1 : Int) : Prop where
  lo : I64 lo
  hi : I64 hi
  cp : I64 cp
  rp : I64 rp
  c0 : I64 c0
  c1 : I64 c1
  t0 : I64 t0
  t1 : I64 t1
theorem f_shows (cp lo hi rb rp ae ms ma an sl ss ro ti br : Int) (sg : List Sg) (gs : List Gp) (rt : List Int) (st v0 c0 c1 p0 p1 : Int) (tk : List Tick) (rd : List Rd) (ln po ve go t0 t1 ca di : Int) (y : Tick) (h : NumM lo hi cp rp c0 c1 t0 t1) : F_make_maker_shows cp lo hi rb rp ae ms ma an sl ss ro ti br sg gs rt st v0 c0 c1 p0 p1 tk rd ln po ve go t0 t1 ca y = some (!showB (cp, lo, hi, rb, rp, ae, ms, ma, an, sl, ss, ro, ti, br) c0 c1 t0 t1 y) := by
  unfold F_make_maker_shows
  simp only []
  rw [f_mtacho0 cp lo hi rb rp ae ms ma an sl ss ro ti br sg gs rt st v0 c0 c1 p0 p1 tk rd ln po ve go t0 t1 ca di _ h.t0 h.c0 h.lo h.hi h.cp, Option.bind_some, f_mtacho1 cp lo hi rb rp ae ms ma an sl ss ro ti br sg gs rt st v0 c0 c1 p0 p1 tk rd ln po ve go t0 t1 ca di _ h.t1 h.c1 h.lo h.hi h.cp, Option.bind_some]
  obtain ⟨r, hr⟩ := radar_total (cp, lo, hi, rb, rp, ae, ms, ma, an, sl, ss, ro, ti, br) (IntKind.i64.wrap (y.1 + y.2.2.1)) (wrap_i64 _) h.rp
  have hv : radarV (cp, lo, hi, rb, rp, ae, ms, ma, an, sl, ss, ro, ti, br) y = r := by unfold radarV; rw [hr]; rfl
  rw [hr, Option.bind_some]
  obtain ⟨s, hs⟩ := f_Common [toldT lo hi cp c0 t0 (moreI cp y.1 y.2.1.1), toldT lo hi cp c1 t1 (moreI cp y.1 y.2.1.2), r] (by simp)
  unfold moreI at hs
  rw [hs]
  unfold showB moreI
  rw [hv]
  rfl
def lostAny (y : Tick) : Bool := y.2.2.2.2.1.1 || y.2.2.2.2.1.2.1 || y.2.2.2.2.1.2.2.1
structure FaultOK (c : Cf) (c0 c1 t0 t1 ca r : Int) (y : Tick) (ca' : Int) : Prop where
  slips : (-1099511627776 ≤ y.2.1.1 ∧ y.2.1.1 ≤ 1099511627776) ∧ -1099511627776 ≤ y.2.1.2 ∧ y.2.1.2 ≤ 1099511627776
  radar : -1073741824 ≤ y.2.2.1 ∧ y.2.2.1 ≤ 1073741824
  calm : 0 ≤ ca'
  right : (y.2.1 = (0, 0) ∧ y.2.2.1 = r ∧ (lostAny y = true → 1 ≤ ca')) ∨
    (ca = 0 ∧ lostAny y = false ∧ showB c c0 c1 t0 t1 y = false ∧ ((y.2.1.2 = 0 ∧ y.2.2.1 = r) ∨ (y.2.1.1 = 0 ∧ y.2.2.1 = r) ∨ y.2.1 = (0, 0)))
theorem f_fault (cp lo hi rb rp ae ms ma an sl ss ro ti br : Int) (sg : List Sg) (gs : List Gp) (rt : List Int) (st v0 c0 c1 p0 p1 : Int) (tk : List Tick) (rd : List Rd) (ln po ve go t0 t1 ca di : Int) (v r a : Int) (cm : Bool) (h : NumM lo hi cp rp c0 c1 t0 t1) (hhi : 0 ≤ hi ∧ hi ≤ 8388608) (hms : 1 ≤ ms ∧ ms ≤ 16777216) (hr : -1048576 ≤ r ∧ r ≤ 1048576) (hca : 0 ≤ ca ∧ ca ≤ 1000000) :
    ∃ (s0 s1 r' : Int) (b0 b1 b2 b3 : Bool) (ca' di' : Int), F_make_maker_fault (v, (0, 0), r, a, (false, false, false, false), [], cm) cp lo hi rb rp ae ms ma an sl ss ro ti br sg gs rt st v0 c0 c1 p0 p1 tk rd ln po ve go t0 t1 ca di = some ((v, (s0, s1), r', a, (b0, b1, b2, b3), [], cm), cp, lo, hi, rb, rp, ae, ms, ma, an, sl, ss, ro, ti, br, sg, gs, rt, st, v0, c0, c1, p0, p1, tk, rd, ln, po, ve, go, t0, t1, ca', di') ∧
      FaultOK (cp, lo, hi, rb, rp, ae, ms, ma, an, sl, ss, ro, ti, br) c0 c1 t0 t1 ca r (v, (s0, s1), r', a, (b0, b1, b2, b3), [], cm) ca' ∧ ca' ≤ 1000000 := by
  unfold F_make_maker_fault
  obtain ⟨k, d1, h1, _, hk⟩ := f_to 24 di (by decide)
  obtain ⟨k1, k2⟩ := hk (by decide)
  obtain ⟨f, d2, h2, _, hf⟩ := f_to 300 d1 (by decide)
  obtain ⟨f1, f2⟩ := hf (by decide)
  rw [h1, Option.bind_some]
  simp only []
  rw [h2, Option.bind_some]
  simp only []
  obtain ⟨far, hfar, q1, q2⟩ : ∃ far, IntKind.i64.wrap (hi * IntKind.i64.wrap (1 + f)) = far ∧ 0 ≤ far ∧ far ≤ 2516582400 := by
    have := mul_pq (x := hi) (y := 1 + f) (X := 8388608) (Y := 300) hhi.1 hhi.2 (by omega) (by omega)
    refine ⟨_, rfl, ?_⟩
    rw [wrap_ok (n := 1 + f) (by omega), wrap_ok (by omega)]
    omega
  rw [hfar]
  by_cases c1' : 0 < ca ∨ 3 < k
  · have e : (bif decide (0 < ca) then true else decide (3 < k)) = true := by
      rcases c1' with h | h
      · rw [decide_eq_true h]; rfl
      · rw [decide_eq_true h]; cases decide (0 < ca) <;> rfl
    rw [e, wrap_ok (n := ca - 1) (by omega)]
    exact ⟨0, 0, r, false, false, false, false, _, _, rfl, ⟨⟨by simp, by simp⟩, by simp only []; omega, by split <;> omega, .inl ⟨rfl, rfl, fun h => by cases h⟩⟩, by split <;> omega⟩
  · have e : (bif decide (0 < ca) then true else decide (3 < k)) = false := by
      rw [decide_eq_false (by omega), decide_eq_false (by omega)]; rfl
    rw [e]
    simp only [cond_false]
    have hca0 : ca = 0 := by omega
    by_cases e0 : k = 0
    · subst e0
      simp only [beq_self_eq_true, cond_true]
      obtain ⟨j, d3, h3, _, hj⟩ := f_to 4 d2 (by decide)
      obtain ⟨j1, j2⟩ := hj (by decide)
      rw [h3, Option.bind_some]
      simp only []
      rw [decide_eq_true j1, decide_eq_true j2]
      simp only [Bool.and_self, chk_yes]
      exact ⟨0, 0, r, _, _, _, _, 2, _, rfl, ⟨⟨by simp, by simp⟩, by simp only []; omega, by decide, .inl ⟨rfl, rfl, fun _ => by decide⟩⟩, by decide⟩
    · rw [beq_false_of_ne e0]
      simp only [cond_false]
      have fin : ∀ (s0 s1 r' d3 : Int), (-1099511627776 ≤ s0 ∧ s0 ≤ 1099511627776) → (-1099511627776 ≤ s1 ∧ s1 ≤ 1099511627776) → (-1073741824 ≤ r' ∧ r' ≤ 1073741824) → ((s1 = 0 ∧ r' = r) ∨ (s0 = 0 ∧ r' = r) ∨ (s0 = 0 ∧ s1 = 0)) →
          ∃ (s0' s1' r'' : Int) (b0 b1 b2 b3 : Bool) (ca' di' : Int), (Option.bind (F_make_maker_shows cp lo hi rb rp ae ms ma an sl ss ro ti br sg gs rt st v0 c0 c1 p0 p1 tk rd ln po ve go t0 t1 ca (v, (s0, s1), r', a, (false, false, false, false), [], cm)) fun t104 => bif !t104 then some (((v, (0, 0), r, a, (false, false, false, false), [], cm) : Tick), cp, lo, hi, rb, rp, ae, ms, ma, an, sl, ss, ro, ti, br, sg, gs, rt, st, v0, c0, c1, p0, p1, tk, rd, ln, po, ve, go, t0, t1, ca, d3) else some (((v, (s0, s1), r', a, (false, false, false, false), [], cm) : Tick), cp, lo, hi, rb, rp, ae, ms, ma, an, sl, ss, ro, ti, br, sg, gs, rt, st, v0, c0, c1, p0, p1, tk, rd, ln, po, ve, go, t0, t1, ca, d3)) = some (((v, (s0', s1'), r'', a, (b0, b1, b2, b3), [], cm) : Tick), cp, lo, hi, rb, rp, ae, ms, ma, an, sl, ss, ro, ti, br, sg, gs, rt, st, v0, c0, c1, p0, p1, tk, rd, ln, po, ve, go, t0, t1, ca', di') ∧
            FaultOK (cp, lo, hi, rb, rp, ae, ms, ma, an, sl, ss, ro, ti, br) c0 c1 t0 t1 ca r (v, (s0', s1'), r'', a, (b0, b1, b2, b3), [], cm) ca' ∧ ca' ≤ 1000000 := by
        intro s0 s1 r' d3 g1 g2 g3 g4
        rw [f_shows cp lo hi rb rp ae ms ma an sl ss ro ti br sg gs rt st v0 c0 c1 p0 p1 tk rd ln po ve go t0 t1 ca di _ h, Option.bind_some]
        cases hs : showB (cp, lo, hi, rb, rp, ae, ms, ma, an, sl, ss, ro, ti, br) c0 c1 t0 t1 (v, (s0, s1), r', a, (false, false, false, false), [], cm) with
        | true => exact ⟨0, 0, r, false, false, false, false, ca, _, rfl, ⟨⟨by simp, by simp⟩, by simp only []; omega, by omega, .inl ⟨rfl, rfl, fun h => by cases h⟩⟩, by omega⟩
        | false =>
          refine ⟨s0, s1, r', false, false, false, false, ca, _, rfl, ⟨⟨g1, g2⟩, g3, by omega, .inr ⟨hca0, rfl, hs, ?_⟩⟩, by omega⟩
          rcases g4 with g | g | ⟨g, g'⟩
          · exact .inl g
          · exact .inr (.inl g)
          · exact .inr (.inr (by rw [g, g']))
      by_cases e1 : k = 1
      · subst e1
        simp only [beq_self_eq_true, cond_true]
        obtain ⟨j, d3, h3, _, hj⟩ := f_to 2 d2 (by decide)
        obtain ⟨j1, j2⟩ := hj (by decide)
        rw [h3, Option.bind_some]
        simp only []
        rw [decide_eq_true j1, decide_eq_true j2]
        simp only [Bool.and_self, chk_yes, Option.bind_some]
        have : j = 0 ∨ j = 1 := by omega
        rcases this with rfl | rfl
        · exact fin far 0 r d3 (by omega) (by omega) (by omega) (.inl ⟨rfl, rfl⟩)
        · exact fin 0 far r d3 (by omega) (by omega) (by omega) (.inr (.inl ⟨rfl, rfl⟩))
      · rw [beq_false_of_ne e1]
        simp only [cond_false]
        by_cases e2 : k = 2
        · subst e2
          simp only [beq_self_eq_true, cond_true]
          obtain ⟨j, d3, h3, _, hj⟩ := f_to 2 d2 (by decide)
          obtain ⟨j1, j2⟩ := hj (by decide)
          rw [h3, Option.bind_some]
          simp only []
          rw [decide_eq_true j1, decide_eq_true j2, wrap_ok (n := 0 - far) (by omega)]
          simp only [Bool.and_self, chk_yes, Option.bind_some]
          have : j = 0 ∨ j = 1 := by omega
          rcases this with rfl | rfl
          · exact fin (0 - far) 0 r d3 (by omega) (by omega) (by omega) (.inl ⟨rfl, rfl⟩)
          · exact fin 0 (0 - far) r d3 (by omega) (by omega) (by omega) (.inr (.inl ⟨rfl, rfl⟩))
        · rw [beq_false_of_ne e2]
          simp only [cond_false]
          rw [wrap_ok (n := ms + 1) (by omega)]
          obtain ⟨j, d3, h3, _, hj⟩ := f_to (ms + 1) d2 (by omega)
          obtain ⟨j1, j2⟩ := hj (by omega)
          rw [h3, Option.bind_some]
          simp only []
          rw [wrap_ok (n := 2 * j) (by omega), wrap_ok (n := 2 * j - ms) (by omega)]
          simp only [Option.bind_some]
          exact fin 0 0 (2 * j - ms) d3 (by omega) (by omega) (by omega) (.inr (.inr ⟨rfl, rfl⟩))
def PassOK (t : Tk) (rt : List Int) (k po to : Int) (r : Rd) : Prop :=
  r.1 = k ∧ ∃ i g : Nat, i < rt.length ∧ g < t.2.length ∧ r.2.1 = (i : Int) ∧ (t.2.getD g gp0).2.1 = rt.getD i 0 ∧ r.2.2.1 = (t.2.getD g gp0).1 ∧ r.2.2.2 = startI t rt i + (t.2.getD g gp0).2.2.1 ∧
    (if to < po then to else po) ≤ r.2.2.2 ∧ r.2.2.2 ≤ (if to > po then to else po)
theorem bind_step {S X A Y : Type} {f : S → Option (S ⊕ X)} {k : X → Option (A ⊕ Y)} {s : S} {P : Y → Prop} {R : A → Prop} (I : S → Prop) (μ : S → Nat) (Q : X → Prop) (hI : I s)
    (h : ∀ s, I s → (∃ x, f s = some (.inr x) ∧ Q x) ∨ (∃ s', f s = some (.inl s') ∧ I s' ∧ μ s' < μ s)) (hk : ∀ x, Q x → (∃ y, k x = some (.inr y) ∧ P y) ∨ (∃ a, k x = some (.inl a) ∧ R a)) :
    (∃ y, Option.bind (loopO f s) k = some (.inr y) ∧ P y) ∨ (∃ a, Option.bind (loopO f s) k = some (.inl a) ∧ R a) := by
  obtain ⟨x, h1, h2⟩ := loopO_inv I μ Q h s hI
  rw [h1]
  exact hk x h2
theorem f_mread (cp lo hi rb rp ae ms ma an sl ss ro ti br : Int) (sg : List Sg) (gs : List Gp) (rt : List Int) (st v0 c0 c1 p0 p1 : Int) (tk : List Tick) (rd : List Rd) (ln po ve go t0 t1 ca di : Int) (k to : Int) (hL : LensOK (sg, gs)) (hr : ∀ i, i < rt.length → 0 ≤ rt.getD i 0 ∧ rt.getD i 0 < sg.length) (hrl : rt.length ≤ 60) (hgl : gs.length ≤ 400) (hg : ∀ i, i < gs.length → 0 ≤ (gs.getD i gp0).2.2.1 ∧ (gs.getD i gp0).2.2.1 ≤ 1099511627776) (hrd : rd.length ≤ 10000) :
    ∃ (rd' : List Rd) (di' : Int), F_make_maker_read k to cp lo hi rb rp ae ms ma an sl ss ro ti br sg gs rt st v0 c0 c1 p0 p1 tk rd ln po ve go t0 t1 ca di = some (cp, lo, hi, rb, rp, ae, ms, ma, an, sl, ss, ro, ti, br, sg, gs, rt, st, v0, c0, c1, p0, p1, tk, rd', ln, po, ve, go, t0, t1, ca, di') ∧ (rd' = rd ∨ ∃ r, rd' = rd ++ [r] ∧ PassOK (sg, gs) rt k po to r) := by
  unfold F_make_maker_read
  have conv : ∀ o : Option _, (∃ y, o = some y ∧ ∃ (rd' : List Rd) (di' : Int), y = (cp, lo, hi, rb, rp, ae, ms, ma, an, sl, ss, ro, ti, br, sg, gs, rt, st, v0, c0, c1, p0, p1, tk, rd', ln, po, ve, go, t0, t1, ca, di') ∧ (rd' = rd ∨ ∃ r, rd' = rd ++ [r] ∧ PassOK (sg, gs) rt k po to r)) →
      ∃ (rd' : List Rd) (di' : Int), o = some (cp, lo, hi, rb, rp, ae, ms, ma, an, sl, ss, ro, ti, br, sg, gs, rt, st, v0, c0, c1, p0, p1, tk, rd', ln, po, ve, go, t0, t1, ca, di') ∧ (rd' = rd ∨ ∃ r, rd' = rd ++ [r] ∧ PassOK (sg, gs) rt k po to r) := by
    rintro o ⟨y, hy, rd', di', rfl, g⟩
    exact ⟨rd', di', hy, g⟩
  refine conv _ (bind_inv (fun s : Int × List Rd × Int × Int => s.2.1 = rd ∧ ∃ i : Nat, i ≤ rt.length ∧ s.2.2.1 = (i : Int) ∧ s.2.2.2 = startI (sg, gs) rt i) (fun s => (rt.length - s.2.2.1).toNat) (fun s : Int × List Rd => s.2 = rd ∨ ∃ r, s.2 = rd ++ [r] ∧ PassOK (sg, gs) rt k po to r) ⟨rfl, 0, Nat.zero_le _, rfl, rfl⟩ ?_ ?_)
  · rintro ⟨d, rd', _, _⟩ ⟨h1, i, hi, rfl, rfl⟩
    simp only [] at h1 ⊢
    subst h1
    by_cases hlt : i < rt.length
    · obtain ⟨r1, r2⟩ := hr i hlt
      have hb := start_bound hL hr i hi
      have hb2 := start_bound hL hr (i + 1) hlt
      rw [decide_eq_true (show (i : Int) < rt.length by omega), decide_eq_true (show (0 : Int) ≤ i by omega), Int.toNat_natCast]
      simp only [cond_true, Bool.and_self, chk_yes]
      refine bind_step (fun s : Int × List Rd × Int => s.2.1 = rd' ∧ ∃ j : Nat, j ≤ gs.length ∧ s.2.2 = (j : Int)) (fun s => (gs.length - s.2.2).toNat)
        (fun x : (Int × List Rd) ⊕ (Int × List Rd) => match x with
          | .inl y => ∃ r, y.2 = rd' ++ [r] ∧ PassOK (sg, gs) rt k po to r
          | .inr y => y.2 = rd') ⟨rfl, 0, Nat.zero_le _, rfl⟩ ?_ ?_
      · rintro ⟨d', rd'', _⟩ ⟨h2, j, hj, rfl⟩
        simp only [] at h2 ⊢
        subst h2
        by_cases hjl : j < gs.length
        · obtain ⟨g1, g2⟩ := hg j hjl
          rw [decide_eq_true (show (j : Int) < gs.length by omega), decide_eq_true (show (0 : Int) ≤ j by omega), Int.toNat_natCast, gp_def, wrap_ok (n := startI (sg, gs) rt i + (gs.getD j gp0).2.2.1) (by omega), wrap_ok (n := (j : Int) + 1) (by omega)]
          simp only [cond_true, Bool.and_self, chk_yes]
          cases hw : (bif (bif (gs.getD j gp0).2.1 == rt.getD i 0 then decide ((if to < po then to else po) < startI (sg, gs) rt i + (gs.getD j gp0).2.2.1) else false) then decide (startI (sg, gs) rt i + (gs.getD j gp0).2.2.1 ≤ (if to > po then to else po)) else false) with
          | false =>
            simp only [cond_false, Option.bind_some]
            exact .inr ⟨_, rfl, ⟨rfl, j + 1, hjl, by simp⟩, by simp only; omega⟩
          | true =>
            obtain ⟨b, d2, hb'⟩ := f_one 5 d' (by decide)
            simp only [cond_true]
            rw [hb']
            simp only [Option.bind_some]
            cases b with
            | true =>
              simp only [Bool.not_true, cond_false]
              exact .inr ⟨_, rfl, ⟨rfl, j + 1, hjl, by simp⟩, by simp only; omega⟩
            | false =>
              simp only [Bool.not_false, cond_true]
              rw [chk_yes (by simp; omega)]
              refine .inl ⟨_, rfl, _, rfl, rfl, i, j, hlt, hjl, rfl, ?_, rfl, rfl, ?_⟩
              · cases hq' : (gs.getD j gp0).2.1 == rt.getD i 0 with
                | true => exact eq_of_beq hq'
                | false => rw [hq'] at hw; cases hw
              · cases hq' : (gs.getD j gp0).2.1 == rt.getD i 0 with
                | false => rw [hq'] at hw; cases hw
                | true =>
                  rw [hq'] at hw
                  simp only [cond_true] at hw
                  by_cases u1 : (if to < po then to else po) < startI (sg, gs) rt i + (gs.getD j gp0).2.2.1
                  · rw [decide_eq_true u1] at hw
                    simp only [cond_true, decide_eq_true_eq] at hw
                    exact ⟨Int.le_of_lt u1, hw⟩
                  · rw [decide_eq_false u1] at hw
                    cases hw
        · rw [decide_eq_false (show ¬ (j : Int) < gs.length by omega)]
          exact .inl ⟨_, rfl, rfl⟩
      · intro z hq
        cases z with
        | inl y =>
          obtain ⟨r, e1, e2⟩ := hq
          exact .inl ⟨_, rfl, .inr ⟨r, e1, e2⟩⟩
        | inr y =>
          have hq : y.2 = rd' := hq
          simp only [Option.bind_some, sg_def]
          have hlen := hL (rt.getD i 0).toNat (by simp only; omega)
          simp only [] at hlen
          rw [decide_eq_true r1, decide_eq_true r2, wrap_ok (n := (i : Int) + 1) (by omega), wrap_ok (n := startI (sg, gs) rt i + (sg.getD (rt.getD i 0).toNat sg0).1) (by omega)]
          simp only [Bool.and_self, chk_yes]
          refine .inr ⟨_, rfl, ⟨hq, i + 1, hlt, by simp, rfl⟩, by simp only; omega⟩
    · rw [decide_eq_false (show ¬ (i : Int) < rt.length by omega)]
      exact .inl ⟨_, rfl, .inl rfl⟩
  · rintro ⟨d, rd'⟩ hq
    exact ⟨_, rfl, rd', d, rfl, hq⟩
end Go.Proofs.YtlkcanjbgaeceaaGreat
