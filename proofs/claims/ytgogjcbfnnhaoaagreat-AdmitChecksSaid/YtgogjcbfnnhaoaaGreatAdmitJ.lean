/- What the readings of the judge of scripts say: all cycles, reads, junk. -/
import Derived.Test.YtgogjcbfnnhaoaaGreatAdmitI
set_option linter.unusedSimpArgs false
set_option linter.unusedVariables false
namespace Go.Proofs.YtgogjcbfnnhaoaaGreat
open Go.RowKit
theorem f_all (cp lo hi rb rp ae ms ma an sl ss ro ti br : Int) (sg : List Sg) (gs : List Gp) (rt : List Int) (st v0 c0 c1 p0 p1 : Int) (tk : List Tick) (rd : List Rd) (pl k0 k1 : List Int) (hl : tk.length ≤ 4096) (h0 : k0.length = tk.length) (h1 : k1.length = tk.length) (hlo : I64 lo) (hhi : I64 hi) (hcp : I64 cp) (hrp : I64 rp) :
    F_admit_judge_all cp lo hi rb rp ae ms ma an sl ss ro ti br sg gs rt st v0 c0 c1 p0 p1 tk rd pl k0 k1 = some ((List.range tk.length).all (sensK (cp, lo, hi, rb, rp, ae, ms, ma, an, sl, ss, ro, ti, br) tk k0 k1), cp, lo, hi, rb, rp, ae, ms, ma, an, sl, ss, ro, ti, br, sg, gs, rt, st, v0, c0, c1, p0, p1, tk, rd, pl, k0, k1) := by
  unfold F_admit_judge_all
  rw [loop_find_st tk.length (fun i => (cp, ms, rb, sl, ti, v0, gs, p0, rd, k1, hi, ae, ro, an, sg, c1, st, tk, k0, lo, rp, ma, br, ss, rt, c0, pl, p1, (i : Int))) (fun i => bif sensK (cp, lo, hi, rb, rp, ae, ms, ma, an, sl, ss, ro, ti, br) tk k0 k1 i then none else some (Sum.inl (false, cp, ms, rb, sl, ti, v0, gs, p0, rd, k1, hi, ae, ro, an, sg, c1, st, tk, k0, lo, rp, ma, br, ss, rt, c0, pl, p1))) (Sum.inr (cp, ms, rb, sl, ti, v0, gs, p0, rd, k1, hi, ae, ro, an, sg, c1, st, tk, k0, lo, rp, ma, br, ss, rt, c0, pl, p1)) (show (cp, ms, rb, sl, ti, v0, gs, p0, rd, k1, hi, ae, ro, an, sg, c1, st, tk, k0, lo, rp, ma, br, ss, rt, c0, pl, p1, ((0 : Nat) : Int)) = (cp, ms, rb, sl, ti, v0, gs, p0, rd, k1, hi, ae, ro, an, sg, c1, st, tk, k0, lo, rp, ma, br, ss, rt, c0, pl, p1, (0 : Int)) from rfl)]
  · rw [all_find]
    cases (List.range tk.length).all (sensK (cp, lo, hi, rb, rp, ae, ms, ma, an, sl, ss, ro, ti, br) tk k0 k1) <;> rfl
  · intro i hi' _
    simp only []
    rw [decide_eq_true (show (i : Int) < tk.length by omega), f_sensors i cp lo hi rb rp ae ms ma an sl ss ro ti br sg gs rt st v0 c0 c1 p0 p1 tk rd pl k0 k1 hi' hl h0 h1 hlo hhi hcp hrp, wrap_ok (n := (i : Int) + 1) (by omega)]
    cases sensK (cp, lo, hi, rb, rp, ae, ms, ma, an, sl, ss, ro, ti, br) tk k0 k1 i <;> rfl
  · simp
/-- Tracks and routes on which groups can be looked for. -/
structure OnT (t : Tk) (rt : List Int) : Prop where
  glen : t.2.length ≤ 400
  gord : ∀ a b : Nat, a ≤ b → b < t.2.length → (t.2.getD a gp0).1 ≤ (t.2.getD b gp0).1
  lens : LensOK t
  rlen : rt.length ≤ 400
  rin : ∀ i, i < rt.length → 0 ≤ rt.getD i 0 ∧ rt.getD i 0 < t.1.length
theorem nom_total (t : Tk) (s : Scr) (r : Rd) (h : OnT t s.1) : ∃ y, F_world_Nominal t s r = some y ∧ (y.2 = true → ∃ g : Nat, g < t.2.length ∧ F_track_Track_Find t r.2.2.1 = some ((g : Int), true)) := by
  unfold F_world_Nominal
  obtain ⟨g, e, h1, h2, h3⟩ := f_Find t r.2.2.1 (by have := h.glen; omega) h.gord
  rw [e, Option.bind_some]
  simp only []
  by_cases hf : g < t.2.length ∧ (t.2.getD g gp0).1 = r.2.2.1
  · rw [decide_eq_true hf.1, decide_eq_true hf.2]
    simp only [Bool.and_self, Bool.not_true, cond_false]
    by_cases a1 : r.2.1 < 0
    · rw [decide_eq_true a1]
      simp only [cond_true, cond_false, Bool.not_true, Bool.not_false, Bool.or_true, chk_yes]
      exact ⟨((0, false) : Int × Bool), rfl, fun h => by cases h⟩
    · rw [decide_eq_false a1]
      by_cases a2 : (s.1.length : Int) ≤ r.2.1
      · rw [decide_eq_true a2]
        simp only [cond_true, cond_false, Bool.not_true, Bool.not_false, Bool.or_true, chk_yes]
        exact ⟨((0, false) : Int × Bool), rfl, fun h => by cases h⟩
      · rw [decide_eq_false a2]
        obtain ⟨k, hk⟩ : ∃ k : Nat, r.2.1 = (k : Int) := ⟨r.2.1.toNat, by omega⟩
        have hg := hf.1
        rw [hk, decide_eq_true (show (0 : Int) ≤ k by omega), decide_eq_true (show (k : Int) < s.1.length by omega), decide_eq_true (show (0 : Int) ≤ g by omega), decide_eq_true (show (g : Int) < t.2.length by omega), f_Start t s.1 k (by omega) h.rlen h.lens h.rin]
        simp only [Bool.and_self, Bool.true_or, chk_yes, cond_false, Option.bind_some]
        cases (s.1.getD (k : Int).toNat 0 != (t.2.getD (g : Int).toNat ((0 : Int), ((0 : Int), ((0 : Int), ((0 : Int), (0 : Int)))))).2.1) with
        | true => exact ⟨((0, false) : Int × Bool), rfl, fun h => by cases h⟩
        | false => exact ⟨_, rfl, fun _ => ⟨g, hf.1, rfl⟩⟩
  · have e2 : (decide (g < t.2.length) && decide ((t.2.getD g gp0).1 = r.2.2.1)) = false := by
      rw [Bool.eq_false_iff]
      intro hh
      rw [Bool.and_eq_true, decide_eq_true_eq, decide_eq_true_eq] at hh
      exact hf hh
    rw [e2]
    simp only [cond_true, cond_false, Bool.not_true, Bool.not_false, Bool.or_true, chk_yes]
    exact ⟨((0, false) : Int × Bool), rfl, fun h => by cases h⟩
noncomputable def nomV (t : Tk) (rt : List Int) (r : Rd) : Int × Bool := (F_world_Nominal t (rt, 0, 0, (0, 0), (0, 0), [], []) r).getD (0, false)
noncomputable def grpOf (t : Tk) (id : Int) : Gp := t.2.getD ((F_track_Track_Find t id).getD (0, false)).1.toNat gp0
theorem f_NomV (t : Tk) (s : Scr) (r : Rd) (h : OnT t s.1) : F_world_Nominal t s r = some (nomV t s.1 r) := by
  have e : F_world_Nominal t s r = F_world_Nominal t (s.1, 0, 0, (0, 0), (0, 0), [], []) r := by unfold F_world_Nominal; rfl
  unfold nomV
  obtain ⟨y, hy, _⟩ := nom_total t (s.1, 0, 0, (0, 0), (0, 0), [], []) r h
  rw [e, hy]
  rfl
def withW (x far : Int) : Bool := decide (IntKind.i64.wrap (0 - far) ≤ x) && decide (x ≤ far)
theorem f_withinW (x far : Int) : F_admit_within x far = some (withW x far) := by
  unfold F_admit_within withW
  simp only []
  cases decide (IntKind.i64.wrap (0 - far) ≤ x) <;> rfl
/-- The place ahead of a cycle. -/
def aheadI (st : Int) (pl : List Int) (k : Int) : Int := if 0 < k then pl.getD (k - 1).toNat 0 else st
/-- Is a group truly read? -/
noncomputable def readB (t : Tk) (rt : List Int) (an st : Int) (pl : List Int) (r : Rd) (n ahead : Int) : Bool :=
  decide (ahead < r.1) && decide (r.1 < n) && (nomV t rt r).2 &&
    (decide ((if pl.getD r.1.toNat 0 < aheadI st pl r.1 then pl.getD r.1.toNat 0 else aheadI st pl r.1) ≤ r.2.2.2) && decide (r.2.2.2 ≤ (if pl.getD r.1.toNat 0 > aheadI st pl r.1 then pl.getD r.1.toNat 0 else aheadI st pl r.1)) &&
      withW (IntKind.i64.wrap (r.2.2.2 - (nomV t rt r).1)) (IntKind.i64.wrap ((grpOf t r.2.2.1).2.2.2.1 + an)))
theorem f_read (r : Rd) (ahead : Int) (cp lo hi rb rp ae ms ma an sl ss ro ti br : Int) (sg : List Sg) (gs : List Gp) (rt : List Int) (st v0 c0 c1 p0 p1 : Int) (tk : List Tick) (rd : List Rd) (pl k0 k1 : List Int) (ht : OnT (sg, gs) rt) (hah : -1 ≤ ahead) (hl : tk.length ≤ 4096) (hpl : pl.length = tk.length) :
    F_admit_judge_read r ahead cp lo hi rb rp ae ms ma an sl ss ro ti br sg gs rt st v0 c0 c1 p0 p1 tk rd pl k0 k1 = some (readB (sg, gs) rt an st pl r tk.length ahead, cp, lo, hi, rb, rp, ae, ms, ma, an, sl, ss, ro, ti, br, sg, gs, rt, st, v0, c0, c1, p0, p1, tk, rd, pl, k0, k1) := by
  unfold F_admit_judge_read readB
  simp only []
  rw [@not_le_dec ahead r.1, @not_le_dec r.1 tk.length]
  by_cases a1 : r.1 ≤ ahead
  · rw [decide_eq_true a1]; rfl
  rw [decide_eq_false a1]
  by_cases a2 : (tk.length : Int) ≤ r.1
  · rw [decide_eq_true a2]; rfl
  rw [decide_eq_false a2]
  simp only [cond_false, Bool.not_false, Bool.true_and, Bool.and_self]
  rw [f_NomV (sg, gs) (rt, st, v0, (c0, c1), (p0, p1), tk, rd) r ht, Option.bind_some]
  obtain ⟨y, hy, hy2⟩ := nom_total (sg, gs) (rt, st, v0, (c0, c1), (p0, p1), tk, rd) r ht
  rw [f_NomV (sg, gs) (rt, st, v0, (c0, c1), (p0, p1), tk, rd) r ht] at hy
  cases hy
  simp only at hy2 ⊢
  cases hn : (nomV (sg, gs) rt r).2 with
  | false => rfl
  | true =>
    obtain ⟨g, hg, hfind⟩ := hy2 hn
    have hg : g < gs.length := hg
    have hgo : grpOf (sg, gs) r.2.2.1 = gs.getD g gp0 := by unfold grpOf; rw [hfind]; rfl
    rw [hgo]
    simp only [Bool.not_true, cond_false]
    rw [decide_eq_true (show 0 ≤ r.1 by omega), decide_eq_true (show r.1 < pl.length by omega)]
    simp only [Bool.and_self, chk_yes]
    have hah2 : (bif decide (0 < r.1) then chk none (decide (0 ≤ IntKind.i64.wrap (r.1 - 1)) && decide (IntKind.i64.wrap (r.1 - 1) < pl.length)) (some (pl.getD (IntKind.i64.wrap (r.1 - 1)).toNat 0)) else some st) = some (aheadI st pl r.1) := by
      unfold aheadI
      by_cases h0 : 0 < r.1
      · rw [decide_eq_true h0, if_pos h0, wrap_ok (n := r.1 - 1) (by omega), decide_eq_true (show 0 ≤ r.1 - 1 by omega), decide_eq_true (show r.1 - 1 < pl.length by omega)]
        rfl
      · rw [decide_eq_false h0, if_neg h0]; rfl
    rw [hah2, Option.bind_some, hfind, Option.bind_some]
    simp only [Int.toNat_natCast]
    rw [decide_eq_true (show (0 : Int) ≤ g by omega), decide_eq_true (show (g : Int) < gs.length by omega), gp_def]
    simp only [Bool.and_self, chk_yes]
    rw [f_withinW]
    cases decide ((if pl.getD r.1.toNat 0 < aheadI st pl r.1 then pl.getD r.1.toNat 0 else aheadI st pl r.1) ≤ r.2.2.2) <;> cases decide (r.2.2.2 ≤ (if pl.getD r.1.toNat 0 > aheadI st pl r.1 then pl.getD r.1.toNat 0 else aheadI st pl r.1)) <;> rfl
def prevC (rd : List Rd) (i : Nat) : Int := if i = 0 then -1 else (rd.getD (i - 1) rd0).1
noncomputable def readK (t : Tk) (rt : List Int) (an st : Int) (pl : List Int) (n : Int) (rd : List Rd) (i : Nat) : Bool := readB t rt an st pl (rd.getD i rd0) n (prevC rd i)
theorem read_gt {t : Tk} {rt : List Int} {an st : Int} {pl : List Int} {n ahead : Int} {r : Rd} (h : readB t rt an st pl r n ahead = true) : ahead < r.1 ∧ r.1 < n := by
  unfold readB at h
  simp only [Bool.and_eq_true, decide_eq_true_eq] at h
  exact h.1.1
theorem f_reads (cp lo hi rb rp ae ms ma an sl ss ro ti br : Int) (sg : List Sg) (gs : List Gp) (rt : List Int) (st v0 c0 c1 p0 p1 : Int) (tk : List Tick) (rd : List Rd) (pl k0 k1 : List Int) (ht : OnT (sg, gs) rt) (hl : tk.length ≤ 4096) (hpl : pl.length = tk.length) (hrl : rd.length ≤ 4611686018427387903) :
    F_admit_judge_reads cp lo hi rb rp ae ms ma an sl ss ro ti br sg gs rt st v0 c0 c1 p0 p1 tk rd pl k0 k1 = some ((List.range rd.length).all (readK (sg, gs) rt an st pl tk.length rd), cp, lo, hi, rb, rp, ae, ms, ma, an, sl, ss, ro, ti, br, sg, gs, rt, st, v0, c0, c1, p0, p1, tk, rd, pl, k0, k1) := by
  unfold F_admit_judge_reads
  rw [loop_find_st rd.length (fun i => (cp, ms, rb, sl, ti, v0, gs, p0, rd, k1, hi, ae, ro, an, sg, c1, st, tk, k0, lo, rp, ma, br, ss, rt, c0, pl, p1, prevC rd i, (i : Int))) (fun i => bif readK (sg, gs) rt an st pl tk.length rd i then none else some (Sum.inl (false, cp, ms, rb, sl, ti, v0, gs, p0, rd, k1, hi, ae, ro, an, sg, c1, st, tk, k0, lo, rp, ma, br, ss, rt, c0, pl, p1))) (Sum.inr (cp, ms, rb, sl, ti, v0, gs, p0, rd, k1, hi, ae, ro, an, sg, c1, st, tk, k0, lo, rp, ma, br, ss, rt, c0, pl, p1)) (show (cp, ms, rb, sl, ti, v0, gs, p0, rd, k1, hi, ae, ro, an, sg, c1, st, tk, k0, lo, rp, ma, br, ss, rt, c0, pl, p1, prevC rd 0, ((0 : Nat) : Int)) = (cp, ms, rb, sl, ti, v0, gs, p0, rd, k1, hi, ae, ro, an, sg, c1, st, tk, k0, lo, rp, ma, br, ss, rt, c0, pl, p1, (-1 : Int), (0 : Int)) from rfl)]
  · rw [all_find]
    cases (List.range rd.length).all (readK (sg, gs) rt an st pl tk.length rd) <;> rfl
  · intro i hi' hprev
    have hah : ∀ j, j ≤ i → -1 ≤ prevC rd j := by
      intro j
      induction j with
      | zero => intro _; unfold prevC; rw [if_pos rfl]; omega
      | succ j ih =>
        intro hj
        have h1 := ih (by omega)
        have h2 := all_none (n := 0) hprev j (by omega)
        unfold readK at h2
        have h3 := read_gt h2
        unfold prevC
        rw [if_neg (by omega), Nat.add_sub_cancel]
        omega
    simp only []
    rw [decide_eq_true (show (i : Int) < rd.length by omega), decide_eq_true (show (0 : Int) ≤ i by omega), Int.toNat_natCast, rd_def, f_read (rd.getD i rd0) (prevC rd i) cp lo hi rb rp ae ms ma an sl ss ro ti br sg gs rt st v0 c0 c1 p0 p1 tk rd pl k0 k1 ht (hah i (Nat.le_refl i)) hl hpl, wrap_ok (n := (i : Int) + 1) (by omega)]
    have hn : prevC rd (i + 1) = (rd.getD i rd0).1 := by unfold prevC; rw [if_neg (by omega)]; rfl
    rw [hn]
    unfold readK
    cases readB (sg, gs) rt an st pl (rd.getD i rd0) tk.length (prevC rd i) <;> rfl
  · simp
theorem more_total (s b : Int) : ∃ y, F_crc_more s b = some y ∧ True := by
  unfold F_crc_more
  simp only []
  refine bind_inv (fun s => ∃ i : Nat, s.1 = (i : Int) ∧ i ≤ 8) (fun s => (8 - s.1).toNat) (fun _ => True) ⟨0, rfl, by omega⟩ ?_ (fun x _ => ⟨_, rfl, trivial⟩)
  rintro ⟨_, a⟩ ⟨i, rfl, h⟩
  by_cases hlt : i < 8
  · right
    simp only []
    rw [decide_eq_true (show (i : Int) < 8 by omega), wrap_ok (n := (i : Int) + 1) (by omega)]
    cases (bits IntKind.u16 .and a 32768 != 0) <;> exact ⟨_, rfl, ⟨i + 1, by simp, by omega⟩, by simp only; omega⟩
  · left
    simp only []
    rw [decide_eq_false (show ¬ (i : Int) < 8 by omega)]
    exact ⟨_, rfl, trivial⟩
theorem sum_total (b : List Int) (hb : b.length ≤ 4611686018427387903) : ∃ y, F_crc_Sum b = some y := by
  have key : ∃ y, F_crc_Go 65535 b = some y ∧ True := by
    unfold F_crc_Go
    refine bind_inv (fun s => ∃ i : Nat, s.2 = (i : Int) ∧ i ≤ b.length) (fun s => (b.length - s.2).toNat) (fun _ => True) ⟨0, rfl, by omega⟩ ?_ (fun x _ => ⟨_, rfl, trivial⟩)
    rintro ⟨a, _⟩ ⟨i, rfl, h⟩
    by_cases hlt : i < b.length
    · right
      simp only []
      obtain ⟨y, hy, _⟩ := more_total a (b.getD (i : Int).toNat 0)
      rw [decide_eq_true (show (i : Int) < b.length by omega), decide_eq_true (show (0 : Int) ≤ i by omega), hy, wrap_ok (n := (i : Int) + 1) (by omega)]
      exact ⟨_, rfl, ⟨i + 1, by simp, by omega⟩, by simp only; omega⟩
    · left
      simp only []
      rw [decide_eq_false (show ¬ (i : Int) < b.length by omega)]
      exact ⟨_, rfl, trivial⟩
  obtain ⟨y, hy, _⟩ := key
  unfold F_crc_Sum
  rw [hy]
  exact ⟨_, rfl⟩
theorem size_total (k : Int) : ∃ n, F_frame_size k = some n ∧ 0 ≤ n ∧ n ≤ 4 := by
  unfold F_frame_size
  cases (k == 1) <;> cases (k == 2) <;> cases (k == 5) <;> cases (k == 3) <;> cases (k == 4) <;> exact ⟨_, rfl, by decide, by decide⟩
theorem get_total (b : List Int) (hb : b.length ≤ 4611686018427387903) : ∃ y, F_frame_Get b = some y ∧ True := by
  unfold F_frame_Get
  simp only []
  by_cases h0 : (b.length : Int) < 5
  · rw [decide_eq_true h0]; exact ⟨_, rfl, trivial⟩
  rw [decide_eq_false h0, decide_eq_true (show (0 : Int) < b.length by omega)]
  simp only [cond_false, Bool.and_self, chk_yes]
  obtain ⟨n, hn, n1, n2⟩ := size_total (IntKind.i64.wrap (b.getD (0 : Int).toNat 0))
  rw [hn, Option.bind_some]
  cases (n == 0) with
  | true => exact ⟨_, rfl, trivial⟩
  | false =>
    simp only [cond_false]
    rw [decide_eq_true (show (2 : Int) < b.length by omega), wrap_ok (n := 3 + n) (by omega), wrap_ok (n := 3 + n + 2) (by omega)]
    simp only [Bool.and_self, chk_yes]
    cases (IntKind.i64.wrap (b.getD (2 : Int).toNat 0) != n) with
    | true => exact ⟨_, rfl, trivial⟩
    | false =>
      simp only [cond_false]
      by_cases hlen : (b.length : Int) = 3 + n + 2
      · have e : ((b.length : Int) != 3 + n + 2) = false := by simp [hlen]
        rw [e]
        simp only [cond_false]
        obtain ⟨y, hy⟩ := sum_total b (by omega)
        rw [hy, Option.bind_some]
        cases (y != 0) with
        | true => exact ⟨_, rfl, trivial⟩
        | false =>
          simp only [cond_false]
          rw [decide_eq_true (show (3 : Int) ≤ 3 + n by omega), decide_eq_true (show 3 + n ≤ (b.length : Int) by omega), decide_eq_true (show (1 : Int) < b.length by omega)]
          simp only [Bool.and_self, chk_yes]
          generalize hm : (b.take (3 + n).toNat).drop (3 : Int).toNat = m
          have hml : m.length ≤ 4611686018427387903 := by rw [← hm]; simp; omega
          refine bind_inv (fun s => ∃ i : Nat, s.2 = (i : Int) ∧ i ≤ m.length) (fun s => (m.length - s.2).toNat) (fun _ => True) ⟨0, rfl, by omega⟩ ?_ (fun x _ => ?_)
          · rintro ⟨a, _⟩ ⟨i, rfl, h⟩
            by_cases hlt : i < m.length
            · right
              simp only []
              rw [decide_eq_true (show (i : Int) < m.length by omega), decide_eq_true (show (0 : Int) ≤ i by omega), wrap_ok (n := (i : Int) + 1) (by omega)]
              exact ⟨_, rfl, ⟨i + 1, by simp, by omega⟩, by simp only; omega⟩
            · left
              simp only []
              rw [decide_eq_false (show ¬ (i : Int) < m.length by omega)]
              exact ⟨_, rfl, trivial⟩
          · unfold F_frame_signed
            simp only [Option.bind_some]
            cases (bif IntKind.i64.wrap (b.getD (0 : Int).toNat 0) == 3 then true else IntKind.i64.wrap (b.getD (0 : Int).toNat 0) == 4) <;> exact ⟨_, rfl, trivial⟩
      · have e : ((b.length : Int) != 3 + n + 2) = true := by simp [hlen]
        rw [e]
        exact ⟨_, rfl, trivial⟩
end Go.Proofs.YtgogjcbfnnhaoaaGreat
