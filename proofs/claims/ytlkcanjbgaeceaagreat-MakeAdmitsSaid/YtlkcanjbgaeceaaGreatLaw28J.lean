/- AdmitChecks: what the document's readings say: the route, the way, speeds, numbers, sensors. -/
import Derived.Test.YtlkcanjbgaeceaaGreatLaw28I
import Derived.Test.YtlkcanjbgaeceaaGreatCrcH
set_option linter.unusedSimpArgs false
set_option linter.unusedVariables false
namespace Go.Proofs.YtlkcanjbgaeceaaGreat
open Go.RowKit
theorem f_rFollows (t : Tk) (a b : Int) (hN : ∀ s ∈ t.1, s.2.2.length ≤ 4611686018427387903) : F_ref11_Follows t a b = some (followsB t a b) := by
  unfold F_ref11_Follows followsB
  simp only []
  by_cases h0 : 0 ≤ a
  · by_cases h1 : a < t.1.length
    · obtain ⟨k, rfl⟩ : ∃ k : Nat, a = (k : Int) := ⟨a.toNat, by omega⟩
      have hm := hN _ (getD_mem (d := sg0) (show k < t.1.length by omega))
      rw [decide_eq_true h0, decide_eq_true h1, decide_eq_false (show ¬ (k : Int) < 0 by omega), decide_eq_false (show ¬ (t.1.length : Int) ≤ k by omega), Int.toNat_natCast]
      simp only [cond_false, Bool.and_self, chk_yes, sg_def]
      generalize (t.1.getD k sg0).2.2 = l at *
      rw [loop_find l.length (fun i => bif l.getD i 0 == b then some (.inl true) else none) (.inr ())]
      · rcases any_find l.length (fun i => l.getD i 0 == b) (fun i => (Sum.inl true : Bool ⊕ Unit)) with ⟨e1, e2⟩ | ⟨i, e1, e2⟩
        · rw [e1, e2]; rfl
        · rw [e1, e2]; rfl
      · intro i hi
        rw [decide_eq_true (show (i : Int) < l.length by omega), decide_eq_true (show (0 : Int) ≤ i by omega), Int.toNat_natCast, wrap_ok (n := (i : Int) + 1) (by omega)]
        simp only [cond_true, Bool.and_self, chk_yes]
        cases (l.getD i 0 == b) <;> rfl
      · simp
    · rw [decide_eq_false h1, decide_eq_true (show (t.1.length : Int) ≤ a by omega), decide_eq_true h0, decide_eq_false (show ¬ a < 0 by omega)]
      rfl
  · rw [decide_eq_false h0, decide_eq_true (show a < 0 by omega)]
    rfl
theorem f_rRoute (t : Tk) (rt : List Int) (hN : ∀ s ∈ t.1, s.2.2.length ≤ 4611686018427387903) : F_ref28_route t rt = some (routeB t rt) := by
  unfold F_ref28_route routeB
  simp only []
  by_cases h0 : rt.length < 1
  · rw [decide_eq_true (show (rt.length : Int) < 1 by omega), decide_eq_false (show ¬ 1 ≤ rt.length by omega)]
    rfl
  rw [decide_eq_false (show ¬ (rt.length : Int) < 1 by omega), decide_eq_true (show 1 ≤ rt.length by omega)]
  by_cases h1 : 400 < rt.length
  · rw [decide_eq_true (show (400 : Int) < rt.length by omega), decide_eq_false (show ¬ rt.length ≤ 400 by omega)]
    rfl
  rw [decide_eq_false (show ¬ (400 : Int) < rt.length by omega), decide_eq_true (show rt.length ≤ 400 by omega)]
  simp only [cond_false, Bool.true_and]
  rw [loop_find rt.length (fun i => bif stepB t rt i then none else some (.inl false)) (.inr ())]
  · rw [all_find]
    cases (List.range rt.length).all (stepB t rt) <;> rfl
  · intro i hi
    have ew : IntKind.i64.wrap ((i : Int) - 1) = i - 1 := wrap_ok (by omega)
    have ew2 : IntKind.i64.wrap ((i : Int) + 1) = i + 1 := wrap_ok (by omega)
    rw [decide_eq_true (show (i : Int) < rt.length by omega), decide_eq_true (show (0 : Int) ≤ i by omega), ew, ew2, Int.toNat_natCast]
    simp only [cond_true, Bool.and_self, Bool.true_or, chk_yes]
    by_cases hi0 : i = 0
    · have e1 : decide ((0 : Int) < (i : Int)) = false := by simp [hi0]
      rw [e1]
      simp only [Bool.false_and, Bool.not_false, Bool.or_true, chk_yes, cond_false, Option.bind_some]
      unfold stepB
      rw [decide_eq_true hi0, @not_lt_dec 0 (rt.getD i 0), @not_le_dec (rt.getD i 0) t.1.length]
      cases decide (rt.getD i 0 < 0) <;> cases decide ((t.1.length : Int) ≤ rt.getD i 0) <;> rfl
    · have e1 : decide ((0 : Int) < (i : Int)) = true := by simp; omega
      have et : ((i : Int) - 1).toNat = i - 1 := by omega
      rw [e1, et, chk_yes (by rw [decide_eq_true (show (0 : Int) ≤ (i : Int) - 1 by omega), decide_eq_true (show (i : Int) - 1 < rt.length by omega)]; rfl), f_rFollows _ _ _ hN]
      unfold stepB
      rw [decide_eq_false hi0, @not_lt_dec 0 (rt.getD i 0), @not_le_dec (rt.getD i 0) t.1.length]
      cases decide (rt.getD i 0 < 0) <;> cases decide ((t.1.length : Int) ≤ rt.getD i 0) <;> cases followsB t (rt.getD (i - 1) 0) (rt.getD i 0) <;> rfl
  · simp
theorem f_rStart (t : Tk) (l : List Int) (n : Nat) (hn : n ≤ l.length) (hl : l.length ≤ 400) (hL : LensOK t) (hr : ∀ i, i < l.length → 0 ≤ l.getD i 0 ∧ l.getD i 0 < t.1.length) : F_ref27_Start t l (n : Int) = some (startI t l n) := by
  unfold F_ref27_Start
  simp only []
  rw [show ((0 : Int), (0 : Int)) = (startI t l 0, ((0 : Nat) : Int)) from rfl]
  rw [loop_run (n := n) (st := fun i => (startI t l i, (i : Int))) (x := startI t l n)]
  · rfl
  · intro i hi
    simp only []
    obtain ⟨r1, r2⟩ := hr i (by omega)
    have hb := start_bound hL hr i (by omega)
    have hb2 := hL (l.getD i 0).toNat (by omega)
    rw [decide_eq_true (show (i : Int) < n by omega), decide_eq_true (show (0 : Int) ≤ i by omega), decide_eq_true (show (i : Int) < l.length by omega), Int.toNat_natCast, decide_eq_true r1, decide_eq_true r2, sg_def, wrap_ok (n := (i : Int) + 1) (by omega), wrap_ok (n := startI t l i + (t.1.getD (l.getD i 0).toNat sg0).1) (by omega)]
    rfl
  · simp
theorem f_rOn (t : Tk) (s : Scr) (hl : s.2.2.2.2.2.1.length ≤ 4611686018427387903) (hrl : s.1.length ≤ 400) (hL : LensOK t) (hr : ∀ i, i < s.1.length → 0 ≤ s.1.getD i 0 ∧ s.1.getD i 0 < t.1.length) :
    F_ref28_on t (refS s) = some (onB (startI t s.1 s.1.length) s.2.1 s.2.2.2.2.2.1) := by
  unfold F_ref28_on onB refS
  simp only [List.length_map]
  rw [f_rStart t s.1 s.1.length (Nat.le_refl _) hrl hL hr, Option.bind_some]
  obtain ⟨b1, b2⟩ := start_bound (t := t) hL hr s.1.length (Nat.le_refl _)
  have b3 : startI t s.1 s.1.length ≤ 439804651110400 := by
    have : (s.1.length : Int) * 1099511627776 ≤ 400 * 1099511627776 := by omega
    omega
  generalize startI t s.1 s.1.length = L at *
  generalize s.2.2.2.2.2.1 = tk at *
  generalize s.2.1 = st at *
  by_cases h1 : 4096 < tk.length
  · rw [decide_eq_true (show (4096 : Int) < tk.length by omega), decide_eq_false (show ¬ tk.length ≤ 4096 by omega)]
    rfl
  rw [decide_eq_false (show ¬ (4096 : Int) < tk.length by omega), decide_eq_true (show tk.length ≤ 4096 by omega)]
  by_cases h2 : 0 ≤ st
  · by_cases h3 : st ≤ L
    · rw [decide_eq_true h2, decide_eq_true h3, decide_eq_false (show ¬ st < 0 by omega), decide_eq_false (show ¬ L < st by omega)]
      simp only [cond_false, Bool.true_and]
      rw [loop_find_st (X := Bool ⊕ Unit) tk.length (fun i => (posI st tk i, (i : Int))) (fun i => bif onAt L st tk i then none else some (Sum.inl false)) (Sum.inr ()) (show (posI st tk 0, ((0 : Nat) : Int)) = (st, (0 : Int)) from rfl)]
      · rw [all_find]
        cases (List.range tk.length).all (onAt L st tk) <;> rfl
      · intro i hi hprev
        have hpos : 0 ≤ posI st tk i ∧ posI st tk i ≤ L := by
          cases i with
          | zero => exact ⟨h2, h3⟩
          | succ i =>
            have := all_none (n := 0) hprev i (by omega)
            unfold onAt at this
            simp only [Bool.and_eq_true, decide_eq_true_eq] at this
            exact this.2
        simp only []
        rw [decide_eq_true (show (i : Int) < tk.length by omega), decide_eq_true (show (0 : Int) ≤ i by omega), Int.toNat_natCast, rt_def, map_d]
        have r1 : (refT (tk.getD i tk0)).1 = (tk.getD i tk0).1 := rfl
        rw [r1, f_far28 _ _ (by omega), wrap_ok (n := (i : Int) + 1) (by omega)]
        simp only [cond_true, Bool.and_self, chk_yes, Option.bind_some]
        unfold onAt
        cases hw : withB (tk.getD i tk0).1 L with
        | false => rfl
        | true =>
          have hw := with_iff.1 hw
          rw [wrap_ok (n := posI st tk i + (tk.getD i tk0).1) (by omega)]
          have e : posI st tk (i + 1) = posI st tk i + (tk.getD i tk0).1 := rfl
          rw [e, @not_lt_dec 0 (posI st tk i + (tk.getD i tk0).1), @not_lt_dec (posI st tk i + (tk.getD i tk0).1) L]
          cases decide (posI st tk i + (tk.getD i tk0).1 < 0) <;> cases decide (L < posI st tk i + (tk.getD i tk0).1) <;> rfl
      · simp
    · rw [decide_eq_true h2, decide_eq_false h3, decide_eq_false (show ¬ st < 0 by omega), decide_eq_true (show L < st by omega)]
      rfl
  · rw [decide_eq_false h2, decide_eq_true (show st < 0 by omega)]
    rfl
theorem f_rSpeeds (c : Cf) (s : Scr) (hl : s.2.2.2.2.2.1.length ≤ 4611686018427387903) (hms : 1 ≤ c.2.2.2.2.2.2.1 ∧ c.2.2.2.2.2.2.1 ≤ 16777216) (hma : 1 ≤ c.2.2.2.2.2.2.2.1 ∧ c.2.2.2.2.2.2.2.1 ≤ 1048576) :
    F_ref28_speeds c (refS s) = some (speedsB c.2.2.2.2.2.2.1 c.2.2.2.2.2.2.2.1 s.2.2.1 s.2.2.2.2.2.1) := by
  unfold F_ref28_speeds speedsB refS
  simp only [List.length_map]
  generalize c.2.2.2.2.2.2.1 = ms at *
  generalize c.2.2.2.2.2.2.2.1 = ma at *
  generalize s.2.2.2.2.2.1 = tk at *
  generalize s.2.2.1 = v0 at *
  rw [f_far28 _ _ (by omega), Option.bind_some]
  cases h0 : withB v0 ms with
  | false => rfl
  | true =>
    have h0 := with_iff.1 h0
    simp only [Bool.not_true, cond_false, Bool.true_and]
    rw [loop_find_st (X := Bool ⊕ Unit) tk.length (fun i => (prevI v0 tk i, (i : Int))) (fun i => bif speedAt ms ma v0 tk i then none else some (Sum.inl false)) (Sum.inr ()) (show (prevI v0 tk 0, ((0 : Nat) : Int)) = (v0, (0 : Int)) from rfl)]
    · rw [all_find]
      cases (List.range tk.length).all (speedAt ms ma v0 tk) <;> rfl
    · intro i hi hprev
      have hp : -ms ≤ prevI v0 tk i ∧ prevI v0 tk i ≤ ms := by
        unfold prevI
        by_cases hi0 : i = 0
        · rw [if_pos hi0]; exact h0
        · rw [if_neg hi0]
          have := all_none (n := 0) hprev (i - 1) (by omega)
          unfold speedAt at this
          rw [Bool.and_eq_true] at this
          exact with_iff.1 this.1
      simp only []
      rw [decide_eq_true (show (i : Int) < tk.length by omega), decide_eq_true (show (0 : Int) ≤ i by omega), Int.toNat_natCast, rt_def, map_d]
      have r1 : (refT (tk.getD i tk0)).1 = (tk.getD i tk0).1 := rfl
      rw [r1, f_far28 _ _ (by omega), wrap_ok (n := (i : Int) + 1) (by omega)]
      simp only [cond_true, Bool.and_self, chk_yes, Option.bind_some]
      have hn : prevI v0 tk (i + 1) = (tk.getD i tk0).1 := by unfold prevI; rw [if_neg (by omega)]; rfl
      rw [hn]
      unfold speedAt
      cases hw : withB (tk.getD i tk0).1 ms with
      | false => rfl
      | true =>
        have hw := with_iff.1 hw
        rw [wrap_ok (n := (tk.getD i tk0).1 - prevI v0 tk i) (by omega)]
        simp only [Bool.not_true, Bool.not_false, cond_true, cond_false, Bool.true_and]
        rw [f_far28 _ _ (by omega), Option.bind_some]
        cases withB ((tk.getD i tk0).1 - prevI v0 tk i) ma <;> rfl
    · simp
theorem f_rNumbers (c : Cf) (s : Scr) (hl : s.2.2.2.2.2.1.length ≤ 4611686018427387903) (hae : 0 ≤ c.2.2.2.2.2.1 ∧ c.2.2.2.2.2.1 ≤ 1048576) :
    F_ref28_numbers c (refS s) = some (bif !(wheelB c.2.1 c.2.2.1 s.2.2.2.1.1 s.2.2.2.2.1.1 && wheelB c.2.1 c.2.2.1 s.2.2.2.1.2 s.2.2.2.2.1.2) then 5 else bif !numbersB c.2.2.2.2.2.1 s.2.2.2.2.2.1 then 6 else 0) := by
  unfold F_ref28_numbers refS
  simp only [List.length_map]
  generalize c.2.2.2.2.2.1 = ae at *
  generalize c.2.1 = lo
  generalize c.2.2.1 = hi
  generalize s.2.2.2.2.2.1 = tk at *
  generalize s.2.2.2.1.1 = c0
  generalize s.2.2.2.1.2 = c1
  generalize s.2.2.2.2.1.1 = p0
  generalize s.2.2.2.2.1.2 = p1
  have w : ∀ c p : Int, (bif (bif (bif decide (c < lo) then true else decide (hi < c)) then true else decide (p < 0)) then true else decide (c ≤ p)) = !wheelB lo hi c p := by
    intro c p
    unfold wheelB
    rw [@not_lt_dec lo c, @not_lt_dec c hi, @not_lt_dec 0 p, @not_le_dec p c]
    cases decide (c < lo) <;> cases decide (hi < c) <;> cases decide (p < 0) <;> cases decide (c ≤ p) <;> rfl
  rw [w c0 p0, w c1 p1]
  cases wheelB lo hi c0 p0 with
  | false => rfl
  | true =>
    cases wheelB lo hi c1 p1 with
    | false => rfl
    | true =>
      simp only [Bool.not_true, cond_false, Bool.and_self]
      unfold numbersB
      rw [loop_find tk.length (fun i => bif numAt ae (tk.getD i tk0) then none else some (.inl 6)) (.inr ())]
      · rw [all_find]
        cases ((List.range tk.length).all fun i => numAt ae (tk.getD i tk0)) <;> rfl
      · intro i hi
        rw [decide_eq_true (show (i : Int) < tk.length by omega), decide_eq_true (show (0 : Int) ≤ i by omega), Int.toNat_natCast, wrap_ok (n := (i : Int) + 1) (by omega), rt_def, map_d]
        simp only [cond_true, Bool.and_self, chk_yes]
        generalize tk.getD i tk0 = t
        have r1 : (refT t).2.1 = t.2.1 := rfl
        have r2 : (refT t).2.2.1 = t.2.2.1 := rfl
        have r3 : (refT t).2.2.2.1 = t.2.2.2.1 := rfl
        rw [r1, r2, r3]
        unfold numAt
        rw [f_far28 _ 1099511627776 (by omega), f_far28 _ 1099511627776 (by omega), f_far28 _ 1073741824 (by omega), f_far28 _ ae (by omega)]
        cases withB t.2.1.1 1099511627776 <;> cases withB t.2.1.2 1099511627776 <;> cases withB t.2.2.1 1073741824 <;> cases withB t.2.2.2.1 ae <;> rfl
      · simp
theorem deltaI_i16 (x y : Int) : -32768 ≤ deltaI x y ∧ deltaI x y ≤ 32767 := by
  unfold deltaI
  rw [IntKind.wrap_i64, wrapI16, wrapU16, wrapU16, wrapU16]
  omega
theorem f_rDelta (x y : Int) : F_ref09_Delta ((IntKind.i64.wrap (x.tmod 65536 + 65536)).tmod 65536) ((IntKind.i64.wrap (y.tmod 65536 + 65536)).tmod 65536) = some (deltaI x y) := by
  have hx := tmod_small x
  have hy := tmod_small y
  rw [wrap_ok (n := x.tmod 65536 + 65536) (by omega), wrap_ok (n := y.tmod 65536 + 65536) (by omega)]
  obtain ⟨a1, a2, q, a3⟩ := tmod_pos x
  obtain ⟨b1, b2, r, b3⟩ := tmod_pos y
  generalize (x.tmod 65536 + 65536).tmod 65536 = a at *
  generalize (y.tmod 65536 + 65536).tmod 65536 = b at *
  have hd : deltaI x y = (b - a + 32768) % 65536 - 32768 := by
    unfold deltaI
    rw [IntKind.wrap_i64, wrapI16, wrapU16, wrapU16, wrapU16]
    omega
  rw [hd]
  unfold F_ref09_Delta
  simp only []
  rw [wrap_ok (n := b - a) (by omega), wrap_ok (n := b - a + 65536) (by omega), Int.tmod_eq_emod_of_nonneg (by omega)]
  by_cases h : 32768 ≤ (b - a + 65536) % 65536
  · rw [decide_eq_true h]
    simp only [cond_true, Option.bind_some]
    rw [wrap_ok (by omega)]
    refine congrArg some ?_
    omega
  · rw [decide_eq_false h]
    simp only [cond_false, Option.bind_some]
    refine congrArg some ?_
    omega
theorem turnI_E {p ph : Int} {slip : Tick → Int} {tk : List Tick} (h : Calm p ph slip tk) (hl : tk.length ≤ 4096) : ∀ n, n ≤ tk.length → turnI p ph slip tk n = turnE p ph slip tk n := by
  intro n
  induction n with
  | zero => intro _; rfl
  | succ n ih =>
    intro hn
    have h1 := h.bound n (by omega)
    have h2 := h.pv (i := n) (by omega)
    have h3 := h.s n (by omega)
    simp only [turnI, turnE]
    rw [ih (by omega)]
    rw [wrap_ok (n := p * (tk.getD n tk0).1) (by omega), wrap_ok (n := p * (tk.getD n tk0).1 + slip (tk.getD n tk0)) (by omega), wrap_ok (by omega)]
    omega
theorem floorV_div {x c : Int} (hx : I64 x) (hc : 0 < c) (hc2 : I64 c) : floorV x c = x / c := by
  unfold floorV
  rw [f_Floor x 1 c hx ⟨by omega, by omega⟩ hc2, if_neg (by omega), Int.mul_one, quo_floor hc]
  unfold sayI
  have h1 : x / c * c ≤ x := Int.ediv_mul_le x (by omega)
  have h2 := Int.lt_ediv_add_one_mul_self x hc
  have hb : -9223372036854775808 ≤ x / c ∧ x / c ≤ 9223372036854775807 := by
    obtain ⟨x1, x2⟩ := hx
    constructor
    · by_cases h : x < 0
      · have : x ≤ x / c := by
          have := Int.ediv_mul_le x (show c ≠ 0 by omega)
          have h3 : x / c < 0 := Int.ediv_neg_of_neg_of_pos h hc
          have h4 : x < (x / c + 1) * c := h2
          have h5 : (x / c + 1) * c ≤ (x / c + 1) * 1 := Int.mul_le_mul_of_nonpos_left (by omega) (by omega)
          omega
        omega
      · have := Int.ediv_nonneg (a := x) (b := c) (by omega) (by omega)
        omega
    · by_cases h : x < 0
      · have : x / c < 0 := Int.ediv_neg_of_neg_of_pos h hc
        omega
      · have := Int.ediv_le_self c (show 0 ≤ x by omega)
        omega
  rw [if_pos (in64_yes hb)]
  rfl
theorem counts_at {p ci ph : Int} {slip : Tick → Int} {tk : List Tick} (h : Calm p ph slip tk) (hl : tk.length ≤ 4096) (hc : 0 < ci) (hc2 : ci ≤ 8388608) {i : Nat} (hi : i < tk.length) : (countsL p ci ph slip tk).getD i 0 = turnE p ph slip tk (i + 1) / ci := by
  unfold countsL
  rw [map_getD hi, turnI_E h hl _ (by omega)]
  have := h.bound (i + 1) (by omega)
  exact floorV_div ⟨by omega, by omega⟩ hc ⟨by omega, by omega⟩
theorem f_rSaysV0 (c : Cf) (s : Scr) (k : Nat) (h : Nums c s) (hk : k < s.2.2.2.2.2.1.length) (hk0 : 0 < k) :
    F_ref28_Says c (refS s) 0 (k : Int) = some (tachoV c.2.1 c.2.2.1 c.1 ((countsL c.1 s.2.2.2.1.1 s.2.2.2.2.1.1 (fun t => t.2.1.1) s.2.2.2.2.2.1).getD (k - 1) 0) ((countsL c.1 s.2.2.2.1.1 s.2.2.2.2.1.1 (fun t => t.2.1.1) s.2.2.2.2.2.1).getD k 0)) := by
  have hl := h.len
  have hw0 := h.w0
  have hc : 0 < s.2.2.2.1.1 ∧ s.2.2.2.1.1 ≤ 8388608 := by
    have hw := h.right
    obtain ⟨cp, lo, hi, rb, rp, ae, ms, ma, an, sl, ss, ro, ti, br⟩ := c
    have h1 := (right_iff.1 hw).hlo
    have h2 := (right_iff.1 hw).hhi
    simp only at hw0
    omega
  rw [counts_at h.calm0 hl hc.1 hc.2 (show k - 1 < _ by omega), counts_at h.calm0 hl hc.1 hc.2 hk, show k - 1 + 1 = k by omega]
  unfold F_ref28_Says
  have e : ((0 : Int) == 2) = false := rfl
  rw [e]
  simp only [cond_false]
  have ek : IntKind.i64.wrap ((k : Int) + 1) = ((k + 1 : Nat) : Int) := by rw [wrap_ok (by omega)]; omega
  rw [ek, f_Count0 s c.1 k (by omega) hl h.calm0 hc.1, Option.bind_some, f_Count0 s c.1 (k + 1) (by omega) hl h.calm0 hc.1, Option.bind_some, f_rDelta, Option.bind_some]
  have hd := deltaI_i16 (turnE c.1 s.2.2.2.2.1.1 (fun t => t.2.1.1) s.2.2.2.2.2.1 k / s.2.2.2.1.1) (turnE c.1 s.2.2.2.2.1.1 (fun t => t.2.1.1) s.2.2.2.2.2.1 (k + 1) / s.2.2.2.1.1)
  unfold tachoV
  generalize deltaI (turnE c.1 s.2.2.2.2.1.1 (fun t => t.2.1.1) s.2.2.2.2.2.1 k / s.2.2.2.1.1) (turnE c.1 s.2.2.2.2.1.1 (fun t => t.2.1.1) s.2.2.2.2.2.1 (k + 1) / s.2.2.2.1.1) = d at *
  have := f_ref_Tacho d (c.2.1, c.2.2.1) c.1 hd h.wheel
  simp only at this
  rw [this, f_Tacho d (c.2.1, c.2.2.1) c.1 hd h.wheel]
  rfl
theorem f_rSaysV1 (c : Cf) (s : Scr) (k : Nat) (h : Nums c s) (hk : k < s.2.2.2.2.2.1.length) (hk0 : 0 < k) :
    F_ref28_Says c (refS s) 1 (k : Int) = some (tachoV c.2.1 c.2.2.1 c.1 ((countsL c.1 s.2.2.2.1.2 s.2.2.2.2.1.2 (fun t => t.2.1.2) s.2.2.2.2.2.1).getD (k - 1) 0) ((countsL c.1 s.2.2.2.1.2 s.2.2.2.2.1.2 (fun t => t.2.1.2) s.2.2.2.2.2.1).getD k 0)) := by
  have hl := h.len
  have hw0 := h.w1
  have hc : 0 < s.2.2.2.1.2 ∧ s.2.2.2.1.2 ≤ 8388608 := by
    have hw := h.right
    obtain ⟨cp, lo, hi, rb, rp, ae, ms, ma, an, sl, ss, ro, ti, br⟩ := c
    have h1 := (right_iff.1 hw).hlo
    have h2 := (right_iff.1 hw).hhi
    simp only at hw0
    omega
  rw [counts_at h.calm1 hl hc.1 hc.2 (show k - 1 < _ by omega), counts_at h.calm1 hl hc.1 hc.2 hk, show k - 1 + 1 = k by omega]
  unfold F_ref28_Says
  have e : ((1 : Int) == 2) = false := rfl
  rw [e]
  simp only [cond_false]
  have ek : IntKind.i64.wrap ((k : Int) + 1) = ((k + 1 : Nat) : Int) := by rw [wrap_ok (by omega)]; omega
  rw [ek, f_Count1 s c.1 k (by omega) hl h.calm1 hc.1, Option.bind_some, f_Count1 s c.1 (k + 1) (by omega) hl h.calm1 hc.1, Option.bind_some, f_rDelta, Option.bind_some]
  have hd := deltaI_i16 (turnE c.1 s.2.2.2.2.1.2 (fun t => t.2.1.2) s.2.2.2.2.2.1 k / s.2.2.2.1.2) (turnE c.1 s.2.2.2.2.1.2 (fun t => t.2.1.2) s.2.2.2.2.2.1 (k + 1) / s.2.2.2.1.2)
  unfold tachoV
  generalize deltaI (turnE c.1 s.2.2.2.2.1.2 (fun t => t.2.1.2) s.2.2.2.2.2.1 k / s.2.2.2.1.2) (turnE c.1 s.2.2.2.2.1.2 (fun t => t.2.1.2) s.2.2.2.2.2.1 (k + 1) / s.2.2.2.1.2) = d at *
  have := f_ref_Tacho d (c.2.1, c.2.2.1) c.1 hd h.wheel
  simp only at this
  rw [this, f_Tacho d (c.2.1, c.2.2.1) c.1 hd h.wheel]
  rfl
theorem radar_same (c : Cf) (s : Scr) (k : Nat) (h : Nums c s) (hk : k < s.2.2.2.2.2.1.length) :
    wrongR c (s.2.2.2.2.2.1.getD k tk0) = !withB (s.2.2.2.2.2.1.getD k tk0).2.2.1 (errI c.2.2.2.1 c.2.2.2.2.1 ((s.2.2.2.2.2.1.getD k tk0).1 + (s.2.2.2.2.2.1.getD k tk0).2.2.1)) ∧
    radarV c (s.2.2.2.2.2.1.getD k tk0) = ((s.2.2.2.2.2.1.getD k tk0).1 + (s.2.2.2.2.2.1.getD k tk0).2.2.1 - errI c.2.2.2.1 c.2.2.2.2.1 ((s.2.2.2.2.2.1.getD k tk0).1 + (s.2.2.2.2.2.1.getD k tk0).2.2.1),
      (s.2.2.2.2.2.1.getD k tk0).1 + (s.2.2.2.2.2.1.getD k tk0).2.2.1 + errI c.2.2.2.1 c.2.2.2.2.1 ((s.2.2.2.2.2.1.getD k tk0).1 + (s.2.2.2.2.2.1.getD k tk0).2.2.1)) := by
  have hw := h.right
  have hv := h.v k hk
  have hn := h.n k hk
  obtain ⟨cp, lo, hi, rb, rp, ae, ms, ma, an, sl, ss, ro, ti, br⟩ := c
  have R := right_iff.1 hw
  generalize s.2.2.2.2.2.1.getD k tk0 = t at *
  obtain ⟨_, e1, e2⟩ := err_bound (r := t.1 + t.2.2.1) (by omega) R.hrb R.hrp
  constructor
  · unfold wrongR
    rw [wrap_ok (n := t.1 + t.2.2.1) (by omega), f_confError _ _ _ _ _ _ _ _ _ _ _ _ _ _ _ (by omega) R.hrb R.hrp]
    show (!((F_admit_within t.2.2.1 (errI rb rp (t.1 + t.2.2.1))).getD false)) = _
    rw [f_within28 _ _ (by omega)]
    rfl
  · unfold radarV F_sense_Radar
    rw [wrap_ok (n := t.1 + t.2.2.1) (by omega), f_confError _ _ _ _ _ _ _ _ _ _ _ _ _ _ _ (by omega) R.hrb R.hrp, Option.bind_some, f_SAround _ _ ⟨by omega, by omega⟩ ⟨by omega, by omega⟩]
    unfold endsOf
    rw [if_pos ⟨rfl, in64_yes (by omega), in64_yes (by omega), by omega⟩]
    rfl
end Go.Proofs.YtlkcanjbgaeceaaGreat
