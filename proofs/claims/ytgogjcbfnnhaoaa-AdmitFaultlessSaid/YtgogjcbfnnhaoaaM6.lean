/- What the readings of the judge of scripts say: the route, the way, speeds, wheels, numbers. -/
import Derived.Test.YtgogjcbfnnhaoaaM5
import Derived.Test.YtgogjcbfnnhaoaaFnsE2
set_option linter.unusedSimpArgs false
set_option linter.unusedVariables false
namespace Go.Proofs.Ytgogjcbfnnhaoaa
open Go.RowKit
abbrev Tick := Int × ((Int × Int) × (Int × (Int × ((Bool × (Bool × (Bool × Bool))) × (List (List Int) × Bool)))))
abbrev Rd := Int × (Int × (Int × Int))
abbrev Scr := List Int × (Int × (Int × ((Int × Int) × ((Int × Int) × (List Tick × List Rd)))))
def tk0 : Tick := (0, (0, 0), 0, 0, (false, false, false, false), [], false)
def rd0 : Rd := (0, 0, 0, 0)
theorem tk_def (l : List Tick) : ∀ i, l.getD i ((0 : Int), (((0 : Int), (0 : Int)), ((0 : Int), ((0 : Int), ((false, (false, (false, false))), ([], false)))))) = l.getD i tk0 := fun _ => rfl
theorem rd_def (l : List Rd) : ∀ i, l.getD i ((0 : Int), ((0 : Int), ((0 : Int), (0 : Int)))) = l.getD i rd0 := fun _ => rfl
theorem sg_def (l : List Sg) : ∀ i, l.getD i ((0 : Int), ([], [])) = l.getD i sg0 := fun _ => rfl
theorem gp_def (l : List Gp) : ∀ i, l.getD i ((0 : Int), ((0 : Int), ((0 : Int), ((0 : Int), (0 : Int))))) = l.getD i gp0 := fun _ => rfl
def withB (x far : Int) : Bool := decide (-far ≤ x) && decide (x ≤ far)
theorem with_iff {x far : Int} : withB x far = true ↔ -far ≤ x ∧ x ≤ far := by
  unfold withB
  rw [Bool.and_eq_true, decide_eq_true_eq, decide_eq_true_eq]
theorem f_within28 (x far : Int) (h : -4611686018427387904 ≤ far ∧ far ≤ 4611686018427387904) : F_admit_within x far = some (withB x far) := by
  unfold F_admit_within withB
  rw [wrap_ok (n := 0 - far) (by omega), Int.zero_sub]
  simp only []
  cases decide (-far ≤ x) <;> rfl
def anyB (n : Nat) (b : Nat → Bool) : Bool := (List.range n).any b
theorem any_find {X : Type} (n : Nat) (b : Nat → Bool) (x : Nat → X) : ((List.range n).findSome? fun i => bif b i then some (x i) else none) = none ∧ anyB n b = false ∨ ∃ i, ((List.range n).findSome? fun i => bif b i then some (x i) else none) = some (x i) ∧ anyB n b = true := by
  unfold anyB
  generalize List.range n = l
  induction l with
  | nil => exact .inl ⟨rfl, rfl⟩
  | cons a l ih =>
    rw [List.findSome?_cons, List.any_cons]
    cases h : b a with
    | true => exact .inr ⟨a, rfl, rfl⟩
    | false => simpa using ih
theorem f_Contains (l : List Int) (v : Int) (h : l.length ≤ 4611686018427387903) : F_slices_Contains_int_int l v = some (anyB l.length fun i => l.getD i 0 == v) := by
  unfold F_slices_Contains_int_int F_slices_Index_int_int
  rw [loop_find l.length (fun i => bif l.getD i 0 == v then some (.inl (i : Int)) else none) (.inr ())]
  · rcases any_find l.length (fun i => l.getD i 0 == v) (fun i => (Sum.inl (i : Int) : Int ⊕ Unit)) with ⟨e1, e2⟩ | ⟨i, e1, e2⟩
    · rw [e1, e2]; rfl
    · rw [e1, e2]
      simp
  · intro i hi
    rw [decide_eq_true (show (i : Int) < l.length by omega), decide_eq_true (show (0 : Int) ≤ i by omega), Int.toNat_natCast, wrap_ok (n := (i : Int) + 1) (by omega)]
    simp only [cond_true, Bool.and_self, chk_yes]
    have : (v == l.getD i 0) = (l.getD i 0 == v) := by rw [Bool.eq_iff_iff]; simp only [beq_iff_eq]; exact eq_comm
    rw [this]
    cases (l.getD i 0 == v) <;> rfl
  · simp
/-- Does a segment come behind another one? -/
def followsB (t : Tk) (a b : Int) : Bool := decide (0 ≤ a) && decide (a < t.1.length) && anyB (t.1.getD a.toNat sg0).2.2.length fun i => (t.1.getD a.toNat sg0).2.2.getD i 0 == b
theorem getD_mem {α : Type} {l : List α} {i : Nat} {d : α} (h : i < l.length) : l.getD i d ∈ l := by rw [getD_lt h]; exact List.getElem_mem h
theorem f_Follows (t : Tk) (a b : Int) (hN : ∀ s ∈ t.1, s.2.2.length ≤ 4611686018427387903) : F_track_Track_Follows t a b = some (followsB t a b) := by
  unfold F_track_Track_Follows followsB
  simp only []
  by_cases h0 : 0 ≤ a
  · by_cases h1 : a < t.1.length
    · obtain ⟨k, rfl⟩ : ∃ k : Nat, a = (k : Int) := ⟨a.toNat, by omega⟩
      rw [decide_eq_true h0, decide_eq_true h1, Int.toNat_natCast, sg_def]
      simp only [cond_true, Bool.and_self, Bool.true_or, chk_yes]
      have hm := hN _ (getD_mem (d := sg0) (show k < t.1.length by omega))
      rw [f_Contains _ _ hm, Option.bind_some]
      rfl
    · rw [decide_eq_false h1]
      simp [chk]
  · rw [decide_eq_false h0]
    simp [chk]
/-- Do the segments come one behind the other? -/
def stepB (t : Tk) (l : List Int) (i : Nat) : Bool := decide (0 ≤ l.getD i 0) && decide (l.getD i 0 < t.1.length) && (decide (i = 0) || followsB t (l.getD (i - 1) 0) (l.getD i 0))
def routeB (t : Tk) (l : List Int) : Bool := decide (1 ≤ l.length) && decide (l.length ≤ 400) && (List.range l.length).all (stepB t l)
theorem f_route (cp lo hi rb rp ae ms ma an sl ss ro ti br : Int) (sg : List Sg) (gs : List Gp) (rt : List Int) (st v0 c0 c1 p0 p1 : Int) (tk : List Tick) (rd : List Rd) (pl k0 k1 : List Int) (hN : ∀ s ∈ sg, s.2.2.length ≤ 4611686018427387903) : F_admit_judge_route cp lo hi rb rp ae ms ma an sl ss ro ti br sg gs rt st v0 c0 c1 p0 p1 tk rd pl k0 k1 = some (routeB (sg, gs) rt, cp, lo, hi, rb, rp, ae, ms, ma, an, sl, ss, ro, ti, br, sg, gs, rt, st, v0, c0, c1, p0, p1, tk, rd, pl, k0, k1) := by
  unfold F_admit_judge_route routeB
  simp only []
  by_cases h0 : rt.length = 0
  · have e0 : ((rt.length : Int) == 0) = true := by simp [h0]
    rw [e0, decide_eq_false (show ¬ 1 ≤ rt.length by omega)]
    rfl
  have e0 : ((rt.length : Int) == 0) = false := beq_false_of_ne (by omega)
  rw [e0, decide_eq_true (show 1 ≤ rt.length by omega)]
  by_cases h1 : 400 < rt.length
  · rw [decide_eq_true (show (400 : Int) < rt.length by omega), decide_eq_false (show ¬ rt.length ≤ 400 by omega)]
    rfl
  rw [decide_eq_false (show ¬ (400 : Int) < rt.length by omega), decide_eq_true (show rt.length ≤ 400 by omega)]
  simp only [cond_false, Bool.true_and]
  rw [loop_find rt.length (fun i => bif stepB (sg, gs) rt i then none else some (.inl false)) (.inr ())]
  · rw [all_find]
    cases (List.range rt.length).all (stepB (sg, gs) rt) <;> rfl
  · intro i hi
    have ew : IntKind.i64.wrap ((i : Int) - 1) = i - 1 := wrap_ok (by omega)
    have ew2 : IntKind.i64.wrap ((i : Int) + 1) = i + 1 := wrap_ok (by omega)
    rw [decide_eq_true (show (i : Int) < rt.length by omega), decide_eq_true (show (0 : Int) ≤ i by omega), ew, ew2, Int.toNat_natCast]
    simp only [cond_true, Bool.and_self, chk_yes]
    have fin : ∀ b c : Bool, b = !c → (bif b then some (Sum.inr (Sum.inl false)) else some (Sum.inl ((i : Int) + 1))) = some (stepOut ((i : Int) + 1) (bif c then none else some (Sum.inl false) : Option (Bool ⊕ Unit))) := by
      rintro b c rfl; cases c <;> rfl
    by_cases hi0 : i = 0
    · have e1 : decide ((0 : Int) < (i : Int)) = false := by simp [hi0]
      rw [e1]
      simp only [Bool.false_and, Bool.not_false, Bool.or_true, chk_yes, cond_false, Option.bind_some]
      refine fin _ _ ?_
      unfold stepB
      rw [decide_eq_true hi0, @not_lt_dec 0 (rt.getD i 0), @not_le_dec (rt.getD i 0) ((sg, gs) : Tk).1.length]
      cases decide (rt.getD i 0 < 0) <;> cases decide ((sg.length : Int) ≤ rt.getD i 0) <;> rfl
    · have e1 : decide ((0 : Int) < (i : Int)) = true := by simp; omega
      have et : ((i : Int) - 1).toNat = i - 1 := by omega
      rw [e1, et, chk_yes (by rw [decide_eq_true (show (0 : Int) ≤ (i : Int) - 1 by omega), decide_eq_true (show (i : Int) - 1 < rt.length by omega)]; rfl), f_Follows _ _ _ hN]
      unfold stepB
      rw [decide_eq_false hi0, @not_lt_dec 0 (rt.getD i 0), @not_le_dec (rt.getD i 0) ((sg, gs) : Tk).1.length]
      cases decide (rt.getD i 0 < 0) <;> cases decide ((sg.length : Int) ≤ rt.getD i 0) <;> cases followsB (sg, gs) (rt.getD (i - 1) 0) (rt.getD i 0) <;> rfl
  · simp
theorem route_in {t : Tk} {l : List Int} (h : routeB t l = true) : 1 ≤ l.length ∧ l.length ≤ 400 ∧ ∀ i, i < l.length → 0 ≤ l.getD i 0 ∧ l.getD i 0 < t.1.length := by
  unfold routeB at h
  simp only [Bool.and_eq_true, decide_eq_true_eq, List.all_eq_true, List.mem_range] at h
  refine ⟨h.1.1, h.1.2, fun i hi => ?_⟩
  have := h.2 i hi
  unfold stepB at this
  simp only [Bool.and_eq_true, decide_eq_true_eq] at this
  exact this.1
/-- Where a segment of a route begins. -/
def startI (t : Tk) (l : List Int) : Nat → Int
  | 0 => 0
  | n + 1 => startI t l n + (t.1.getD (l.getD n 0).toNat sg0).1
/-- All segments' lengths may be. -/
def LensOK (t : Tk) : Prop := ∀ i, i < t.1.length → 1 ≤ (t.1.getD i sg0).1 ∧ (t.1.getD i sg0).1 ≤ 1099511627776
theorem start_bound {t : Tk} {l : List Int} (hL : LensOK t) (hr : ∀ i, i < l.length → 0 ≤ l.getD i 0 ∧ l.getD i 0 < t.1.length) : ∀ n, n ≤ l.length → 0 ≤ startI t l n ∧ startI t l n ≤ n * 1099511627776 := by
  intro n
  induction n with
  | zero => intro _; simp [startI]
  | succ n ih =>
    intro hn
    have h1 := ih (by omega)
    have h2 := hr n (by omega)
    have h3 := hL (l.getD n 0).toNat (by omega)
    simp only [startI]
    rw [Int.natCast_add]
    omega
theorem f_Start (t : Tk) (l : List Int) (n : Nat) (hn : n ≤ l.length) (hl : l.length ≤ 400) (hL : LensOK t) (hr : ∀ i, i < l.length → 0 ≤ l.getD i 0 ∧ l.getD i 0 < t.1.length) : F_world_Start t l (n : Int) = some (startI t l n) := by
  unfold F_world_Start
  rw [chk_yes (by simp; omega)]
  have hlen : ((l.take (n : Int).toNat).drop (0 : Int).toNat).length = n := by simp; omega
  have hget : ∀ i, i < n → ((l.take (n : Int).toNat).drop (0 : Int).toNat).getD i 0 = l.getD i 0 := by
    intro i hi
    rw [getD_lt (by omega), getD_lt (by omega)]
    simp
  generalize (l.take (n : Int).toNat).drop (0 : Int).toNat = m at hlen hget ⊢
  simp only []
  rw [hlen, show ((0 : Int), (0 : Int)) = (startI t l 0, ((0 : Nat) : Int)) from rfl]
  rw [loop_run (n := n) (st := fun i => (startI t l i, (i : Int))) (x := startI t l n)]
  · rfl
  · intro i hi
    simp only []
    obtain ⟨r1, r2⟩ := hr i (by omega)
    have hb := start_bound hL hr i (by omega)
    have hb2 := hL (l.getD i 0).toNat (by omega)
    rw [decide_eq_true (show (i : Int) < n by omega), decide_eq_true (show (0 : Int) ≤ i by omega), Int.toNat_natCast, hget i hi, decide_eq_true r1, decide_eq_true r2, sg_def, wrap_ok (n := (i : Int) + 1) (by omega), wrap_ok (n := startI t l i + (t.1.getD (l.getD i 0).toNat sg0).1) (by omega)]
    rfl
  · simp
/-- Where the train is behind so many cycles. -/
def posI (st : Int) (tk : List Tick) : Nat → Int
  | 0 => st
  | n + 1 => posI st tk n + (tk.getD n tk0).1
def onAt (L st : Int) (tk : List Tick) (i : Nat) : Bool := withB (tk.getD i tk0).1 L && (decide (0 ≤ posI st tk (i + 1)) && decide (posI st tk (i + 1) ≤ L))
/-- Does the train stay on its route? -/
def onB (L st : Int) (tk : List Tick) : Bool := decide (tk.length ≤ 4096) && decide (0 ≤ st) && decide (st ≤ L) && (List.range tk.length).all (onAt L st tk)
theorem all_none {n : Nat} {b : Nat → Bool} {X : Type} {x : X} {i : Nat} (h : ∀ j, j < i → (bif b j then none else some x) = (none : Option X)) : ∀ j, j < i → b j = true := by
  intro j hj
  have := h j hj
  cases hb : b j with
  | true => rfl
  | false => rw [hb] at this; cases this
theorem f_on (cp lo hi rb rp ae ms ma an sl ss ro ti br : Int) (sg : List Sg) (gs : List Gp) (rt : List Int) (st v0 c0 c1 p0 p1 : Int) (tk : List Tick) (rd : List Rd) (pl k0 k1 : List Int) (hl : tk.length ≤ 4611686018427387903) (hrl : rt.length ≤ 400) (hL : LensOK (sg, gs)) (hr : ∀ i, i < rt.length → 0 ≤ rt.getD i 0 ∧ rt.getD i 0 < sg.length) :
    F_admit_judge_on cp lo hi rb rp ae ms ma an sl ss ro ti br sg gs rt st v0 c0 c1 p0 p1 tk rd pl k0 k1 = some (onB (startI (sg, gs) rt rt.length) st tk, cp, lo, hi, rb, rp, ae, ms, ma, an, sl, ss, ro, ti, br, sg, gs, rt, st, v0, c0, c1, p0, p1, tk, rd, pl, k0, k1) := by
  unfold F_admit_judge_on onB
  rw [f_Start (sg, gs) rt rt.length (Nat.le_refl _) hrl hL hr, Option.bind_some]
  obtain ⟨b1, b2⟩ := start_bound (t := (sg, gs)) hL hr rt.length (Nat.le_refl _)
  have b3 : startI (sg, gs) rt rt.length ≤ 439804651110400 := by
    have : (rt.length : Int) * 1099511627776 ≤ 400 * 1099511627776 := by omega
    omega
  generalize startI (sg, gs) rt rt.length = L at *
  simp only []
  by_cases h1 : 4096 < tk.length
  · rw [decide_eq_true (show (4096 : Int) < tk.length by omega), decide_eq_false (show ¬ tk.length ≤ 4096 by omega)]
    rfl
  rw [decide_eq_false (show ¬ (4096 : Int) < tk.length by omega), decide_eq_true (show tk.length ≤ 4096 by omega)]
  by_cases h2 : 0 ≤ st
  · by_cases h3 : st ≤ L
    · rw [decide_eq_true h2, decide_eq_true h3, decide_eq_false (show ¬ st < 0 by omega), decide_eq_false (show ¬ L < st by omega)]
      simp only [cond_false, Bool.true_and]
      rw [loop_find_st (X := Bool ⊕ Unit) tk.length (fun i => (posI st tk i, (i : Int))) (fun i => bif onAt L st tk i then none else some (Sum.inl false)) (Sum.inr ()) (show (posI st tk 0, ((0 : Nat) : Int)) = (st, (0 : Int)) from rfl)]
      · rw [all_find]
        cases (List.range tk.length).all (onAt L st tk) <;> rfl
      · intro i hi hprev
        have hpos : 0 ≤ posI st tk i ∧ posI st tk i ≤ L := by
          cases i with
          | zero => exact ⟨h2, h3⟩
          | succ i =>
            have := all_none (n := 0) hprev i (by omega)
            unfold onAt at this
            simp only [Bool.and_eq_true, decide_eq_true_eq] at this
            exact this.2
        simp only []
        rw [decide_eq_true (show (i : Int) < tk.length by omega), decide_eq_true (show (0 : Int) ≤ i by omega), Int.toNat_natCast, tk_def, f_within28 _ _ (by omega), wrap_ok (n := (i : Int) + 1) (by omega)]
        simp only [cond_true, Bool.and_self, chk_yes, Option.bind_some]
        unfold onAt
        cases hw : withB (tk.getD i tk0).1 L with
        | false => rfl
        | true =>
          have hw := with_iff.1 hw
          rw [wrap_ok (n := posI st tk i + (tk.getD i tk0).1) (by omega)]
          have e : posI st tk (i + 1) = posI st tk i + (tk.getD i tk0).1 := rfl
          rw [e, @not_lt_dec 0 (posI st tk i + (tk.getD i tk0).1), @not_lt_dec (posI st tk i + (tk.getD i tk0).1) L]
          cases decide (posI st tk i + (tk.getD i tk0).1 < 0) <;> cases decide (L < posI st tk i + (tk.getD i tk0).1) <;> rfl
      · simp
    · rw [decide_eq_true h2, decide_eq_false h3, decide_eq_false (show ¬ st < 0 by omega), decide_eq_true (show L < st by omega)]
      rfl
  · rw [decide_eq_false h2, decide_eq_true (show st < 0 by omega)]
    rfl
end Go.Proofs.Ytgogjcbfnnhaoaa

/- What the readings of the judge of scripts say: speeds, wheels, numbers, places, counts, sensors. -/
set_option linter.unusedSimpArgs false
set_option linter.unusedVariables false
namespace Go.Proofs.Ytgogjcbfnnhaoaa
open Go.RowKit
theorem bind_inv {S X Y : Type} {f : S → Option (S ⊕ X)} {k : X → Option Y} {P : Y → Prop} {s : S} (I : S → Prop) (μ : S → Nat) (Q : X → Prop) (hI : I s)
    (h : ∀ s, I s → (∃ x, f s = some (.inr x) ∧ Q x) ∨ (∃ s', f s = some (.inl s') ∧ I s' ∧ μ s' < μ s)) (hk : ∀ x, Q x → ∃ y, k x = some y ∧ P y) : ∃ y, Option.bind (loopO f s) k = some y ∧ P y := by
  obtain ⟨x, h1, h2⟩ := loopO_inv I μ Q h s hI
  rw [h1]
  exact hk x h2
theorem wrap_i64 (x : Int) : I64 (IntKind.i64.wrap x) := by
  rw [IntKind.wrap_i64]
  exact ⟨by omega, by omega⟩
/-- The speed ahead. -/
def prevI (v0 : Int) (tk : List Tick) (i : Nat) : Int := if i = 0 then v0 else (tk.getD (i - 1) tk0).1
def speedAt (ms ma v0 : Int) (tk : List Tick) (i : Nat) : Bool := withB (tk.getD i tk0).1 ms && withB ((tk.getD i tk0).1 - prevI v0 tk i) ma
def speedsB (ms ma v0 : Int) (tk : List Tick) : Bool := withB v0 ms && (List.range tk.length).all (speedAt ms ma v0 tk)
theorem f_speeds (cp lo hi rb rp ae ms ma an sl ss ro ti br : Int) (sg : List Sg) (gs : List Gp) (rt : List Int) (st v0 c0 c1 p0 p1 : Int) (tk : List Tick) (rd : List Rd) (pl k0 k1 : List Int) (hl : tk.length ≤ 4611686018427387903) (hms : 1 ≤ ms ∧ ms ≤ 16777216) (hma : 1 ≤ ma ∧ ma ≤ 1048576) : F_admit_judge_speeds cp lo hi rb rp ae ms ma an sl ss ro ti br sg gs rt st v0 c0 c1 p0 p1 tk rd pl k0 k1 = some (speedsB ms ma v0 tk, cp, lo, hi, rb, rp, ae, ms, ma, an, sl, ss, ro, ti, br, sg, gs, rt, st, v0, c0, c1, p0, p1, tk, rd, pl, k0, k1) := by
  unfold F_admit_judge_speeds speedsB
  rw [f_within28 _ _ (by omega), Option.bind_some]
  cases h0 : withB v0 ms with
  | false => rfl
  | true =>
    have h0 := with_iff.1 h0
    simp only [Bool.not_true, cond_false, Bool.true_and]
    rw [loop_find_st (X := Bool ⊕ Unit) tk.length (fun i => ((i : Int), prevI v0 tk i)) (fun i => bif speedAt ms ma v0 tk i then none else some (Sum.inl false)) (Sum.inr ()) (show (((0 : Nat) : Int), prevI v0 tk 0) = ((0 : Int), v0) from rfl)]
    · rw [all_find]
      cases (List.range tk.length).all (speedAt ms ma v0 tk) <;> rfl
    · intro i hi hprev
      have hp : -ms ≤ prevI v0 tk i ∧ prevI v0 tk i ≤ ms := by
        unfold prevI
        by_cases hi0 : i = 0
        · rw [if_pos hi0]; exact h0
        · rw [if_neg hi0]
          have := all_none (n := 0) hprev (i - 1) (by omega)
          unfold speedAt at this
          rw [Bool.and_eq_true] at this
          exact with_iff.1 this.1
      simp only []
      rw [decide_eq_true (show (i : Int) < tk.length by omega), decide_eq_true (show (0 : Int) ≤ i by omega), Int.toNat_natCast, tk_def, f_within28 _ _ (by omega), wrap_ok (n := (i : Int) + 1) (by omega)]
      simp only [cond_true, Bool.and_self, chk_yes, Option.bind_some]
      have hn : prevI v0 tk (i + 1) = (tk.getD i tk0).1 := by unfold prevI; rw [if_neg (by omega)]; rfl
      rw [hn]
      unfold speedAt
      cases hw : withB (tk.getD i tk0).1 ms with
      | false => rfl
      | true =>
        have hw := with_iff.1 hw
        rw [wrap_ok (n := (tk.getD i tk0).1 - prevI v0 tk i) (by omega)]
        simp only [Bool.not_true, Bool.not_false, cond_true, cond_false, Bool.true_and]
        rw [f_within28 _ _ (by omega), Option.bind_some]
        cases withB ((tk.getD i tk0).1 - prevI v0 tk i) ma <;> rfl
    · simp
def wheelB (lo hi c p : Int) : Bool := decide (lo ≤ c) && decide (c ≤ hi) && decide (0 ≤ p) && decide (p < c)
theorem f_wheels (cp lo hi rb rp ae ms ma an sl ss ro ti br : Int) (sg : List Sg) (gs : List Gp) (rt : List Int) (st v0 c0 c1 p0 p1 : Int) (tk : List Tick) (rd : List Rd) (pl k0 k1 : List Int) : F_admit_judge_wheels cp lo hi rb rp ae ms ma an sl ss ro ti br sg gs rt st v0 c0 c1 p0 p1 tk rd pl k0 k1 = some (wheelB lo hi c0 p0 && wheelB lo hi c1 p1, cp, lo, hi, rb, rp, ae, ms, ma, an, sl, ss, ro, ti, br, sg, gs, rt, st, v0, c0, c1, p0, p1, tk, rd, pl, k0, k1) := by
  unfold F_admit_judge_wheels F_conf_Config_Circ F_span_Span_Has wheelB
  simp only [Option.bind_some]
  rw [@not_lt_dec 0 p0, @not_le_dec p0 c0, @not_lt_dec 0 p1, @not_le_dec p1 c1]
  cases decide (lo ≤ c0) <;> cases decide (c0 ≤ hi) <;> cases decide (p0 < 0) <;> cases decide (c0 ≤ p0) <;> first | rfl | skip
  cases decide (lo ≤ c1) <;> cases decide (c1 ≤ hi) <;> cases decide (p1 < 0) <;> cases decide (c1 ≤ p1) <;> rfl
def numAt (ae : Int) (t : Tick) : Bool := withB t.2.1.1 1099511627776 && withB t.2.1.2 1099511627776 && withB t.2.2.1 1073741824 && withB t.2.2.2.1 ae
def numbersB (ae : Int) (tk : List Tick) : Bool := (List.range tk.length).all fun i => numAt ae (tk.getD i tk0)
theorem f_numbers (cp lo hi rb rp ae ms ma an sl ss ro ti br : Int) (sg : List Sg) (gs : List Gp) (rt : List Int) (st v0 c0 c1 p0 p1 : Int) (tk : List Tick) (rd : List Rd) (pl k0 k1 : List Int) (hl : tk.length ≤ 4611686018427387903) (hae : 0 ≤ ae ∧ ae ≤ 1048576) : F_admit_judge_numbers cp lo hi rb rp ae ms ma an sl ss ro ti br sg gs rt st v0 c0 c1 p0 p1 tk rd pl k0 k1 = some (numbersB ae tk, cp, lo, hi, rb, rp, ae, ms, ma, an, sl, ss, ro, ti, br, sg, gs, rt, st, v0, c0, c1, p0, p1, tk, rd, pl, k0, k1) := by
  unfold F_admit_judge_numbers numbersB
  rw [loop_find tk.length (fun i => bif numAt ae (tk.getD i tk0) then none else some (.inl false)) (.inr ())]
  · rw [all_find]
    cases ((List.range tk.length).all fun i => numAt ae (tk.getD i tk0)) <;> rfl
  · intro i hi
    rw [decide_eq_true (show (i : Int) < tk.length by omega), decide_eq_true (show (0 : Int) ≤ i by omega), Int.toNat_natCast, wrap_ok (n := (i : Int) + 1) (by omega)]
    simp only [cond_true, Bool.and_self, chk_yes, tk_def]
    generalize tk.getD i tk0 = t
    unfold numAt
    rw [f_within28 _ 1099511627776 (by omega), f_within28 _ 1099511627776 (by omega), f_within28 _ 1073741824 (by omega), f_within28 _ ae (by omega)]
    cases withB t.2.1.1 1099511627776 <;> cases withB t.2.1.2 1099511627776 <;> cases withB t.2.2.1 1073741824 <;> cases withB t.2.2.2.1 ae <;> rfl
  · simp
/-- The places at the end of each cycle. -/
def placesL (st : Int) (tk : List Tick) : List Int := (List.range tk.length).map fun i => posI st tk (i + 1)
theorem range_map_succ {α : Type} (f : Nat → α) (i : Nat) : (List.range i).map f ++ [f i] = (List.range (i + 1)).map f := by
  rw [List.range_succ, List.map_append]; rfl
theorem f_Places (s : Scr) (hl : s.2.2.2.2.2.1.length ≤ 4096) (hp : ∀ i, i ≤ s.2.2.2.2.2.1.length → -4611686018427387904 ≤ posI s.2.1 s.2.2.2.2.2.1 i ∧ posI s.2.1 s.2.2.2.2.2.1 i ≤ 4611686018427387903) : F_world_Script_Places s = some (placesL s.2.1 s.2.2.2.2.2.1) := by
  unfold F_world_Script_Places
  simp only []
  generalize s.2.2.2.2.2.1 = tk at *
  generalize s.2.1 = st at *
  rw [show (st, ([] : List Int), (0 : Int)) = (posI st tk 0, (List.range 0).map (fun i => posI st tk (i + 1)), ((0 : Nat) : Int)) from rfl]
  rw [loop_run (n := tk.length) (st := fun i => (posI st tk i, (List.range i).map (fun i => posI st tk (i + 1)), (i : Int))) (x := placesL st tk)]
  · rfl
  · intro i hi
    simp only []
    have h1 := hp (i + 1) (by omega)
    have e : posI st tk (i + 1) = posI st tk i + (tk.getD i tk0).1 := rfl
    rw [decide_eq_true (show (i : Int) < tk.length by omega), decide_eq_true (show (0 : Int) ≤ i by omega), Int.toNat_natCast, tk_def, wrap_ok (n := (i : Int) + 1) (by omega), ← range_map_succ (fun i => posI st tk (i + 1)) i]
    simp only [cond_true, Bool.and_self, chk_yes]
    rw [wrap_ok (n := posI st tk i + (tk.getD i tk0).1) (by omega), chk_yes (by simp; omega), e]
    rfl
  · simp [placesL]
/-- How far a wheel has turned. -/
def turnI (p ph : Int) (slip : Tick → Int) (tk : List Tick) : Nat → Int
  | 0 => ph
  | n + 1 => IntKind.i64.wrap (turnI p ph slip tk n + IntKind.i64.wrap (IntKind.i64.wrap (p * (tk.getD n tk0).1) + slip (tk.getD n tk0)))
noncomputable def floorV (x c : Int) : Int := ((F_ratio_Floor x 1 c).getD (0, 0)).1
noncomputable def countsL (p c ph : Int) (slip : Tick → Int) (tk : List Tick) : List Int := (List.range tk.length).map fun i => floorV (turnI p ph slip tk (i + 1)) c
theorem turn_i64 {p ph : Int} {slip : Tick → Int} {tk : List Tick} (n : Nat) : I64 (turnI p ph slip tk (n + 1)) := wrap_i64 _
theorem f_FloorV (x c : Int) (hx : I64 x) (hc : I64 c) : ∃ e, F_ratio_Floor x 1 c = some (floorV x c, e) := by
  have := f_Floor x 1 c hx ⟨by omega, by omega⟩ hc
  unfold floorV
  rw [this]
  exact ⟨_, rfl⟩
theorem f_Counts0 (s : Scr) (c : Cf) (hl : s.2.2.2.2.2.1.length ≤ 4096) (hc : I64 s.2.2.2.1.1) : F_world_Script_Counts s c 0 = some (countsL c.1 s.2.2.2.1.1 s.2.2.2.2.1.1 (fun t => t.2.1.1) s.2.2.2.2.2.1) := by
  unfold F_world_Script_Counts
  have e0 : ∀ (a b : Int), List.getD [a, b] (0 : Int).toNat (0 : Int) = a := fun _ _ => rfl
  simp only [e0]
  generalize s.2.2.2.2.2.1 = tk at *
  generalize s.2.2.2.2.1.1 = ph at *
  generalize s.2.2.2.1.1 = ci at *
  have g : (decide ((0 : Int) ≤ 0) && decide ((0 : Int) < 2)) = true := by decide
  rw [chk_yes g]
  rw [show (ph, (0 : Int), ([] : List Int)) = (turnI c.1 ph (fun t => t.2.1.1) tk 0, ((0 : Nat) : Int), (List.range 0).map (fun i => floorV (turnI c.1 ph (fun t => t.2.1.1) tk (i + 1)) ci)) from rfl]
  rw [loop_run (n := tk.length) (st := fun i => (turnI c.1 ph (fun t => t.2.1.1) tk i, (i : Int), (List.range i).map (fun i => floorV (turnI c.1 ph (fun t => t.2.1.1) tk (i + 1)) ci))) (x := countsL c.1 ci ph (fun t => t.2.1.1) tk)]
  · rfl
  · intro i hi
    simp only []
    rw [decide_eq_true (show (i : Int) < tk.length by omega), decide_eq_true (show (0 : Int) ≤ i by omega), Int.toNat_natCast, tk_def, wrap_ok (n := (i : Int) + 1) (by omega), ← range_map_succ (fun i => floorV (turnI c.1 ph (fun t => t.2.1.1) tk (i + 1)) ci) i]
    simp only [cond_true, Bool.and_self, chk_yes, g]
    have e : turnI c.1 ph (fun t => t.2.1.1) tk (i + 1) = IntKind.i64.wrap (turnI c.1 ph (fun t => t.2.1.1) tk i + IntKind.i64.wrap (IntKind.i64.wrap (c.1 * (tk.getD i tk0).1) + (tk.getD i tk0).2.1.1)) := rfl
    obtain ⟨err, he⟩ := f_FloorV _ ci (turn_i64 (p := c.1) (ph := ph) (slip := fun t => t.2.1.1) (tk := tk) i) hc
    rw [← e, he, Option.bind_some, chk_yes (by simp; omega)]
    rfl
  · simp [countsL]
theorem f_Counts1 (s : Scr) (c : Cf) (hl : s.2.2.2.2.2.1.length ≤ 4096) (hc : I64 s.2.2.2.1.2) : F_world_Script_Counts s c 1 = some (countsL c.1 s.2.2.2.1.2 s.2.2.2.2.1.2 (fun t => t.2.1.2) s.2.2.2.2.2.1) := by
  unfold F_world_Script_Counts
  have e0 : ∀ (a b : Int), List.getD [a, b] (1 : Int).toNat (0 : Int) = b := fun _ _ => rfl
  simp only [e0]
  generalize s.2.2.2.2.2.1 = tk at *
  generalize s.2.2.2.2.1.2 = ph at *
  generalize s.2.2.2.1.2 = ci at *
  have g : (decide ((0 : Int) ≤ 1) && decide ((1 : Int) < 2)) = true := by decide
  rw [chk_yes g]
  rw [show (ph, (0 : Int), ([] : List Int)) = (turnI c.1 ph (fun t => t.2.1.2) tk 0, ((0 : Nat) : Int), (List.range 0).map (fun i => floorV (turnI c.1 ph (fun t => t.2.1.2) tk (i + 1)) ci)) from rfl]
  rw [loop_run (n := tk.length) (st := fun i => (turnI c.1 ph (fun t => t.2.1.2) tk i, (i : Int), (List.range i).map (fun i => floorV (turnI c.1 ph (fun t => t.2.1.2) tk (i + 1)) ci))) (x := countsL c.1 ci ph (fun t => t.2.1.2) tk)]
  · rfl
  · intro i hi
    simp only []
    rw [decide_eq_true (show (i : Int) < tk.length by omega), decide_eq_true (show (0 : Int) ≤ i by omega), Int.toNat_natCast, tk_def, wrap_ok (n := (i : Int) + 1) (by omega), ← range_map_succ (fun i => floorV (turnI c.1 ph (fun t => t.2.1.2) tk (i + 1)) ci) i]
    simp only [cond_true, Bool.and_self, chk_yes, g]
    have e : turnI c.1 ph (fun t => t.2.1.2) tk (i + 1) = IntKind.i64.wrap (turnI c.1 ph (fun t => t.2.1.2) tk i + IntKind.i64.wrap (IntKind.i64.wrap (c.1 * (tk.getD i tk0).1) + (tk.getD i tk0).2.1.2)) := rfl
    obtain ⟨err, he⟩ := f_FloorV _ ci (turn_i64 (p := c.1) (ph := ph) (slip := fun t => t.2.1.2) (tk := tk) i) hc
    rw [← e, he, Option.bind_some, chk_yes (by simp; omega)]
    rfl
  · simp [countsL]
end Go.Proofs.Ytgogjcbfnnhaoaa

/- What the readings of the judge of scripts say: sensors. -/
set_option linter.unusedSimpArgs false
set_option linter.unusedVariables false
namespace Go.Proofs.Ytgogjcbfnnhaoaa
open Go.RowKit
theorem say_i64 (n : Int) : I64 (sayI n).1 := by
  unfold sayI
  by_cases h : in64 n = true
  · rw [if_pos h]
    unfold in64 at h
    simp only [Bool.and_eq_true, decide_eq_true_eq] at h
    exact ⟨by simp only; omega, by simp only; omega⟩
  · rw [if_neg h]; exact ⟨by decide, by decide⟩
theorem error_total (c : Cf) (r : Int) (hr : I64 r) (hp : I64 c.2.2.2.2.1) : ∃ y, F_conf_Config_Error c r = some y ∧ I64 y := by
  unfold F_conf_Config_Error
  simp only []
  have h1 : I64 (if IntKind.i64.wrap (0 - r) > r then IntKind.i64.wrap (0 - r) else r) := by
    split
    · exact wrap_i64 _
    · exact hr
  rw [f_Floor _ _ _ h1 hp ⟨by omega, by omega⟩, Option.bind_some]
  exact ⟨_, rfl, wrap_i64 _⟩
theorem ends_i64 (b : Bool) (x y : Int) : ∀ z, endsOf b x y = z → True := fun _ _ => trivial
theorem radar_total (c : Cf) (r : Int) (hr : I64 r) (hp : I64 c.2.2.2.2.1) : ∃ y, F_sense_Radar c r = some y := by
  unfold F_sense_Radar
  obtain ⟨e, he, h1⟩ := error_total c r hr hp
  rw [he, Option.bind_some, f_SAround _ _ hr h1, Option.bind_some]
  exact ⟨_, rfl⟩
theorem tacho_total (d : Int) (s : Int × Int) (p : Int) (h1 : I64 s.1) (h2 : I64 s.2) (hp : I64 p) : ∃ y, F_sense_Tacho d s p = some y := by
  unfold F_sense_Tacho
  simp only []
  cases (bif decide (d < -32768) then true else decide (32767 < d)) with
  | true => exact ⟨_, rfl⟩
  | false =>
    simp only [cond_false]
    rw [f_Times _ _ _ h1 h2 (wrap_i64 _) hp, Option.bind_some, f_Times _ _ _ h1 h2 (wrap_i64 _) hp]
    generalize (if s.2 < s.1 ∨ p < 1 then (((0 : Int), (0 : Int)), (10 : Int)) else _) = a
    generalize (if s.2 < s.1 ∨ p < 1 then (((0 : Int), (0 : Int)), (10 : Int)) else _) = b
    cases (a.2 != 0) with
    | true => exact ⟨_, rfl⟩
    | false =>
      simp only [cond_false, Option.bind_some]
      cases (b.2 != 0) with
      | true => exact ⟨_, rfl⟩
      | false =>
        obtain ⟨h, e, _⟩ := f_Hull a.1 b.1
        rw [e]
        exact ⟨_, rfl⟩
theorem common_total (l : List (Int × Int)) (hl : l.length ≤ 1000) : ∃ y, F_vote_Common l = some y ∧ True := by
  unfold F_vote_Common
  simp only []
  by_cases h0 : l.length = 0
  · have : ((l.length : Int) == 0) = true := by simp [h0]
    rw [this]
    exact ⟨_, rfl, trivial⟩
  have : ((l.length : Int) == 0) = false := beq_false_of_ne (by omega)
  rw [this, decide_eq_true (show (0 : Int) < l.length by omega)]
  simp only [cond_false, Bool.and_self, chk_yes]
  refine bind_inv (fun s => ∃ i : Nat, s.2.2.2.2 = (i : Int) ∧ i ≤ l.length) (fun s => (l.length - s.2.2.2.2).toNat) (fun _ => True) ⟨0, rfl, by omega⟩ ?_ (fun x _ => by cases x <;> exact ⟨_, rfl, trivial⟩)
  rintro ⟨a, b, c, d, _⟩ ⟨i, rfl, h⟩
  by_cases hlt : i < l.length
  · simp only []
    rw [decide_eq_true (show (i : Int) < l.length by omega), decide_eq_true (show (0 : Int) ≤ i by omega), f_Meet]
    simp only [cond_true, Bool.and_self, chk_yes, Option.bind_some]
    split
    · left; exact ⟨_, rfl, trivial⟩
    · right
      rw [wrap_ok (n := (i : Int) + 1) (by omega)]
      exact ⟨_, rfl, ⟨i + 1, by simp, by omega⟩, by simp only; omega⟩
  · left
    simp only []
    rw [decide_eq_false (show ¬ (i : Int) < l.length by omega)]
    exact ⟨_, rfl, trivial⟩
/-- Is a sensor lost? -/
def lostI (i : Nat) (t : Tick) : Bool := List.getD [t.2.2.2.2.1.1, t.2.2.2.2.1.2.1, t.2.2.2.2.1.2.2.1, t.2.2.2.2.1.2.2.2] i false
/-- Is a sensor fit? -/
def fitB (i : Nat) (tk : List Tick) (k : Nat) : Bool := if i = 2 then !lostI 2 (tk.getD k tk0) else (decide (0 < k) && !lostI i (tk.getD k tk0)) && !lostI i (tk.getD (k - 1) tk0)
theorem f_fit (i k : Nat) (cp lo hi rb rp ae ms ma an sl ss ro ti br : Int) (sg : List Sg) (gs : List Gp) (rt : List Int) (st v0 c0 c1 p0 p1 : Int) (tk : List Tick) (rd : List Rd) (pl k0 k1 : List Int) (hi3 : i < 3) (hk : k < tk.length) (hl : tk.length ≤ 4096) : F_admit_judge_fit (i : Int) (k : Int) cp lo hi rb rp ae ms ma an sl ss ro ti br sg gs rt st v0 c0 c1 p0 p1 tk rd pl k0 k1 = some (fitB i tk k, cp, lo, hi, rb, rp, ae, ms, ma, an, sl, ss, ro, ti, br, sg, gs, rt, st, v0, c0, c1, p0, p1, tk, rd, pl, k0, k1) := by
  unfold F_admit_judge_fit fitB lostI
  rw [decide_eq_true (show (0 : Int) ≤ k by omega), decide_eq_true (show (k : Int) < tk.length by omega), decide_eq_true (show (0 : Int) ≤ i by omega), decide_eq_true (show (i : Int) < 4 by omega)]
  simp only [Bool.and_self, chk_yes, Int.toNat_natCast, tk_def]
  by_cases h2 : i = 2
  · subst h2
    rfl
  · have e : ((i : Int) == 2) = false := beq_false_of_ne (by omega)
    rw [e, if_neg h2]
    simp only [cond_false, Bool.true_or, chk_yes]
    by_cases hk0 : k = 0
    · subst hk0
      have e1 : decide ((0 : Int) < ((0 : Nat) : Int)) = false := rfl
      have e2 : decide (0 < 0) = false := rfl
      rw [e1, e2]
      simp only [cond_false, Bool.not_false, Bool.or_true, chk_yes, Bool.false_and]
    · have e1 : decide ((0 : Int) < (k : Int)) = true := by simp; omega
      have e2 : decide (0 < k) = true := by simp; omega
      have et : ((k : Int) - 1).toNat = k - 1 := by omega
      rw [e1, e2, wrap_ok (n := (k : Int) - 1) (by omega), decide_eq_true (show (0 : Int) ≤ (k : Int) - 1 by omega), decide_eq_true (show (k : Int) - 1 < tk.length by omega), et]
      simp only [cond_true, Bool.and_self, Bool.true_or, chk_yes, Bool.true_and]
      cases (List.getD [(tk.getD k tk0).2.2.2.2.1.1, (tk.getD k tk0).2.2.2.2.1.2.1, (tk.getD k tk0).2.2.2.2.1.2.2.1, (tk.getD k tk0).2.2.2.2.1.2.2.2] i false) <;> rfl
/-- The pulses between two counts. -/
def deltaI (a b : Int) : Int := IntKind.i64.wrap (IntKind.i16.wrap (IntKind.u16.wrap (IntKind.u16.wrap b - IntKind.u16.wrap a)))
/-- What a tachometer says. -/
noncomputable def tachoV (lo hi p a b : Int) : Int × Int := ((F_sense_Tacho (deltaI a b) (lo, hi) p).getD ((0, 0), 0)).1
noncomputable def radarV (c : Cf) (t : Tick) : Int × Int := (F_sense_Radar c (IntKind.i64.wrap (t.1 + t.2.2.1))).getD (0, 0)
theorem f_says2 (k : Nat) (cp lo hi rb rp ae ms ma an sl ss ro ti br : Int) (sg : List Sg) (gs : List Gp) (rt : List Int) (st v0 c0 c1 p0 p1 : Int) (tk : List Tick) (rd : List Rd) (pl k0 k1 : List Int) (hk : k < tk.length) (hp : I64 rp) : F_admit_judge_says 2 (k : Int) cp lo hi rb rp ae ms ma an sl ss ro ti br sg gs rt st v0 c0 c1 p0 p1 tk rd pl k0 k1 = some (radarV (cp, lo, hi, rb, rp, ae, ms, ma, an, sl, ss, ro, ti, br) (tk.getD k tk0), cp, lo, hi, rb, rp, ae, ms, ma, an, sl, ss, ro, ti, br, sg, gs, rt, st, v0, c0, c1, p0, p1, tk, rd, pl, k0, k1) := by
  unfold F_admit_judge_says radarV
  rw [decide_eq_true (show (0 : Int) ≤ k by omega), decide_eq_true (show (k : Int) < tk.length by omega)]
  simp only [Bool.and_self, chk_yes, Int.toNat_natCast, tk_def]
  have e : ((2 : Int) == 2) = true := rfl
  rw [e]
  simp only [cond_true]
  obtain ⟨y, hy⟩ := radar_total (cp, lo, hi, rb, rp, ae, ms, ma, an, sl, ss, ro, ti, br) (IntKind.i64.wrap ((tk.getD k tk0).1 + (tk.getD k tk0).2.2.1)) (wrap_i64 _) hp
  rw [hy]
  rfl
theorem f_says0 (k : Nat) (cp lo hi rb rp ae ms ma an sl ss ro ti br : Int) (sg : List Sg) (gs : List Gp) (rt : List Int) (st v0 c0 c1 p0 p1 : Int) (tk : List Tick) (rd : List Rd) (pl k0 k1 : List Int) (hk : 0 < k) (hk2 : k < tk.length) (hl : tk.length ≤ 4096) (h0 : k0.length = tk.length) (hlo : I64 lo) (hhi : I64 hi) (hp : I64 cp) :
    F_admit_judge_says 0 (k : Int) cp lo hi rb rp ae ms ma an sl ss ro ti br sg gs rt st v0 c0 c1 p0 p1 tk rd pl k0 k1 = some (tachoV lo hi cp (k0.getD (k - 1) 0) (k0.getD k 0), cp, lo, hi, rb, rp, ae, ms, ma, an, sl, ss, ro, ti, br, sg, gs, rt, st, v0, c0, c1, p0, p1, tk, rd, pl, k0, k1) := by
  unfold F_admit_judge_says tachoV F_pulse_Delta F_conf_Config_Circ
  have et : ((k : Int) - 1).toNat = k - 1 := by omega
  have e1 : ∀ (a b : List Int), List.getD [a, b] (0 : Int).toNat [] = a := fun _ _ => rfl
  rw [decide_eq_true (show (0 : Int) ≤ k by omega), decide_eq_true (show (k : Int) < tk.length by omega)]
  simp only [Bool.and_self, chk_yes, e1, wrap_ok (n := (k : Int) - 1) (by omega), Int.toNat_natCast, Option.bind_some]
  have e : ((0 : Int) == 2) = false := rfl
  have g : (decide ((0 : Int) ≤ 0) && decide ((0 : Int) < 2)) = true := by decide
  rw [e, g, decide_eq_true (show (0 : Int) ≤ (k : Int) - 1 by omega), decide_eq_true (show (k : Int) - 1 < k0.length by omega), decide_eq_true (show (k : Int) < k0.length by omega), et]
  simp only [cond_false, Bool.and_self, chk_yes]
  obtain ⟨y, hy⟩ := tacho_total (deltaI (k0.getD (k - 1) 0) (k0.getD k 0)) (lo, hi) cp hlo hhi hp
  unfold deltaI at hy ⊢
  rw [hy]
  rfl
theorem f_says1 (k : Nat) (cp lo hi rb rp ae ms ma an sl ss ro ti br : Int) (sg : List Sg) (gs : List Gp) (rt : List Int) (st v0 c0 c1 p0 p1 : Int) (tk : List Tick) (rd : List Rd) (pl k0 k1 : List Int) (hk : 0 < k) (hk2 : k < tk.length) (hl : tk.length ≤ 4096) (h0 : k1.length = tk.length) (hlo : I64 lo) (hhi : I64 hi) (hp : I64 cp) :
    F_admit_judge_says 1 (k : Int) cp lo hi rb rp ae ms ma an sl ss ro ti br sg gs rt st v0 c0 c1 p0 p1 tk rd pl k0 k1 = some (tachoV lo hi cp (k1.getD (k - 1) 0) (k1.getD k 0), cp, lo, hi, rb, rp, ae, ms, ma, an, sl, ss, ro, ti, br, sg, gs, rt, st, v0, c0, c1, p0, p1, tk, rd, pl, k0, k1) := by
  unfold F_admit_judge_says tachoV F_pulse_Delta F_conf_Config_Circ
  have et : ((k : Int) - 1).toNat = k - 1 := by omega
  have e1 : ∀ (a b : List Int), List.getD [a, b] (1 : Int).toNat [] = b := fun _ _ => rfl
  rw [decide_eq_true (show (0 : Int) ≤ k by omega), decide_eq_true (show (k : Int) < tk.length by omega)]
  simp only [Bool.and_self, chk_yes, e1, wrap_ok (n := (k : Int) - 1) (by omega), Int.toNat_natCast, Option.bind_some]
  have e : ((1 : Int) == 2) = false := rfl
  have g : (decide ((0 : Int) ≤ 1) && decide ((1 : Int) < 2)) = true := by decide
  rw [e, g, decide_eq_true (show (0 : Int) ≤ (k : Int) - 1 by omega), decide_eq_true (show (k : Int) - 1 < k1.length by omega), decide_eq_true (show (k : Int) < k1.length by omega), et]
  simp only [cond_false, Bool.and_self, chk_yes]
  obtain ⟨y, hy⟩ := tacho_total (deltaI (k1.getD (k - 1) 0) (k1.getD k 0)) (lo, hi) cp hlo hhi hp
  unfold deltaI at hy ⊢
  rw [hy]
  rfl
/-- Is a sensor wrong? -/
noncomputable def wrongR (c : Cf) (t : Tick) : Bool := !((F_admit_within t.2.2.1 ((F_conf_Config_Error c (IntKind.i64.wrap (t.1 + t.2.2.1))).getD 0)).getD false)
theorem f_wrong2 (k : Nat) (cp lo hi rb rp ae ms ma an sl ss ro ti br : Int) (sg : List Sg) (gs : List Gp) (rt : List Int) (st v0 c0 c1 p0 p1 : Int) (tk : List Tick) (rd : List Rd) (pl k0 k1 : List Int) (hk : k < tk.length) (hp : I64 rp) : F_admit_judge_wrong 2 (k : Int) cp lo hi rb rp ae ms ma an sl ss ro ti br sg gs rt st v0 c0 c1 p0 p1 tk rd pl k0 k1 = some (wrongR (cp, lo, hi, rb, rp, ae, ms, ma, an, sl, ss, ro, ti, br) (tk.getD k tk0), cp, lo, hi, rb, rp, ae, ms, ma, an, sl, ss, ro, ti, br, sg, gs, rt, st, v0, c0, c1, p0, p1, tk, rd, pl, k0, k1) := by
  unfold F_admit_judge_wrong wrongR
  rw [decide_eq_true (show (0 : Int) ≤ k by omega), decide_eq_true (show (k : Int) < tk.length by omega)]
  simp only [Bool.and_self, chk_yes, Int.toNat_natCast, tk_def]
  have e : ((2 : Int) == 2) = true := rfl
  rw [e]
  simp only [cond_true]
  obtain ⟨y, hy, _⟩ := error_total (cp, lo, hi, rb, rp, ae, ms, ma, an, sl, ss, ro, ti, br) (IntKind.i64.wrap ((tk.getD k tk0).1 + (tk.getD k tk0).2.2.1)) (wrap_i64 _) hp
  rw [hy]
  rfl
theorem f_wrong0 (k : Nat) (cp lo hi rb rp ae ms ma an sl ss ro ti br : Int) (sg : List Sg) (gs : List Gp) (rt : List Int) (st v0 c0 c1 p0 p1 : Int) (tk : List Tick) (rd : List Rd) (pl k0 k1 : List Int) (hk : k < tk.length) : F_admit_judge_wrong 0 (k : Int) cp lo hi rb rp ae ms ma an sl ss ro ti br sg gs rt st v0 c0 c1 p0 p1 tk rd pl k0 k1 = some ((tk.getD k tk0).2.1.1 != 0, cp, lo, hi, rb, rp, ae, ms, ma, an, sl, ss, ro, ti, br, sg, gs, rt, st, v0, c0, c1, p0, p1, tk, rd, pl, k0, k1) := by
  unfold F_admit_judge_wrong
  rw [decide_eq_true (show (0 : Int) ≤ k by omega), decide_eq_true (show (k : Int) < tk.length by omega)]
  simp only [Bool.and_self, chk_yes, Int.toNat_natCast, tk_def]
  rfl
theorem f_wrong1 (k : Nat) (cp lo hi rb rp ae ms ma an sl ss ro ti br : Int) (sg : List Sg) (gs : List Gp) (rt : List Int) (st v0 c0 c1 p0 p1 : Int) (tk : List Tick) (rd : List Rd) (pl k0 k1 : List Int) (hk : k < tk.length) : F_admit_judge_wrong 1 (k : Int) cp lo hi rb rp ae ms ma an sl ss ro ti br sg gs rt st v0 c0 c1 p0 p1 tk rd pl k0 k1 = some ((tk.getD k tk0).2.1.2 != 0, cp, lo, hi, rb, rp, ae, ms, ma, an, sl, ss, ro, ti, br, sg, gs, rt, st, v0, c0, c1, p0, p1, tk, rd, pl, k0, k1) := by
  unfold F_admit_judge_wrong
  rw [decide_eq_true (show (0 : Int) ≤ k by omega), decide_eq_true (show (k : Int) < tk.length by omega)]
  simp only [Bool.and_self, chk_yes, Int.toNat_natCast, tk_def]
  rfl
end Go.Proofs.Ytgogjcbfnnhaoaa

/- What the readings of the judge of scripts say: all sensors, reads, junk. -/
set_option linter.unusedSimpArgs false
set_option linter.unusedVariables false
namespace Go.Proofs.Ytgogjcbfnnhaoaa
open Go.RowKit
noncomputable def commonV (l : List (Int × Int)) : Bool := ((F_vote_Common l).getD ((0, 0), false)).2
theorem f_Common (l : List (Int × Int)) (hl : l.length ≤ 1000) : ∃ s, F_vote_Common l = some (s, commonV l) := by
  obtain ⟨y, h, _⟩ := common_total l hl
  unfold commonV
  rw [h]
  exact ⟨_, rfl⟩
def wrongN (f0 w0 f1 w1 f2 w2 : Bool) : Int := (bif f0 && w0 then 1 else 0) + (bif f1 && w1 then 1 else 0) + (bif f2 && w2 then 1 else 0)
def saidL (f0 f1 f2 : Bool) (s0 s1 s2 : Int × Int) : List (Int × Int) := (bif f0 then [s0] else []) ++ (bif f1 then [s1] else []) ++ (bif f2 then [s2] else [])
/-- Is no more wrong than may be, so that it shows? -/
noncomputable def sensB (f0 w0 f1 w1 f2 w2 : Bool) (s0 s1 s2 : Int × Int) : Bool :=
  bif wrongN f0 w0 f1 w1 f2 w2 == 0 then true else bif (bif wrongN f0 w0 f1 w1 f2 w2 == 1 then ((saidL f0 f1 f2 s0 s1 s2).length : Int) == 3 else false) then !commonV (saidL f0 f1 f2 s0 s1 s2) else false
noncomputable def sensK (c : Cf) (tk : List Tick) (k0 k1 : List Int) (k : Nat) : Bool :=
  sensB (fitB 0 tk k) ((tk.getD k tk0).2.1.1 != 0) (fitB 1 tk k) ((tk.getD k tk0).2.1.2 != 0) (fitB 2 tk k) (wrongR c (tk.getD k tk0))
    (tachoV c.2.1 c.2.2.1 c.1 (k0.getD (k - 1) 0) (k0.getD k 0)) (tachoV c.2.1 c.2.2.1 c.1 (k1.getD (k - 1) 0) (k1.getD k 0)) (radarV c (tk.getD k tk0))
theorem bif_some {α : Type} (w : Bool) (a b : α) : (bif w then some a else some b) = some (bif w then a else b) := by cases w <;> rfl
theorem fit_pos {i : Nat} {tk : List Tick} {k : Nat} (hi : i ≠ 2) (h : fitB i tk k = true) : 0 < k := by
  unfold fitB at h
  rw [if_neg hi] at h
  simp only [Bool.and_eq_true, decide_eq_true_eq] at h
  exact h.1.1
theorem f_sensors (k : Nat) (cp lo hi rb rp ae ms ma an sl ss ro ti br : Int) (sg : List Sg) (gs : List Gp) (rt : List Int) (st v0 c0 c1 p0 p1 : Int) (tk : List Tick) (rd : List Rd) (pl k0 k1 : List Int) (hk : k < tk.length) (hl : tk.length ≤ 4096) (h0 : k0.length = tk.length) (h1 : k1.length = tk.length) (hlo : I64 lo) (hhi : I64 hi) (hcp : I64 cp) (hrp : I64 rp) :
    F_admit_judge_sensors (k : Int) cp lo hi rb rp ae ms ma an sl ss ro ti br sg gs rt st v0 c0 c1 p0 p1 tk rd pl k0 k1 = some (sensK (cp, lo, hi, rb, rp, ae, ms, ma, an, sl, ss, ro, ti, br) tk k0 k1 k, cp, lo, hi, rb, rp, ae, ms, ma, an, sl, ss, ro, ti, br, sg, gs, rt, st, v0, c0, c1, p0, p1, tk, rd, pl, k0, k1) := by
  have e0 : F_admit_judge_fit 0 (k : Int) cp lo hi rb rp ae ms ma an sl ss ro ti br sg gs rt st v0 c0 c1 p0 p1 tk rd pl k0 k1 = some (fitB 0 tk k, cp, lo, hi, rb, rp, ae, ms, ma, an, sl, ss, ro, ti, br, sg, gs, rt, st, v0, c0, c1, p0, p1, tk, rd, pl, k0, k1) := f_fit 0 k cp lo hi rb rp ae ms ma an sl ss ro ti br sg gs rt st v0 c0 c1 p0 p1 tk rd pl k0 k1 (by omega) hk hl
  have e1 : F_admit_judge_fit 1 (k : Int) cp lo hi rb rp ae ms ma an sl ss ro ti br sg gs rt st v0 c0 c1 p0 p1 tk rd pl k0 k1 = some (fitB 1 tk k, cp, lo, hi, rb, rp, ae, ms, ma, an, sl, ss, ro, ti, br, sg, gs, rt, st, v0, c0, c1, p0, p1, tk, rd, pl, k0, k1) := f_fit 1 k cp lo hi rb rp ae ms ma an sl ss ro ti br sg gs rt st v0 c0 c1 p0 p1 tk rd pl k0 k1 (by omega) hk hl
  have e2 : F_admit_judge_fit 2 (k : Int) cp lo hi rb rp ae ms ma an sl ss ro ti br sg gs rt st v0 c0 c1 p0 p1 tk rd pl k0 k1 = some (fitB 2 tk k, cp, lo, hi, rb, rp, ae, ms, ma, an, sl, ss, ro, ti, br, sg, gs, rt, st, v0, c0, c1, p0, p1, tk, rd, pl, k0, k1) := f_fit 2 k cp lo hi rb rp ae ms ma an sl ss ro ti br sg gs rt st v0 c0 c1 p0 p1 tk rd pl k0 k1 (by omega) hk hl
  have g2 := f_says2 k cp lo hi rb rp ae ms ma an sl ss ro ti br sg gs rt st v0 c0 c1 p0 p1 tk rd pl k0 k1 hk hrp
  have v0' := f_wrong0 k cp lo hi rb rp ae ms ma an sl ss ro ti br sg gs rt st v0 c0 c1 p0 p1 tk rd pl k0 k1 hk
  have v1' := f_wrong1 k cp lo hi rb rp ae ms ma an sl ss ro ti br sg gs rt st v0 c0 c1 p0 p1 tk rd pl k0 k1 hk
  have v2' := f_wrong2 k cp lo hi rb rp ae ms ma an sl ss ro ti br sg gs rt st v0 c0 c1 p0 p1 tk rd pl k0 k1 hk hrp
  unfold F_admit_judge_sensors sensK
  simp only []
  generalize hw0 : ((tk.getD k tk0).2.1.1 != 0) = w0 at *
  generalize hw1 : ((tk.getD k tk0).2.1.2 != 0) = w1 at *
  generalize hw2 : wrongR (cp, lo, hi, rb, rp, ae, ms, ma, an, sl, ss, ro, ti, br) (tk.getD k tk0) = w2 at *
  generalize hs2 : radarV (cp, lo, hi, rb, rp, ae, ms, ma, an, sl, ss, ro, ti, br) (tk.getD k tk0) = s2 at *
  generalize hs0 : tachoV lo hi cp (k0.getD (k - 1) 0) (k0.getD k 0) = s0
  generalize hs1 : tachoV lo hi cp (k1.getD (k - 1) 0) (k1.getD k 0) = s1
  rw [e0, Option.bind_some]
  cases hf0 : fitB 0 tk k with
  | false =>
    simp only [Bool.not_false, cond_true, Option.bind_some]
    rw [e1, Option.bind_some]
    cases hf1 : fitB 1 tk k with
    | false =>
      simp only [Bool.not_false, cond_true, Option.bind_some]
      rw [e2, Option.bind_some]
      cases hf2 : fitB 2 tk k with
      | false =>
        simp only [Bool.not_false, cond_true, Option.bind_some]
        clear e0 e1 e2 g2 v0' v1' v2'
        obtain ⟨sp, hc⟩ := f_Common ([] : List (Int × Int)) (by simp)
        have hc2 : saidL false false false s0 s1 s2 = ([] : List (Int × Int)) := rfl
        unfold sensB
        rw [hc2]
        cases w0 <;> cases w1 <;> cases w2 <;> first | rfl | (simp only [cond_true, cond_false, Option.bind_some]; erw [hc]; rfl)
      | true =>
        simp only [Bool.not_true, cond_false]
        rw [g2, Option.bind_some]
        rw [chk_yes (by rfl)]
        simp only []
        rw [v2', Option.bind_some]
        simp only []
        rw [bif_some, Option.bind_some, Option.bind_some]
        simp only []
        clear e0 e1 e2 g2 v0' v1' v2'
        obtain ⟨sp, hc⟩ := f_Common ([s2] : List (Int × Int)) (by simp)
        have hc2 : saidL false false true s0 s1 s2 = ([s2] : List (Int × Int)) := rfl
        unfold sensB
        rw [hc2]
        cases w0 <;> cases w1 <;> cases w2 <;> first | rfl | (simp only [cond_true, cond_false, Option.bind_some]; erw [hc]; rfl)
    | true =>
      simp only [Bool.not_true, cond_false]
      rw [f_says1 k cp lo hi rb rp ae ms ma an sl ss ro ti br sg gs rt st v0 c0 c1 p0 p1 tk rd pl k0 k1 (fit_pos (by decide) hf1) hk hl h1 hlo hhi hcp, hs1, Option.bind_some]
      rw [chk_yes (by rfl)]
      simp only []
      rw [v1', Option.bind_some]
      simp only []
      rw [bif_some, Option.bind_some, Option.bind_some]
      simp only []
      rw [e2, Option.bind_some]
      cases hf2 : fitB 2 tk k with
      | false =>
        simp only [Bool.not_false, cond_true, Option.bind_some]
        clear e0 e1 e2 g2 v0' v1' v2'
        obtain ⟨sp, hc⟩ := f_Common ([s1] : List (Int × Int)) (by simp)
        have hc2 : saidL false true false s0 s1 s2 = ([s1] : List (Int × Int)) := rfl
        unfold sensB
        rw [hc2]
        cases w0 <;> cases w1 <;> cases w2 <;> first | rfl | (simp only [cond_true, cond_false, Option.bind_some]; erw [hc]; rfl)
      | true =>
        simp only [Bool.not_true, cond_false]
        rw [g2, Option.bind_some]
        rw [chk_yes (by rfl)]
        simp only []
        rw [v2', Option.bind_some]
        simp only []
        rw [bif_some, Option.bind_some, Option.bind_some]
        simp only []
        clear e0 e1 e2 g2 v0' v1' v2'
        obtain ⟨sp, hc⟩ := f_Common ([s1, s2] : List (Int × Int)) (by simp)
        have hc2 : saidL false true true s0 s1 s2 = ([s1, s2] : List (Int × Int)) := rfl
        unfold sensB
        rw [hc2]
        cases w0 <;> cases w1 <;> cases w2 <;> first | rfl | (simp only [cond_true, cond_false, Option.bind_some]; erw [hc]; rfl)
  | true =>
    simp only [Bool.not_true, cond_false]
    rw [f_says0 k cp lo hi rb rp ae ms ma an sl ss ro ti br sg gs rt st v0 c0 c1 p0 p1 tk rd pl k0 k1 (fit_pos (by decide) hf0) hk hl h0 hlo hhi hcp, hs0, Option.bind_some]
    rw [chk_yes (by rfl)]
    simp only []
    rw [v0', Option.bind_some]
    simp only []
    rw [bif_some, Option.bind_some, Option.bind_some]
    simp only []
    rw [e1, Option.bind_some]
    cases hf1 : fitB 1 tk k with
    | false =>
      simp only [Bool.not_false, cond_true, Option.bind_some]
      rw [e2, Option.bind_some]
      cases hf2 : fitB 2 tk k with
      | false =>
        simp only [Bool.not_false, cond_true, Option.bind_some]
        clear e0 e1 e2 g2 v0' v1' v2'
        obtain ⟨sp, hc⟩ := f_Common ([s0] : List (Int × Int)) (by simp)
        have hc2 : saidL true false false s0 s1 s2 = ([s0] : List (Int × Int)) := rfl
        unfold sensB
        rw [hc2]
        cases w0 <;> cases w1 <;> cases w2 <;> first | rfl | (simp only [cond_true, cond_false, Option.bind_some]; erw [hc]; rfl)
      | true =>
        simp only [Bool.not_true, cond_false]
        rw [g2, Option.bind_some]
        rw [chk_yes (by rfl)]
        simp only []
        rw [v2', Option.bind_some]
        simp only []
        rw [bif_some, Option.bind_some, Option.bind_some]
        simp only []
        clear e0 e1 e2 g2 v0' v1' v2'
        obtain ⟨sp, hc⟩ := f_Common ([s0, s2] : List (Int × Int)) (by simp)
        have hc2 : saidL true false true s0 s1 s2 = ([s0, s2] : List (Int × Int)) := rfl
        unfold sensB
        rw [hc2]
        cases w0 <;> cases w1 <;> cases w2 <;> first | rfl | (simp only [cond_true, cond_false, Option.bind_some]; erw [hc]; rfl)
    | true =>
      simp only [Bool.not_true, cond_false]
      rw [f_says1 k cp lo hi rb rp ae ms ma an sl ss ro ti br sg gs rt st v0 c0 c1 p0 p1 tk rd pl k0 k1 (fit_pos (by decide) hf1) hk hl h1 hlo hhi hcp, hs1, Option.bind_some]
      rw [chk_yes (by rfl)]
      simp only []
      rw [v1', Option.bind_some]
      simp only []
      rw [bif_some, Option.bind_some, Option.bind_some]
      simp only []
      rw [e2, Option.bind_some]
      cases hf2 : fitB 2 tk k with
      | false =>
        simp only [Bool.not_false, cond_true, Option.bind_some]
        clear e0 e1 e2 g2 v0' v1' v2'
        obtain ⟨sp, hc⟩ := f_Common ([s0, s1] : List (Int × Int)) (by simp)
        have hc2 : saidL true true false s0 s1 s2 = ([s0, s1] : List (Int × Int)) := rfl
        unfold sensB
        rw [hc2]
        cases w0 <;> cases w1 <;> cases w2 <;> first | rfl | (simp only [cond_true, cond_false, Option.bind_some]; erw [hc]; rfl)
      | true =>
        simp only [Bool.not_true, cond_false]
        rw [g2, Option.bind_some]
        rw [chk_yes (by rfl)]
        simp only []
        rw [v2', Option.bind_some]
        simp only []
        rw [bif_some, Option.bind_some, Option.bind_some]
        simp only []
        clear e0 e1 e2 g2 v0' v1' v2'
        obtain ⟨sp, hc⟩ := f_Common ([s0, s1, s2] : List (Int × Int)) (by simp)
        have hc2 : saidL true true true s0 s1 s2 = ([s0, s1, s2] : List (Int × Int)) := rfl
        unfold sensB
        rw [hc2]
        cases w0 <;> cases w1 <;> cases w2 <;> first | rfl | (simp only [cond_true, cond_false, Option.bind_some]; erw [hc]; rfl)
end Go.Proofs.Ytgogjcbfnnhaoaa

/- What the readings of the judge of scripts say: all cycles, reads, junk. -/
set_option linter.unusedSimpArgs false
set_option linter.unusedVariables false
namespace Go.Proofs.Ytgogjcbfnnhaoaa
open Go.RowKit
theorem f_all (cp lo hi rb rp ae ms ma an sl ss ro ti br : Int) (sg : List Sg) (gs : List Gp) (rt : List Int) (st v0 c0 c1 p0 p1 : Int) (tk : List Tick) (rd : List Rd) (pl k0 k1 : List Int) (hl : tk.length ≤ 4096) (h0 : k0.length = tk.length) (h1 : k1.length = tk.length) (hlo : I64 lo) (hhi : I64 hi) (hcp : I64 cp) (hrp : I64 rp) :
    F_admit_judge_all cp lo hi rb rp ae ms ma an sl ss ro ti br sg gs rt st v0 c0 c1 p0 p1 tk rd pl k0 k1 = some ((List.range tk.length).all (sensK (cp, lo, hi, rb, rp, ae, ms, ma, an, sl, ss, ro, ti, br) tk k0 k1), cp, lo, hi, rb, rp, ae, ms, ma, an, sl, ss, ro, ti, br, sg, gs, rt, st, v0, c0, c1, p0, p1, tk, rd, pl, k0, k1) := by
  unfold F_admit_judge_all
  rw [loop_find_st tk.length (fun i => (cp, ms, rb, sl, ti, v0, gs, p0, rd, k1, hi, ae, ro, an, sg, c1, st, tk, k0, lo, rp, ma, br, ss, rt, c0, pl, p1, (i : Int))) (fun i => bif sensK (cp, lo, hi, rb, rp, ae, ms, ma, an, sl, ss, ro, ti, br) tk k0 k1 i then none else some (Sum.inl (false, cp, ms, rb, sl, ti, v0, gs, p0, rd, k1, hi, ae, ro, an, sg, c1, st, tk, k0, lo, rp, ma, br, ss, rt, c0, pl, p1))) (Sum.inr (cp, ms, rb, sl, ti, v0, gs, p0, rd, k1, hi, ae, ro, an, sg, c1, st, tk, k0, lo, rp, ma, br, ss, rt, c0, pl, p1)) (show (cp, ms, rb, sl, ti, v0, gs, p0, rd, k1, hi, ae, ro, an, sg, c1, st, tk, k0, lo, rp, ma, br, ss, rt, c0, pl, p1, ((0 : Nat) : Int)) = (cp, ms, rb, sl, ti, v0, gs, p0, rd, k1, hi, ae, ro, an, sg, c1, st, tk, k0, lo, rp, ma, br, ss, rt, c0, pl, p1, (0 : Int)) from rfl)]
  · rw [all_find]
    cases (List.range tk.length).all (sensK (cp, lo, hi, rb, rp, ae, ms, ma, an, sl, ss, ro, ti, br) tk k0 k1) <;> rfl
  · intro i hi' _
    simp only []
    rw [decide_eq_true (show (i : Int) < tk.length by omega), f_sensors i cp lo hi rb rp ae ms ma an sl ss ro ti br sg gs rt st v0 c0 c1 p0 p1 tk rd pl k0 k1 hi' hl h0 h1 hlo hhi hcp hrp, wrap_ok (n := (i : Int) + 1) (by omega)]
    cases sensK (cp, lo, hi, rb, rp, ae, ms, ma, an, sl, ss, ro, ti, br) tk k0 k1 i <;> rfl
  · simp
/-- Tracks and routes on which groups can be looked for. -/
structure OnT (t : Tk) (rt : List Int) : Prop where
  glen : t.2.length ≤ 400
  gord : ∀ a b : Nat, a ≤ b → b < t.2.length → (t.2.getD a gp0).1 ≤ (t.2.getD b gp0).1
  lens : LensOK t
  rlen : rt.length ≤ 400
  rin : ∀ i, i < rt.length → 0 ≤ rt.getD i 0 ∧ rt.getD i 0 < t.1.length
theorem nom_total (t : Tk) (s : Scr) (r : Rd) (h : OnT t s.1) : ∃ y, F_world_Nominal t s r = some y ∧ (y.2 = true → ∃ g : Nat, g < t.2.length ∧ F_track_Track_Find t r.2.2.1 = some ((g : Int), true)) := by
  unfold F_world_Nominal
  obtain ⟨g, e, h1, h2, h3⟩ := f_Find t r.2.2.1 (by have := h.glen; omega) h.gord
  rw [e, Option.bind_some]
  simp only []
  by_cases hf : g < t.2.length ∧ (t.2.getD g gp0).1 = r.2.2.1
  · rw [decide_eq_true hf.1, decide_eq_true hf.2]
    simp only [Bool.and_self, Bool.not_true, cond_false]
    by_cases a1 : r.2.1 < 0
    · rw [decide_eq_true a1]
      simp only [cond_true, cond_false, Bool.not_true, Bool.not_false, Bool.or_true, chk_yes]
      exact ⟨((0, false) : Int × Bool), rfl, fun h => by cases h⟩
    · rw [decide_eq_false a1]
      by_cases a2 : (s.1.length : Int) ≤ r.2.1
      · rw [decide_eq_true a2]
        simp only [cond_true, cond_false, Bool.not_true, Bool.not_false, Bool.or_true, chk_yes]
        exact ⟨((0, false) : Int × Bool), rfl, fun h => by cases h⟩
      · rw [decide_eq_false a2]
        obtain ⟨k, hk⟩ : ∃ k : Nat, r.2.1 = (k : Int) := ⟨r.2.1.toNat, by omega⟩
        have hg := hf.1
        rw [hk, decide_eq_true (show (0 : Int) ≤ k by omega), decide_eq_true (show (k : Int) < s.1.length by omega), decide_eq_true (show (0 : Int) ≤ g by omega), decide_eq_true (show (g : Int) < t.2.length by omega), f_Start t s.1 k (by omega) h.rlen h.lens h.rin]
        simp only [Bool.and_self, Bool.true_or, chk_yes, cond_false, Option.bind_some]
        cases (s.1.getD (k : Int).toNat 0 != (t.2.getD (g : Int).toNat ((0 : Int), ((0 : Int), ((0 : Int), ((0 : Int), (0 : Int)))))).2.1) with
        | true => exact ⟨((0, false) : Int × Bool), rfl, fun h => by cases h⟩
        | false => exact ⟨_, rfl, fun _ => ⟨g, hf.1, rfl⟩⟩
  · have e2 : (decide (g < t.2.length) && decide ((t.2.getD g gp0).1 = r.2.2.1)) = false := by
      rw [Bool.eq_false_iff]
      intro hh
      rw [Bool.and_eq_true, decide_eq_true_eq, decide_eq_true_eq] at hh
      exact hf hh
    rw [e2]
    simp only [cond_true, cond_false, Bool.not_true, Bool.not_false, Bool.or_true, chk_yes]
    exact ⟨((0, false) : Int × Bool), rfl, fun h => by cases h⟩
noncomputable def nomV (t : Tk) (rt : List Int) (r : Rd) : Int × Bool := (F_world_Nominal t (rt, 0, 0, (0, 0), (0, 0), [], []) r).getD (0, false)
noncomputable def grpOf (t : Tk) (id : Int) : Gp := t.2.getD ((F_track_Track_Find t id).getD (0, false)).1.toNat gp0
theorem f_NomV (t : Tk) (s : Scr) (r : Rd) (h : OnT t s.1) : F_world_Nominal t s r = some (nomV t s.1 r) := by
  have e : F_world_Nominal t s r = F_world_Nominal t (s.1, 0, 0, (0, 0), (0, 0), [], []) r := by unfold F_world_Nominal; rfl
  unfold nomV
  obtain ⟨y, hy, _⟩ := nom_total t (s.1, 0, 0, (0, 0), (0, 0), [], []) r h
  rw [e, hy]
  rfl
def withW (x far : Int) : Bool := decide (IntKind.i64.wrap (0 - far) ≤ x) && decide (x ≤ far)
theorem f_withinW (x far : Int) : F_admit_within x far = some (withW x far) := by
  unfold F_admit_within withW
  simp only []
  cases decide (IntKind.i64.wrap (0 - far) ≤ x) <;> rfl
/-- The place ahead of a cycle. -/
def aheadI (st : Int) (pl : List Int) (k : Int) : Int := if 0 < k then pl.getD (k - 1).toNat 0 else st
/-- Is a group truly read? -/
noncomputable def readB (t : Tk) (rt : List Int) (an st : Int) (pl : List Int) (r : Rd) (n ahead : Int) : Bool :=
  decide (ahead < r.1) && decide (r.1 < n) && (nomV t rt r).2 &&
    (decide ((if pl.getD r.1.toNat 0 < aheadI st pl r.1 then pl.getD r.1.toNat 0 else aheadI st pl r.1) ≤ r.2.2.2) && decide (r.2.2.2 ≤ (if pl.getD r.1.toNat 0 > aheadI st pl r.1 then pl.getD r.1.toNat 0 else aheadI st pl r.1)) &&
      withW (IntKind.i64.wrap (r.2.2.2 - (nomV t rt r).1)) (IntKind.i64.wrap ((grpOf t r.2.2.1).2.2.2.1 + an)))
theorem f_read (r : Rd) (ahead : Int) (cp lo hi rb rp ae ms ma an sl ss ro ti br : Int) (sg : List Sg) (gs : List Gp) (rt : List Int) (st v0 c0 c1 p0 p1 : Int) (tk : List Tick) (rd : List Rd) (pl k0 k1 : List Int) (ht : OnT (sg, gs) rt) (hah : -1 ≤ ahead) (hl : tk.length ≤ 4096) (hpl : pl.length = tk.length) :
    F_admit_judge_read r ahead cp lo hi rb rp ae ms ma an sl ss ro ti br sg gs rt st v0 c0 c1 p0 p1 tk rd pl k0 k1 = some (readB (sg, gs) rt an st pl r tk.length ahead, cp, lo, hi, rb, rp, ae, ms, ma, an, sl, ss, ro, ti, br, sg, gs, rt, st, v0, c0, c1, p0, p1, tk, rd, pl, k0, k1) := by
  unfold F_admit_judge_read readB
  simp only []
  rw [@not_le_dec ahead r.1, @not_le_dec r.1 tk.length]
  by_cases a1 : r.1 ≤ ahead
  · rw [decide_eq_true a1]; rfl
  rw [decide_eq_false a1]
  by_cases a2 : (tk.length : Int) ≤ r.1
  · rw [decide_eq_true a2]; rfl
  rw [decide_eq_false a2]
  simp only [cond_false, Bool.not_false, Bool.true_and, Bool.and_self]
  rw [f_NomV (sg, gs) (rt, st, v0, (c0, c1), (p0, p1), tk, rd) r ht, Option.bind_some]
  obtain ⟨y, hy, hy2⟩ := nom_total (sg, gs) (rt, st, v0, (c0, c1), (p0, p1), tk, rd) r ht
  rw [f_NomV (sg, gs) (rt, st, v0, (c0, c1), (p0, p1), tk, rd) r ht] at hy
  cases hy
  simp only at hy2 ⊢
  cases hn : (nomV (sg, gs) rt r).2 with
  | false => rfl
  | true =>
    obtain ⟨g, hg, hfind⟩ := hy2 hn
    have hg : g < gs.length := hg
    have hgo : grpOf (sg, gs) r.2.2.1 = gs.getD g gp0 := by unfold grpOf; rw [hfind]; rfl
    rw [hgo]
    simp only [Bool.not_true, cond_false]
    rw [decide_eq_true (show 0 ≤ r.1 by omega), decide_eq_true (show r.1 < pl.length by omega)]
    simp only [Bool.and_self, chk_yes]
    have hah2 : (bif decide (0 < r.1) then chk none (decide (0 ≤ IntKind.i64.wrap (r.1 - 1)) && decide (IntKind.i64.wrap (r.1 - 1) < pl.length)) (some (pl.getD (IntKind.i64.wrap (r.1 - 1)).toNat 0)) else some st) = some (aheadI st pl r.1) := by
      unfold aheadI
      by_cases h0 : 0 < r.1
      · rw [decide_eq_true h0, if_pos h0, wrap_ok (n := r.1 - 1) (by omega), decide_eq_true (show 0 ≤ r.1 - 1 by omega), decide_eq_true (show r.1 - 1 < pl.length by omega)]
        rfl
      · rw [decide_eq_false h0, if_neg h0]; rfl
    rw [hah2, Option.bind_some, hfind, Option.bind_some]
    simp only [Int.toNat_natCast]
    rw [decide_eq_true (show (0 : Int) ≤ g by omega), decide_eq_true (show (g : Int) < gs.length by omega), gp_def]
    simp only [Bool.and_self, chk_yes]
    rw [f_withinW]
    cases decide ((if pl.getD r.1.toNat 0 < aheadI st pl r.1 then pl.getD r.1.toNat 0 else aheadI st pl r.1) ≤ r.2.2.2) <;> cases decide (r.2.2.2 ≤ (if pl.getD r.1.toNat 0 > aheadI st pl r.1 then pl.getD r.1.toNat 0 else aheadI st pl r.1)) <;> rfl
def prevC (rd : List Rd) (i : Nat) : Int := if i = 0 then -1 else (rd.getD (i - 1) rd0).1
noncomputable def readK (t : Tk) (rt : List Int) (an st : Int) (pl : List Int) (n : Int) (rd : List Rd) (i : Nat) : Bool := readB t rt an st pl (rd.getD i rd0) n (prevC rd i)
theorem read_gt {t : Tk} {rt : List Int} {an st : Int} {pl : List Int} {n ahead : Int} {r : Rd} (h : readB t rt an st pl r n ahead = true) : ahead < r.1 ∧ r.1 < n := by
  unfold readB at h
  simp only [Bool.and_eq_true, decide_eq_true_eq] at h
  exact h.1.1
theorem f_reads (cp lo hi rb rp ae ms ma an sl ss ro ti br : Int) (sg : List Sg) (gs : List Gp) (rt : List Int) (st v0 c0 c1 p0 p1 : Int) (tk : List Tick) (rd : List Rd) (pl k0 k1 : List Int) (ht : OnT (sg, gs) rt) (hl : tk.length ≤ 4096) (hpl : pl.length = tk.length) (hrl : rd.length ≤ 4611686018427387903) :
    F_admit_judge_reads cp lo hi rb rp ae ms ma an sl ss ro ti br sg gs rt st v0 c0 c1 p0 p1 tk rd pl k0 k1 = some ((List.range rd.length).all (readK (sg, gs) rt an st pl tk.length rd), cp, lo, hi, rb, rp, ae, ms, ma, an, sl, ss, ro, ti, br, sg, gs, rt, st, v0, c0, c1, p0, p1, tk, rd, pl, k0, k1) := by
  unfold F_admit_judge_reads
  rw [loop_find_st rd.length (fun i => (cp, ms, rb, sl, ti, v0, gs, p0, rd, k1, hi, ae, ro, an, sg, c1, st, tk, k0, lo, rp, ma, br, ss, rt, c0, pl, p1, prevC rd i, (i : Int))) (fun i => bif readK (sg, gs) rt an st pl tk.length rd i then none else some (Sum.inl (false, cp, ms, rb, sl, ti, v0, gs, p0, rd, k1, hi, ae, ro, an, sg, c1, st, tk, k0, lo, rp, ma, br, ss, rt, c0, pl, p1))) (Sum.inr (cp, ms, rb, sl, ti, v0, gs, p0, rd, k1, hi, ae, ro, an, sg, c1, st, tk, k0, lo, rp, ma, br, ss, rt, c0, pl, p1)) (show (cp, ms, rb, sl, ti, v0, gs, p0, rd, k1, hi, ae, ro, an, sg, c1, st, tk, k0, lo, rp, ma, br, ss, rt, c0, pl, p1, prevC rd 0, ((0 : Nat) : Int)) = (cp, ms, rb, sl, ti, v0, gs, p0, rd, k1, hi, ae, ro, an, sg, c1, st, tk, k0, lo, rp, ma, br, ss, rt, c0, pl, p1, (-1 : Int), (0 : Int)) from rfl)]
  · rw [all_find]
    cases (List.range rd.length).all (readK (sg, gs) rt an st pl tk.length rd) <;> rfl
  · intro i hi' hprev
    have hah : ∀ j, j ≤ i → -1 ≤ prevC rd j := by
      intro j
      induction j with
      | zero => intro _; unfold prevC; rw [if_pos rfl]; omega
      | succ j ih =>
        intro hj
        have h1 := ih (by omega)
        have h2 := all_none (n := 0) hprev j (by omega)
        unfold readK at h2
        have h3 := read_gt h2
        unfold prevC
        rw [if_neg (by omega), Nat.add_sub_cancel]
        omega
    simp only []
    rw [decide_eq_true (show (i : Int) < rd.length by omega), decide_eq_true (show (0 : Int) ≤ i by omega), Int.toNat_natCast, rd_def, f_read (rd.getD i rd0) (prevC rd i) cp lo hi rb rp ae ms ma an sl ss ro ti br sg gs rt st v0 c0 c1 p0 p1 tk rd pl k0 k1 ht (hah i (Nat.le_refl i)) hl hpl, wrap_ok (n := (i : Int) + 1) (by omega)]
    have hn : prevC rd (i + 1) = (rd.getD i rd0).1 := by unfold prevC; rw [if_neg (by omega)]; rfl
    rw [hn]
    unfold readK
    cases readB (sg, gs) rt an st pl (rd.getD i rd0) tk.length (prevC rd i) <;> rfl
  · simp
theorem more_total (s b : Int) : ∃ y, F_crc_more s b = some y ∧ True := by
  unfold F_crc_more
  simp only []
  refine bind_inv (fun s => ∃ i : Nat, s.1 = (i : Int) ∧ i ≤ 8) (fun s => (8 - s.1).toNat) (fun _ => True) ⟨0, rfl, by omega⟩ ?_ (fun x _ => ⟨_, rfl, trivial⟩)
  rintro ⟨_, a⟩ ⟨i, rfl, h⟩
  by_cases hlt : i < 8
  · right
    simp only []
    rw [decide_eq_true (show (i : Int) < 8 by omega), wrap_ok (n := (i : Int) + 1) (by omega)]
    cases (bits IntKind.u16 .and a 32768 != 0) <;> exact ⟨_, rfl, ⟨i + 1, by simp, by omega⟩, by simp only; omega⟩
  · left
    simp only []
    rw [decide_eq_false (show ¬ (i : Int) < 8 by omega)]
    exact ⟨_, rfl, trivial⟩
theorem sum_total (b : List Int) (hb : b.length ≤ 4611686018427387903) : ∃ y, F_crc_Sum b = some y := by
  have key : ∃ y, F_crc_Go 65535 b = some y ∧ True := by
    unfold F_crc_Go
    refine bind_inv (fun s => ∃ i : Nat, s.2 = (i : Int) ∧ i ≤ b.length) (fun s => (b.length - s.2).toNat) (fun _ => True) ⟨0, rfl, by omega⟩ ?_ (fun x _ => ⟨_, rfl, trivial⟩)
    rintro ⟨a, _⟩ ⟨i, rfl, h⟩
    by_cases hlt : i < b.length
    · right
      simp only []
      obtain ⟨y, hy, _⟩ := more_total a (b.getD (i : Int).toNat 0)
      rw [decide_eq_true (show (i : Int) < b.length by omega), decide_eq_true (show (0 : Int) ≤ i by omega), hy, wrap_ok (n := (i : Int) + 1) (by omega)]
      exact ⟨_, rfl, ⟨i + 1, by simp, by omega⟩, by simp only; omega⟩
    · left
      simp only []
      rw [decide_eq_false (show ¬ (i : Int) < b.length by omega)]
      exact ⟨_, rfl, trivial⟩
  obtain ⟨y, hy, _⟩ := key
  unfold F_crc_Sum
  rw [hy]
  exact ⟨_, rfl⟩
theorem size_total (k : Int) : ∃ n, F_frame_size k = some n ∧ 0 ≤ n ∧ n ≤ 4 := by
  unfold F_frame_size
  cases (k == 1) <;> cases (k == 2) <;> cases (k == 5) <;> cases (k == 3) <;> cases (k == 4) <;> exact ⟨_, rfl, by decide, by decide⟩
theorem get_total (b : List Int) (hb : b.length ≤ 4611686018427387903) : ∃ y, F_frame_Get b = some y ∧ True := by
  unfold F_frame_Get
  simp only []
  by_cases h0 : (b.length : Int) < 5
  · rw [decide_eq_true h0]; exact ⟨_, rfl, trivial⟩
  rw [decide_eq_false h0, decide_eq_true (show (0 : Int) < b.length by omega)]
  simp only [cond_false, Bool.and_self, chk_yes]
  obtain ⟨n, hn, n1, n2⟩ := size_total (IntKind.i64.wrap (b.getD (0 : Int).toNat 0))
  rw [hn, Option.bind_some]
  cases (n == 0) with
  | true => exact ⟨_, rfl, trivial⟩
  | false =>
    simp only [cond_false]
    rw [decide_eq_true (show (2 : Int) < b.length by omega), wrap_ok (n := 3 + n) (by omega), wrap_ok (n := 3 + n + 2) (by omega)]
    simp only [Bool.and_self, chk_yes]
    cases (IntKind.i64.wrap (b.getD (2 : Int).toNat 0) != n) with
    | true => exact ⟨_, rfl, trivial⟩
    | false =>
      simp only [cond_false]
      by_cases hlen : (b.length : Int) = 3 + n + 2
      · have e : ((b.length : Int) != 3 + n + 2) = false := by simp [hlen]
        rw [e]
        simp only [cond_false]
        obtain ⟨y, hy⟩ := sum_total b (by omega)
        rw [hy, Option.bind_some]
        cases (y != 0) with
        | true => exact ⟨_, rfl, trivial⟩
        | false =>
          simp only [cond_false]
          rw [decide_eq_true (show (3 : Int) ≤ 3 + n by omega), decide_eq_true (show 3 + n ≤ (b.length : Int) by omega), decide_eq_true (show (1 : Int) < b.length by omega)]
          simp only [Bool.and_self, chk_yes]
          generalize hm : (b.take (3 + n).toNat).drop (3 : Int).toNat = m
          have hml : m.length ≤ 4611686018427387903 := by rw [← hm]; simp; omega
          refine bind_inv (fun s => ∃ i : Nat, s.2 = (i : Int) ∧ i ≤ m.length) (fun s => (m.length - s.2).toNat) (fun _ => True) ⟨0, rfl, by omega⟩ ?_ (fun x _ => ?_)
          · rintro ⟨a, _⟩ ⟨i, rfl, h⟩
            by_cases hlt : i < m.length
            · right
              simp only []
              rw [decide_eq_true (show (i : Int) < m.length by omega), decide_eq_true (show (0 : Int) ≤ i by omega), wrap_ok (n := (i : Int) + 1) (by omega)]
              exact ⟨_, rfl, ⟨i + 1, by simp, by omega⟩, by simp only; omega⟩
            · left
              simp only []
              rw [decide_eq_false (show ¬ (i : Int) < m.length by omega)]
              exact ⟨_, rfl, trivial⟩
          · unfold F_frame_signed
            simp only [Option.bind_some]
            cases (bif IntKind.i64.wrap (b.getD (0 : Int).toNat 0) == 3 then true else IntKind.i64.wrap (b.getD (0 : Int).toNat 0) == 4) <;> exact ⟨_, rfl, trivial⟩
      · have e : ((b.length : Int) != 3 + n + 2) = true := by simp [hlen]
        rw [e]
        exact ⟨_, rfl, trivial⟩
end Go.Proofs.Ytgogjcbfnnhaoaa

/- The laws of chapter 16: what their readings say is true. -/
set_option linter.unusedSimpArgs false
set_option linter.unusedVariables false
namespace Go.Proofs.Ytgogjcbfnnhaoaa
open Go.RowKit
theorem mul_in {x y X Y : Int} (h1 : -X ≤ x) (h2 : x ≤ X) (h3 : 0 ≤ y) (h4 : y ≤ Y) (hX : 0 ≤ X) : -(X * Y) ≤ x * y ∧ x * y ≤ X * Y := by
  have a1 : x * y ≤ X * y := Int.mul_le_mul_of_nonneg_right h2 h3
  have a2 : X * y ≤ X * Y := Int.mul_le_mul_of_nonneg_left h4 hX
  have a3 : -X * y ≤ x * y := Int.mul_le_mul_of_nonneg_right h1 h3
  rw [Int.neg_mul] at a3
  omega
theorem wrap_id {n : Int} (h : -9223372036854775808 ≤ n ∧ n ≤ 9223372036854775807) : IntKind.i64.wrap n = n := by rw [IntKind.wrap_i64]; omega
theorem div_in {a b : Int} (ha : I64 a) (hb : 0 < b) : I64 (a / b) := by
  obtain ⟨h1, h2⟩ := ha
  have k1 : a / b * b ≤ a := Int.ediv_mul_le a (by omega)
  have k2 := Int.lt_ediv_add_one_mul_self a hb
  constructor
  · apply Classical.byContradiction
    intro hn
    have h4 : (a / b + 1) * b ≤ -9223372036854775808 * b := Int.mul_le_mul_of_nonneg_right (by omega) (by omega)
    omega
  · apply Classical.byContradiction
    intro hn
    have : 9223372036854775808 * b ≤ a / b * b := Int.mul_le_mul_of_nonneg_right (by omega) (by omega)
    omega
def upI (a b : Int) : Int := -((-a) / b)
def loC (c a : Int) : Int := if a < c then c else a
def hiC (c b : Int) : Int := if c < b then c else b
theorem loC_spec (c a : Int) : c ≤ loC c a ∧ a ≤ loC c a ∧ (loC c a = c ∨ loC c a = a) := by unfold loC; split <;> omega
theorem hiC_spec (c b : Int) : hiC c b ≤ c ∧ hiC c b ≤ b ∧ (hiC c b = c ∨ hiC c b = b) := by unfold hiC; split <;> omega
def meetC (circ : Int × Int) (a b : Int) : (Int × Int) × Bool := if hiC circ.2 b < loC circ.1 a then (circ, false) else ((loC circ.1 a, hiC circ.2 b), true)
theorem meet_in (circ : Int × Int) (a b : Int) (h : circ.1 ≤ circ.2) : circ.1 ≤ (meetC circ a b).1.1 ∧ (meetC circ a b).1.2 ≤ circ.2 ∧ (meetC circ a b).1.1 ≤ (meetC circ a b).1.2 := by
  have h1 := loC_spec circ.1 a
  have h2 := hiC_spec circ.2 b
  unfold meetC
  generalize loC circ.1 a = lo at *
  generalize hiC circ.2 b = hi at *
  by_cases g : hi < lo
  · rw [if_pos g]; exact ⟨Int.le_refl _, Int.le_refl _, h⟩
  · rw [if_neg g]; exact ⟨h1.1, h2.1, by simp only; omega⟩
theorem meet_mono (circ : Int × Int) (a b a' b' : Int) (ha : a ≤ a') (hb : b' ≤ b) (e1 : (meetC circ a b).2 = true) (e2 : (meetC circ a' b').2 = true) : (meetC circ a b).1.1 ≤ (meetC circ a' b').1.1 ∧ (meetC circ a' b').1.2 ≤ (meetC circ a b).1.2 := by
  have h1 := loC_spec circ.1 a
  have h2 := hiC_spec circ.2 b
  have h3 := loC_spec circ.1 a'
  have h4 := hiC_spec circ.2 b'
  unfold meetC at *
  generalize loC circ.1 a = lo at *
  generalize hiC circ.2 b = hi at *
  generalize loC circ.1 a' = lo' at *
  generalize hiC circ.2 b' = hi' at *
  by_cases g : hi < lo
  · rw [if_pos g] at e1; cases e1
  · by_cases g' : hi' < lo'
    · rw [if_pos g'] at e2; cases e2
    · rw [if_neg g, if_neg g']; exact ⟨by simp only; omega, by simp only; omega⟩
theorem meet_true (circ : Int × Int) (a b own : Int) (h1 : circ.1 ≤ own) (h2 : own ≤ circ.2) (ha : a ≤ own) (hb : own ≤ b) : (meetC circ a b).1.1 ≤ own ∧ own ≤ (meetC circ a b).1.2 := by
  have h3 := loC_spec circ.1 a
  have h4 := hiC_spec circ.2 b
  unfold meetC
  generalize loC circ.1 a = lo at *
  generalize hiC circ.2 b = hi at *
  by_cases g : hi < lo
  · rw [if_pos g]; exact ⟨h1, h2⟩
  · rw [if_neg g]; exact ⟨by simp only; omega, by simp only; omega⟩
def wayN (way : Int × Int) (n : Int) : Int × Int := if n < 0 then (-way.2, -way.1) else way
def absN (n : Int) : Int := if n < 0 then -n else n
/-- What is learned. -/
def learnI (circ way : Int × Int) (p n : Int) : (Int × Int) × Bool :=
  if absN n < 2 ∨ (wayN way n).1 ≤ 0 then (circ, false) else meetC circ ((wayN way n).1 * p / (absN n + 1)) (upI ((wayN way n).2 * p) (absN n - 1))
def May (circ way : Int × Int) (p n : Int) : Prop :=
  1 ≤ circ.1 ∧ circ.1 ≤ circ.2 ∧ circ.2 ≤ 8388608 ∧ -17592186044416 ≤ way.1 ∧ way.1 ≤ way.2 ∧ way.2 ≤ 17592186044416 ∧ 1 ≤ p ∧ p ≤ 1024 ∧ -1099511627776 ≤ n ∧ n ≤ 1099511627776
instance (circ way : Int × Int) (p n : Int) : Decidable (May circ way p n) := by unfold May; infer_instance
theorem learn_in (circ way : Int × Int) (p n : Int) (h : circ.1 ≤ circ.2) : circ.1 ≤ (learnI circ way p n).1.1 ∧ (learnI circ way p n).1.2 ≤ circ.2 ∧ (learnI circ way p n).1.1 ≤ (learnI circ way p n).1.2 := by
  unfold learnI
  split
  · exact ⟨Int.le_refl _, Int.le_refl _, h⟩
  · exact meet_in _ _ _ h
theorem learn_back (circ way : Int × Int) (p n : Int) : learnI circ (-way.2, -way.1) p (-n) = learnI circ way p n := by
  unfold learnI
  by_cases hn : n = 0
  · subst hn
    have : absN 0 < 2 := by decide
    rw [if_pos (.inl (by decide)), if_pos (.inl this)]
  · have e1 : wayN (-way.2, -way.1) (-n) = wayN way n := by
      unfold wayN
      by_cases h : n < 0
      · rw [if_pos h, if_neg (by omega)]
      · rw [if_neg h, if_pos (by omega), Int.neg_neg, Int.neg_neg]
    have e2 : absN (-n) = absN n := by unfold absN; split <;> split <;> omega
    rw [e1, e2]
theorem learn_more (circ way better : Int × Int) (p n : Int) (hp : 0 ≤ p) (h1 : way.1 ≤ better.1) (h2 : better.2 ≤ way.2) (e1 : (learnI circ way p n).2 = true) (e2 : (learnI circ better p n).2 = true) :
    (learnI circ way p n).1.1 ≤ (learnI circ better p n).1.1 ∧ (learnI circ better p n).1.2 ≤ (learnI circ way p n).1.2 := by
  have hw : (wayN way n).1 ≤ (wayN better n).1 ∧ (wayN better n).2 ≤ (wayN way n).2 := by
    unfold wayN
    split <;> (try dsimp only) <;> omega
  unfold learnI at *
  generalize wayN way n = w at *
  generalize wayN better n = u at *
  generalize absN n = k at *
  by_cases g1 : k < 2 ∨ w.1 ≤ 0
  · rw [if_pos g1] at e1; cases e1
  · by_cases g2 : k < 2 ∨ u.1 ≤ 0
    · rw [if_pos g2] at e2; cases e2
    · rw [if_neg g1] at e1 ⊢
      rw [if_neg g2] at e2 ⊢
      have m1 : w.1 * p ≤ u.1 * p := Int.mul_le_mul_of_nonneg_right hw.1 hp
      have m2 : u.2 * p ≤ w.2 * p := Int.mul_le_mul_of_nonneg_right hw.2 hp
      have d1 : w.1 * p / (k + 1) ≤ u.1 * p / (k + 1) := Int.ediv_le_ediv (by omega) m1
      have d2 : upI (u.2 * p) (k - 1) ≤ upI (w.2 * p) (k - 1) := by
        unfold upI
        have := Int.ediv_le_ediv (c := k - 1) (a := -(w.2 * p)) (b := -(u.2 * p)) (by omega) (by omega)
        omega
      exact meet_mono _ _ _ _ _ d1 d2 e1 e2
theorem learn_true (circ way : Int × Int) (p n own went : Int) (hp : 1 ≤ p) (h1 : circ.1 ≤ own) (h2 : own ≤ circ.2) (h3 : way.1 ≤ went) (h4 : went ≤ way.2) (h5 : -own < n * own - went * p) (h6 : n * own - went * p < own) :
    (learnI circ way p n).1.1 ≤ own ∧ own ≤ (learnI circ way p n).1.2 := by
  have main : ∀ (w : Int × Int) (k g : Int), w.1 ≤ g → g ≤ w.2 → -own < k * own - g * p → k * own - g * p < own → ¬ (k < 2 ∨ w.1 ≤ 0) → w.1 * p / (k + 1) ≤ own ∧ own ≤ upI (w.2 * p) (k - 1) := by
    intro w k g g1 g2 g3 g4 g5
    have m1 : w.1 * p ≤ g * p := Int.mul_le_mul_of_nonneg_right g1 (by omega)
    have m2 : g * p ≤ w.2 * p := Int.mul_le_mul_of_nonneg_right g2 (by omega)
    have e1 : own * (k + 1) = k * own + own := by rw [Int.mul_add, Int.mul_one, Int.mul_comm]
    have e2 : -own * (k - 1) = -(k * own) + own := by rw [Int.mul_sub, Int.mul_one, Int.neg_mul, Int.mul_comm]; omega
    constructor
    · have : w.1 * p / (k + 1) < own + 1 := Int.ediv_lt_of_lt_mul (by omega) (by rw [Int.add_mul, e1]; omega)
      omega
    · unfold upI
      have : -(w.2 * p) / (k - 1) < -own + 1 := Int.ediv_lt_of_lt_mul (by omega) (by rw [Int.add_mul, e2]; omega)
      omega
  have hw : ∃ g, (wayN way n).1 ≤ g ∧ g ≤ (wayN way n).2 ∧ -own < absN n * own - g * p ∧ absN n * own - g * p < own := by
    unfold wayN absN
    by_cases hn : n < 0
    · simp only [if_pos hn]
      refine ⟨-went, by omega, by omega, ?_, ?_⟩ <;> rw [Int.neg_mul, Int.neg_mul] <;> omega
    · simp only [if_neg hn]
      exact ⟨went, h3, h4, h5, h6⟩
  unfold learnI
  generalize wayN way n = w at *
  generalize absN n = k at *
  obtain ⟨g, g1, g2, g3, g4⟩ := hw
  by_cases hc : k < 2 ∨ w.1 ≤ 0
  · rw [if_pos hc]; exact ⟨h1, h2⟩
  · rw [if_neg hc]
    obtain ⟨k1, k2⟩ := main w k g g1 g2 g3 g4 hc
    exact meet_true _ _ _ _ h1 h2 k1 k2
section
variable (w : World)
end
end Go.Proofs.Ytgogjcbfnnhaoaa

/- The laws of chapter 15 on tachometers: what their readings say is true. -/
set_option linter.unusedSimpArgs false
set_option linter.unusedVariables false
namespace Go.Proofs.Ytgogjcbfnnhaoaa
open Go.RowKit
/-- The least, and the greatest, of a number times what is in a span of numbers above 0. -/
def gLo (k : Int) (c : Int × Int) : Int := k * (if k < 0 then c.2 else c.1)
def gHi (k : Int) (c : Int × Int) : Int := k * (if k < 0 then c.1 else c.2)
theorem g_le (k : Int) (c : Int × Int) (x : Int) (h1 : c.1 ≤ x) (h2 : x ≤ c.2) : gLo k c ≤ k * x ∧ k * x ≤ gHi k c := by
  unfold gLo gHi
  by_cases h : k < 0
  · rw [if_pos h, if_pos h]
    exact ⟨Int.mul_le_mul_of_nonpos_left (by omega) h2, Int.mul_le_mul_of_nonpos_left (by omega) h1⟩
  · rw [if_neg h, if_neg h]
    exact ⟨Int.mul_le_mul_of_nonneg_left h1 (by omega), Int.mul_le_mul_of_nonneg_left h2 (by omega)⟩
theorem g_at (k : Int) (c : Int × Int) (h : c.1 ≤ c.2) : (∃ x, c.1 ≤ x ∧ x ≤ c.2 ∧ gLo k c = k * x) ∧ ∃ x, c.1 ≤ x ∧ x ≤ c.2 ∧ gHi k c = k * x := by
  unfold gLo gHi
  by_cases hk : k < 0
  · rw [if_pos hk, if_pos hk]; exact ⟨⟨_, h, Int.le_refl _, rfl⟩, ⟨_, Int.le_refl _, h, rfl⟩⟩
  · rw [if_neg hk, if_neg hk]; exact ⟨⟨_, Int.le_refl _, h, rfl⟩, ⟨_, h, Int.le_refl _, rfl⟩⟩
theorem g_mono {j k : Int} {c : Int × Int} (hjk : j ≤ k) (h0 : 0 ≤ c.1) (h : c.1 ≤ c.2) : gLo j c ≤ gLo k c ∧ gHi j c ≤ gHi k c := by
  obtain ⟨⟨x, x1, x2, x3⟩, _⟩ := g_at k c h
  obtain ⟨_, y, y1, y2, y3⟩ := g_at j c h
  have h1 : j * x ≤ k * x := Int.mul_le_mul_of_nonneg_right hjk (by omega)
  have h2 : j * y ≤ k * y := Int.mul_le_mul_of_nonneg_right hjk (by omega)
  have h3 := g_le j c x x1 x2
  have h4 := g_le k c y y1 y2
  omega
theorem g_sub {k : Int} {c d : Int × Int} (h : d.1 ≤ d.2) (h1 : c.1 ≤ d.1) (h2 : d.2 ≤ c.2) : gLo k c ≤ gLo k d ∧ gHi k d ≤ gHi k c := by
  obtain ⟨⟨x, x1, x2, x3⟩, y, y1, y2, y3⟩ := g_at k d h
  have h3 := g_le k c x (by omega) (by omega)
  have h4 := g_le k c y (by omega) (by omega)
  omega
theorem up_ge (a b : Int) (hb : 0 < b) : a / b ≤ upI a b := by
  unfold upI
  have h1 : a / b * b ≤ a := Int.ediv_mul_le a (by omega)
  have h2 : -a / b * b ≤ -a := Int.ediv_mul_le (-a) (by omega)
  apply Classical.byContradiction
  intro hn
  have h3 : (-a / b + a / b) * b = -a / b * b + a / b * b := Int.add_mul _ _ _
  have h4 : 1 * b ≤ (-a / b + a / b) * b := Int.mul_le_mul_of_nonneg_right (by omega) (by omega)
  omega
theorem up_mono {a a' b : Int} (hb : 0 < b) (h : a ≤ a') : upI a b ≤ upI a' b := by
  unfold upI
  have := Int.ediv_le_ediv (c := b) (a := -a') (b := -a) hb (by omega)
  omega
theorem quo_up {n c : Int} (hc : 0 < c) : quoI n c true = upI n c := by
  have e : szI c = c := by unfold szI; rw [if_neg (by omega)]
  unfold quoI upI
  simp only [if_neg (show ¬ c < 0 by omega), e, if_true]
def WheelOK (c : Int × Int) (p : Int) : Prop := 1 ≤ c.1 ∧ c.1 ≤ c.2 ∧ c.2 ≤ 8388608 ∧ 1 ≤ p ∧ p ≤ 1024
instance (c : Int × Int) (p : Int) : Decidable (WheelOK c p) := by unfold WheelOK; infer_instance
theorem f_HullR (s t : Int × Int) (h1 : s.1 ≤ s.2) (h2 : t.1 ≤ t.2) (h3 : s.1 ≤ t.1) (h4 : s.2 ≤ t.2) : F_span_Span_Hull s t = some (s.1, t.2) := by
  unfold F_span_Span_Hull
  rw [f_Right, f_Right, Option.bind_some, Option.bind_some, decide_eq_true h1, decide_eq_true h2]
  simp only [Bool.not_true, cond_false]
  rw [if_neg (by omega)]
  by_cases g : t.2 > s.2
  · rw [if_pos g]
  · rw [if_neg g, show s.2 = t.2 by omega]
def tachoI (d : Int) (c : Int × Int) (p : Int) : Int × Int := (gLo (d - 1) c / p, upI (gHi (d + 1) c) p)
theorem g_bound (k : Int) (c : Int × Int) (hk : -32769 ≤ k ∧ k ≤ 32768) (h0 : 0 ≤ c.1) (h : c.1 ≤ c.2) (h2 : c.2 ≤ 8388608) : (-274886295552 ≤ gLo k c ∧ gLo k c ≤ 274886295552) ∧ -274886295552 ≤ gHi k c ∧ gHi k c ≤ 274886295552 := by
  obtain ⟨⟨x, x1, x2, x3⟩, y, y1, y2, y3⟩ := g_at k c h
  have b1 := mul_in (x := k) (y := x) (X := 32769) (Y := 8388608) (by omega) (by omega) (by omega) (by omega) (by omega)
  have b2 := mul_in (x := k) (y := y) (X := 32769) (Y := 8388608) (by omega) (by omega) (by omega) (by omega) (by omega)
  omega
theorem div_small {a b B : Int} (hb : 0 < b) (h : -B ≤ a ∧ a ≤ B) (hB : 0 ≤ B) : -B - 1 ≤ a / b ∧ a / b ≤ B := by
  have k1 : a / b * b ≤ a := Int.ediv_mul_le a (by omega)
  have k2 := Int.lt_ediv_add_one_mul_self a hb
  constructor
  · apply Classical.byContradiction
    intro hn
    have h4 : (a / b + 1) * b ≤ -(B + 1) * b := Int.mul_le_mul_of_nonneg_right (by omega) (by omega)
    have h5 : (B + 1) * 1 ≤ (B + 1) * b := Int.mul_le_mul_of_nonneg_left (by omega) (by omega)
    rw [Int.neg_mul] at h4
    omega
  · apply Classical.byContradiction
    intro hn
    have h4 : (B + 1) * b ≤ a / b * b := Int.mul_le_mul_of_nonneg_right (by omega) (by omega)
    have h5 : (B + 1) * 1 ≤ (B + 1) * b := Int.mul_le_mul_of_nonneg_left (by omega) (by omega)
    omega
theorem up_small {a b B : Int} (hb : 0 < b) (h : -B ≤ a ∧ a ≤ B) (hB : 0 ≤ B) : -B ≤ upI a b ∧ upI a b ≤ B + 1 := by
  have := div_small (a := -a) hb (B := B) (by omega) hB
  unfold upI
  omega
theorem times15 (k : Int) (c : Int × Int) (p : Int) (hk : -32769 ≤ k ∧ k ≤ 32768) (h : WheelOK c p) : F_span_Span_Times c k p = some ((gLo k c / p, upI (gHi k c) p), 0) := by
  obtain ⟨h1, h2, h3, h4, h5⟩ := h
  have hb := g_bound k c hk (by omega) h2 h3
  have d1 := div_small (b := p) (by omega) hb.1 (by omega)
  have d2 := up_small (b := p) (by omega) hb.2 (by omega)
  rw [f_Times c k p ⟨by omega, by omega⟩ ⟨by omega, by omega⟩ ⟨by omega, by omega⟩ ⟨by omega, by omega⟩, if_neg (by omega)]
  simp only
  rw [quo_floor (by omega), quo_up (by omega)]
  change some (if in64 (gLo k c / p) = true ∧ in64 (upI (gHi k c) p) = true then ((gLo k c / p, upI (gHi k c) p), (0 : Int)) else _) = _
  rw [if_pos ⟨in64_yes (by omega), in64_yes (by omega)⟩]
theorem f_Tacho (d : Int) (c : Int × Int) (p : Int) (hd : -32768 ≤ d ∧ d ≤ 32767) (h : WheelOK c p) : F_sense_Tacho d c p = some (tachoI d c p, 0) := by
  have h' := h
  obtain ⟨h1, h2, h3, h4, h5⟩ := h
  unfold F_sense_Tacho
  simp only [decide_eq_false (show ¬ d < -32768 by omega), decide_eq_false (show ¬ 32767 < d by omega), cond_false, wrap_id (n := d - 1) (by omega), wrap_id (n := d + 1) (by omega),
    times15 (d - 1) c p (by omega) h', times15 (d + 1) c p (by omega) h', Option.bind_some]
  have m := g_mono (j := d - 1) (k := d + 1) (c := c) (by omega) (by omega) h2
  have l1 := g_le (d - 1) c c.1 (Int.le_refl _) h2
  have l2 := g_le (d + 1) c c.1 (Int.le_refl _) h2
  have q1 := Int.ediv_le_ediv (c := p) (a := gLo (d - 1) c) (b := gHi (d - 1) c) (by omega) (by omega)
  have q2 := Int.ediv_le_ediv (c := p) (a := gLo (d + 1) c) (b := gHi (d + 1) c) (by omega) (by omega)
  have u1 := up_ge (gHi (d - 1) c) p (by omega)
  have u2 := up_ge (gHi (d + 1) c) p (by omega)
  rw [f_HullR _ _ (by simp only; omega) (by simp only; omega) (by simp only; exact Int.ediv_le_ediv (by omega) m.1) (by simp only; exact up_mono (by omega) m.2)]
  rfl
theorem tacho_bad (d : Int) (c : Int × Int) (p : Int) (h1 : I64 c.1) (h2 : I64 c.2) (hp : I64 p) (h : d < -32768 ∨ 32767 < d ∨ c.2 < c.1 ∨ p < 1) : F_sense_Tacho d c p = some ((0, 0), 10) := by
  unfold F_sense_Tacho
  by_cases g1 : d < -32768
  · simp [g1]
  by_cases g2 : 32767 < d
  · simp [g2]
  simp only [decide_eq_false g1, decide_eq_false g2, cond_false, wrap_id (n := d - 1) (by omega)]
  rw [f_Times c (d - 1) p h1 h2 ⟨by omega, by omega⟩ hp, if_pos (by omega)]
  rfl
end Go.Proofs.Ytgogjcbfnnhaoaa

/- The laws of chapter 15 on priors, radars and accelerometers: what their readings say is true. -/
set_option linter.unusedSimpArgs false
set_option linter.unusedVariables false
namespace Go.Proofs.Ytgogjcbfnnhaoaa
open Go.RowKit
def absI (r : Int) : Int := if r < 0 then -r else r
def errI (rb rp r : Int) : Int := rb + absI r * rp / 1048576
theorem err_bound {rb rp r : Int} (hr : -2147483648 ≤ r ∧ r ≤ 2147483647) (hb : 0 ≤ rb ∧ rb ≤ 1048576) (hp : 0 ≤ rp ∧ rp ≤ 65536) : (0 ≤ absI r * rp ∧ absI r * rp ≤ 140737488355328) ∧ 0 ≤ errI rb rp r ∧ errI rb rp r ≤ 135266304 := by
  have ha : 0 ≤ absI r ∧ absI r ≤ 2147483648 := by unfold absI; split <;> omega
  have hm := mul_pq (x := absI r) (y := rp) (X := 2147483648) (Y := 65536) ha.1 ha.2 hp.1 hp.2
  unfold errI
  generalize absI r * rp = q at *
  omega
theorem f_confError (p lo hi rb rp ae ms ma an st ss ro ti br r : Int) (hr : -2147483648 ≤ r ∧ r ≤ 2147483647) (hb : 0 ≤ rb ∧ rb ≤ 1048576) (hp : 0 ≤ rp ∧ rp ≤ 65536) :
    F_conf_Config_Error (p, lo, hi, rb, rp, ae, ms, ma, an, st, ss, ro, ti, br) r = some (errI rb rp r) := by
  obtain ⟨⟨h1, h2⟩, h3, h4⟩ := err_bound hr hb hp
  have e1 : (if IntKind.i64.wrap (0 - r) > r then IntKind.i64.wrap (0 - r) else r) = absI r := by
    rw [wrap_id (by omega)]; unfold absI; split <;> split <;> omega
  have ha : 0 ≤ absI r ∧ absI r ≤ 2147483648 := by unfold absI; split <;> omega
  unfold F_conf_Config_Error
  simp only [e1]
  rw [f_Floor _ _ _ ⟨by omega, by omega⟩ ⟨by omega, by omega⟩ ⟨by omega, by omega⟩, if_neg (by omega), quo_floor (by omega)]
  unfold sayI
  rw [if_pos (in64_yes (by omega)), Option.bind_some]
  unfold errI at h3 h4 ⊢
  rw [wrap_id (by simp only; omega)]
theorem i16_fits {n : Int} (h : Fits (.int .i16) n) : -32768 ≤ n ∧ n ≤ 32767 := by
  have h : fits .i16 n = true := h
  simp [fits] at h
  omega
theorem i32_fits {n : Int} (h : Fits (.int .i32) n) : -2147483648 ≤ n ∧ n ≤ 2147483647 := by
  have h : fits .i32 n = true := h
  simp [fits] at h
  omega
end Go.Proofs.Ytgogjcbfnnhaoaa

/- The laws of chapter 13: what their readings say is true. -/
set_option linter.unusedSimpArgs false
set_option linter.unusedVariables false
namespace Go.Proofs.Ytgogjcbfnnhaoaa
open Go.RowKit
theorem f_within13 (x lo hi : Int) : F_conf_within x lo hi = some (decide (lo ≤ x) && decide (x ≤ hi)) := by
  unfold F_conf_within
  cases decide (lo ≤ x) <;> rfl
theorem ceil_up {a b : Int} (hb : 0 < b) : quoI a b true = upP a b := by
  rw [quo_ceil hb]
  unfold upP
  have h1 := Int.emod_add_ediv_mul a b
  have h2 := Int.emod_nonneg a (show b ≠ 0 by omega)
  have h3 := Int.emod_lt_of_pos a hb
  generalize a % b = r at *
  generalize a / b = q at *
  subst h1
  split
  · have hr : r = 0 := by omega
    subst hr
    apply Int.le_antisymm
    · rw [Int.le_ediv_iff_mul_le hb]; omega
    · have : (0 + q * b + b - 1) / b < q + 1 := by
        rw [Int.ediv_lt_iff_lt_mul hb, Int.add_mul]; omega
      omega
  · apply Int.le_antisymm
    · rw [Int.le_ediv_iff_mul_le hb, Int.add_mul]; omega
    · have : (r + q * b + b - 1) / b < q + 1 + 1 := by
        rw [Int.ediv_lt_iff_lt_mul hb, Int.add_mul, Int.add_mul]; omega
      omega
theorem up_bound {a b : Int} (ha : 0 ≤ a) (hb : 0 < b) : 0 ≤ upP a b ∧ upP a b ≤ a := by
  unfold upP
  have h0 : 0 ≤ a + b - 1 := by omega
  refine ⟨Int.ediv_nonneg h0 (by omega), ?_⟩
  have : (a + b - 1) / b < a + 1 := by
    rw [Int.ediv_lt_iff_lt_mul hb, Int.add_mul]
    have := Int.mul_le_mul_of_nonneg_left (show 1 ≤ b by omega) ha
    omega
  omega
theorem f_pulse (c : Cf) (h1 : 0 < c.1) (h2 : c.1 ≤ 1024) (h3 : 0 ≤ c.2.2.1) (h4 : c.2.2.1 ≤ 8388608) : F_conf_Config_pulse c = some (upP c.2.2.1 c.1) := by
  unfold F_conf_Config_pulse
  have := up_bound h3 h1
  rw [f_Ceil _ _ _ ⟨by omega, by omega⟩ ⟨by omega, by omega⟩ ⟨by omega, by omega⟩, if_neg (by omega), Option.bind_some, ceil_up h1, Int.mul_one]
  unfold sayI
  rw [if_pos (in64_yes (by omega))]
theorem r13_1 (a1 a2 a3 a4 a5 a6 a7 a8 a9 a10 a11 a12 a13 a14 : Int) : F_conf_Config_rules_1 a1 a2 a3 a4 a5 a6 a7 a8 a9 a10 a11 a12 a13 a14 = some ((decide (1 ≤ a1) && decide (a1 ≤ 1024)), a1, a2, a3, a4, a5, a6, a7, a8, a9, a10, a11, a12, a13, a14) := by
  unfold F_conf_Config_rules_1
  rw [f_within13]; rfl
theorem r13_2 (a1 a2 a3 a4 a5 a6 a7 a8 a9 a10 a11 a12 a13 a14 : Int) : F_conf_Config_rules_2 a1 a2 a3 a4 a5 a6 a7 a8 a9 a10 a11 a12 a13 a14 = some (((decide (131072 ≤ a2) && decide (a2 ≤ 8388608)) && (decide (a2 ≤ a3) && decide (a3 ≤ 8388608))), a1, a2, a3, a4, a5, a6, a7, a8, a9, a10, a11, a12, a13, a14) := by
  unfold F_conf_Config_rules_2
  simp only [f_within13, Option.bind_some]
  cases (decide (131072 ≤ a2) && decide (a2 ≤ 8388608)) <;> simp
theorem r13_3 (a1 a2 a3 a4 a5 a6 a7 a8 a9 a10 a11 a12 a13 a14 : Int) : F_conf_Config_rules_3 a1 a2 a3 a4 a5 a6 a7 a8 a9 a10 a11 a12 a13 a14 = some (decide (IntKind.i64.wrap (16 * IntKind.i64.wrap (a3 - a2)) ≤ a2), a1, a2, a3, a4, a5, a6, a7, a8, a9, a10, a11, a12, a13, a14) := by
  unfold F_conf_Config_rules_3
  rfl
theorem r13_4 (a1 a2 a3 a4 a5 a6 a7 a8 a9 a10 a11 a12 a13 a14 : Int) : F_conf_Config_rules_4 a1 a2 a3 a4 a5 a6 a7 a8 a9 a10 a11 a12 a13 a14 = some (((decide (0 ≤ a4) && decide (a4 ≤ 1048576)) && (decide (0 ≤ a5) && decide (a5 ≤ 65536))), a1, a2, a3, a4, a5, a6, a7, a8, a9, a10, a11, a12, a13, a14) := by
  unfold F_conf_Config_rules_4
  simp only [f_within13, Option.bind_some]
  cases (decide (0 ≤ a4) && decide (a4 ≤ 1048576)) <;> simp
theorem r13_5 (a1 a2 a3 a4 a5 a6 a7 a8 a9 a10 a11 a12 a13 a14 : Int) : F_conf_Config_rules_5 a1 a2 a3 a4 a5 a6 a7 a8 a9 a10 a11 a12 a13 a14 = some ((decide (0 ≤ a6) && decide (a6 ≤ 1048576)), a1, a2, a3, a4, a5, a6, a7, a8, a9, a10, a11, a12, a13, a14) := by
  unfold F_conf_Config_rules_5
  rw [f_within13]; rfl
theorem r13_6 (a1 a2 a3 a4 a5 a6 a7 a8 a9 a10 a11 a12 a13 a14 : Int) : F_conf_Config_rules_6 a1 a2 a3 a4 a5 a6 a7 a8 a9 a10 a11 a12 a13 a14 = some (((decide (1 ≤ a7) && decide (a7 ≤ 16777216)) && (decide (1 ≤ a8) && decide (a8 ≤ 1048576))), a1, a2, a3, a4, a5, a6, a7, a8, a9, a10, a11, a12, a13, a14) := by
  unfold F_conf_Config_rules_6
  simp only [f_within13, Option.bind_some]
  cases (decide (1 ≤ a7) && decide (a7 ≤ 16777216)) <;> simp
theorem r13_7 (a1 a2 a3 a4 a5 a6 a7 a8 a9 a10 a11 a12 a13 a14 : Int) : F_conf_Config_rules_7 a1 a2 a3 a4 a5 a6 a7 a8 a9 a10 a11 a12 a13 a14 = some (decide (IntKind.i64.wrap (a7 * a1) ≤ IntKind.i64.wrap (32000 * a2)), a1, a2, a3, a4, a5, a6, a7, a8, a9, a10, a11, a12, a13, a14) := by
  unfold F_conf_Config_rules_7
  rfl
theorem r13_8 (a1 a2 a3 a4 a5 a6 a7 a8 a9 a10 a11 a12 a13 a14 : Int) : F_conf_Config_rules_8 a1 a2 a3 a4 a5 a6 a7 a8 a9 a10 a11 a12 a13 a14 = some ((decide (0 ≤ a9) && decide (a9 ≤ 1048576)), a1, a2, a3, a4, a5, a6, a7, a8, a9, a10, a11, a12, a13, a14) := by
  unfold F_conf_Config_rules_8
  rw [f_within13]; rfl
theorem r13_9 (a1 a2 a3 a4 a5 a6 a7 a8 a9 a10 a11 a12 a13 a14 : Int) : F_conf_Config_rules_9 a1 a2 a3 a4 a5 a6 a7 a8 a9 a10 a11 a12 a13 a14 = some (((decide (1 ≤ a10) && decide (a10 ≤ 1000)) && (decide (1 ≤ a13) && decide (a13 ≤ 1000))), a1, a2, a3, a4, a5, a6, a7, a8, a9, a10, a11, a12, a13, a14) := by
  unfold F_conf_Config_rules_9
  simp only [f_within13, Option.bind_some]
  cases (decide (1 ≤ a10) && decide (a10 ≤ 1000)) <;> simp
theorem r13_11 (a1 a2 a3 a4 a5 a6 a7 a8 a9 a10 a11 a12 a13 a14 : Int) : F_conf_Config_rules_11 a1 a2 a3 a4 a5 a6 a7 a8 a9 a10 a11 a12 a13 a14 = some ((decide (0 ≤ a12) && decide (a12 ≤ 1073741824)), a1, a2, a3, a4, a5, a6, a7, a8, a9, a10, a11, a12, a13, a14) := by
  unfold F_conf_Config_rules_11
  rw [f_within13]; rfl
theorem r13_12 (a1 a2 a3 a4 a5 a6 a7 a8 a9 a10 a11 a12 a13 a14 : Int) : F_conf_Config_rules_12 a1 a2 a3 a4 a5 a6 a7 a8 a9 a10 a11 a12 a13 a14 = some ((decide (1 ≤ a14) && decide (a14 ≤ 1048576)), a1, a2, a3, a4, a5, a6, a7, a8, a9, a10, a11, a12, a13, a14) := by
  unfold F_conf_Config_rules_12
  rw [f_within13]; rfl
theorem r13_10 (a1 a2 a3 a4 a5 a6 a7 a8 a9 a10 a11 a12 a13 a14 : Int) (h1 : 0 < a1) (h2 : a1 ≤ 1024) (h3 : 0 ≤ a3) (h4 : a3 ≤ 8388608) : F_conf_Config_rules_10 a1 a2 a3 a4 a5 a6 a7 a8 a9 a10 a11 a12 a13 a14 = some (decide ((if IntKind.i64.wrap (3 * a4) > upP a3 a1 then IntKind.i64.wrap (3 * a4) else upP a3 a1) ≤ a11) && decide (a11 ≤ 16777216), a1, a2, a3, a4, a5, a6, a7, a8, a9, a10, a11, a12, a13, a14) := by
  unfold F_conf_Config_rules_10
  simp only []
  rw [f_pulse (a1, a2, a3, a4, a5, a6, a7, a8, a9, a10, a11, a12, a13, a14) h1 h2 h3 h4]
  simp only [Option.bind_some, f_within13]
/-- What 'Check' answers. -/
def confR (c : Cf) : Int × Int := if wrongC c = 0 then (0, 0) else (50, wrongC c)
theorem f_confCheck (c : Cf) : F_conf_Config_Check c = some (confR c) := by
  obtain ⟨p, lo, hi, rb, rp, ae, ms, ma, an, st, ss, ro, ti, br⟩ := c
  unfold F_conf_Config_Check F_conf_Config_rules confR wrongC
  simp only [Option.bind_some]
  rw [r13_1, Option.bind_some]
  simp only []
  by_cases h1 : p < 1 ∨ 1024 < p
  · have e : (decide (1 ≤ p) && decide (p ≤ 1024)) = false := by
      rw [Bool.eq_false_iff]
      simp only [ne_eq, Bool.and_eq_true, decide_eq_true_eq]
      omega
    rw [e]
    simp only [if_pos h1, Bool.not_false, cond_true]
    rfl
  have e : (decide (1 ≤ p) && decide (p ≤ 1024)) = true := by
    simp only [Bool.and_eq_true, decide_eq_true_eq]
    omega
  rw [e]
  clear e
  simp only [if_neg h1, Bool.not_true, cond_false]
  rw [r13_2, Option.bind_some]
  simp only []
  by_cases h2 : lo < 131072 ∨ 8388608 < lo ∨ hi < lo ∨ 8388608 < hi
  · have e : ((decide (131072 ≤ lo) && decide (lo ≤ 8388608)) && (decide (lo ≤ hi) && decide (hi ≤ 8388608))) = false := by
      rw [Bool.eq_false_iff]
      simp only [ne_eq, Bool.and_eq_true, decide_eq_true_eq]
      omega
    rw [e]
    simp only [if_pos h2, Bool.not_false, cond_true]
    rfl
  have e : ((decide (131072 ≤ lo) && decide (lo ≤ 8388608)) && (decide (lo ≤ hi) && decide (hi ≤ 8388608))) = true := by
    simp only [Bool.and_eq_true, decide_eq_true_eq]
    omega
  rw [e]
  clear e
  simp only [if_neg h2, Bool.not_true, cond_false]
  have w1 : IntKind.i64.wrap (16 * IntKind.i64.wrap (hi - lo)) = 16 * (hi - lo) := by
    rw [wrap_ok (n := hi - lo) (by omega), wrap_ok (by omega)]
  rw [r13_3, Option.bind_some, w1]
  simp only []
  by_cases h3 : lo < (hi - lo) * 16
  · have e : decide (16 * (hi - lo) ≤ lo) = false := by
      rw [Bool.eq_false_iff]
      simp only [ne_eq, Bool.and_eq_true, decide_eq_true_eq]
      omega
    rw [e]
    simp only [if_pos h3, Bool.not_false, cond_true]
    rfl
  have e : decide (16 * (hi - lo) ≤ lo) = true := by
    simp only [Bool.and_eq_true, decide_eq_true_eq]
    omega
  rw [e]
  clear e
  simp only [if_neg h3, Bool.not_true, cond_false]
  rw [r13_4, Option.bind_some]
  simp only []
  by_cases h4 : rb < 0 ∨ 1048576 < rb ∨ rp < 0 ∨ 65536 < rp
  · have e : ((decide (0 ≤ rb) && decide (rb ≤ 1048576)) && (decide (0 ≤ rp) && decide (rp ≤ 65536))) = false := by
      rw [Bool.eq_false_iff]
      simp only [ne_eq, Bool.and_eq_true, decide_eq_true_eq]
      omega
    rw [e]
    simp only [if_pos h4, Bool.not_false, cond_true]
    rfl
  have e : ((decide (0 ≤ rb) && decide (rb ≤ 1048576)) && (decide (0 ≤ rp) && decide (rp ≤ 65536))) = true := by
    simp only [Bool.and_eq_true, decide_eq_true_eq]
    omega
  rw [e]
  clear e
  simp only [if_neg h4, Bool.not_true, cond_false]
  rw [r13_5, Option.bind_some]
  simp only []
  by_cases h5 : ae < 0 ∨ 1048576 < ae
  · have e : (decide (0 ≤ ae) && decide (ae ≤ 1048576)) = false := by
      rw [Bool.eq_false_iff]
      simp only [ne_eq, Bool.and_eq_true, decide_eq_true_eq]
      omega
    rw [e]
    simp only [if_pos h5, Bool.not_false, cond_true]
    rfl
  have e : (decide (0 ≤ ae) && decide (ae ≤ 1048576)) = true := by
    simp only [Bool.and_eq_true, decide_eq_true_eq]
    omega
  rw [e]
  clear e
  simp only [if_neg h5, Bool.not_true, cond_false]
  rw [r13_6, Option.bind_some]
  simp only []
  by_cases h6 : ms < 1 ∨ 16777216 < ms ∨ ma < 1 ∨ 1048576 < ma
  · have e : ((decide (1 ≤ ms) && decide (ms ≤ 16777216)) && (decide (1 ≤ ma) && decide (ma ≤ 1048576))) = false := by
      rw [Bool.eq_false_iff]
      simp only [ne_eq, Bool.and_eq_true, decide_eq_true_eq]
      omega
    rw [e]
    simp only [if_pos h6, Bool.not_false, cond_true]
    rfl
  have e : ((decide (1 ≤ ms) && decide (ms ≤ 16777216)) && (decide (1 ≤ ma) && decide (ma ≤ 1048576))) = true := by
    simp only [Bool.and_eq_true, decide_eq_true_eq]
    omega
  rw [e]
  clear e
  simp only [if_neg h6, Bool.not_true, cond_false]
  have hm := mul_pq (x := ms) (y := p) (X := 16777216) (Y := 1024) (by omega) (by omega) (by omega) (by omega)
  rw [r13_7, Option.bind_some, wrap_ok (n := ms * p) (by omega), wrap_ok (n := 32000 * lo) (by omega)]
  simp only []
  by_cases h7 : 32000 * lo < ms * p
  · have e : decide (ms * p ≤ 32000 * lo) = false := by
      rw [Bool.eq_false_iff]
      simp only [ne_eq, Bool.and_eq_true, decide_eq_true_eq]
      omega
    rw [e]
    simp only [if_pos h7, Bool.not_false, cond_true]
    rfl
  have e : decide (ms * p ≤ 32000 * lo) = true := by
    simp only [Bool.and_eq_true, decide_eq_true_eq]
    omega
  rw [e]
  clear e
  simp only [if_neg h7, Bool.not_true, cond_false]
  rw [r13_8, Option.bind_some]
  simp only []
  by_cases h8 : an < 0 ∨ 1048576 < an
  · have e : (decide (0 ≤ an) && decide (an ≤ 1048576)) = false := by
      rw [Bool.eq_false_iff]
      simp only [ne_eq, Bool.and_eq_true, decide_eq_true_eq]
      omega
    rw [e]
    simp only [if_pos h8, Bool.not_false, cond_true]
    rfl
  have e : (decide (0 ≤ an) && decide (an ≤ 1048576)) = true := by
    simp only [Bool.and_eq_true, decide_eq_true_eq]
    omega
  rw [e]
  clear e
  simp only [if_neg h8, Bool.not_true, cond_false]
  rw [r13_9, Option.bind_some]
  simp only []
  by_cases h9 : st < 1 ∨ 1000 < st ∨ ti < 1 ∨ 1000 < ti
  · have e : ((decide (1 ≤ st) && decide (st ≤ 1000)) && (decide (1 ≤ ti) && decide (ti ≤ 1000))) = false := by
      rw [Bool.eq_false_iff]
      simp only [ne_eq, Bool.and_eq_true, decide_eq_true_eq]
      omega
    rw [e]
    simp only [if_pos h9, Bool.not_false, cond_true]
    rfl
  have e : ((decide (1 ≤ st) && decide (st ≤ 1000)) && (decide (1 ≤ ti) && decide (ti ≤ 1000))) = true := by
    simp only [Bool.and_eq_true, decide_eq_true_eq]
    omega
  rw [e]
  clear e
  simp only [if_neg h9, Bool.not_true, cond_false]
  have hu := up_bound (a := hi) (b := p) (by omega) (by omega)
  have w3 : IntKind.i64.wrap (3 * rb) = 3 * rb := wrap_ok (by omega)
  rw [r13_10 _ _ _ _ _ _ _ _ _ _ _ _ _ _ (by omega) (by omega) (by omega) (by omega), Option.bind_some, w3]
  simp only []
  by_cases h10 : ss < upP hi p ∨ ss < 3 * rb ∨ 16777216 < ss
  · have e : (decide ((if 3 * rb > upP hi p then 3 * rb else upP hi p) ≤ ss) && decide (ss ≤ 16777216)) = false := by
      rw [Bool.eq_false_iff]
      simp only [ne_eq, Bool.and_eq_true, decide_eq_true_eq]
      split <;> omega
    rw [e]
    simp only [if_pos h10, Bool.not_false, cond_true]
    rfl
  have e : (decide ((if 3 * rb > upP hi p then 3 * rb else upP hi p) ≤ ss) && decide (ss ≤ 16777216)) = true := by
    simp only [Bool.and_eq_true, decide_eq_true_eq]
    split <;> omega
  rw [e]
  clear e
  simp only [if_neg h10, Bool.not_true, cond_false]
  rw [r13_11, Option.bind_some]
  simp only []
  by_cases h11 : ro < 0 ∨ 1073741824 < ro
  · have e : (decide (0 ≤ ro) && decide (ro ≤ 1073741824)) = false := by
      rw [Bool.eq_false_iff]
      simp only [ne_eq, Bool.and_eq_true, decide_eq_true_eq]
      omega
    rw [e]
    simp only [if_pos h11, Bool.not_false, cond_true]
    rfl
  have e : (decide (0 ≤ ro) && decide (ro ≤ 1073741824)) = true := by
    simp only [Bool.and_eq_true, decide_eq_true_eq]
    omega
  rw [e]
  clear e
  simp only [if_neg h11, Bool.not_true, cond_false]
  rw [r13_12, Option.bind_some]
  simp only []
  by_cases h12 : br < 1 ∨ 1048576 < br
  · have e : (decide (1 ≤ br) && decide (br ≤ 1048576)) = false := by
      rw [Bool.eq_false_iff]
      simp only [ne_eq, Bool.and_eq_true, decide_eq_true_eq]
      omega
    rw [e]
    simp only [if_pos h12, Bool.not_false, cond_true]
    rfl
  have e : (decide (1 ≤ br) && decide (br ≤ 1048576)) = true := by
    simp only [Bool.and_eq_true, decide_eq_true_eq]
    omega
  rw [e]
  clear e
  simp only [if_neg h12, Bool.not_true, cond_false]
  rfl
theorem confR_ok (c : Cf) : (confR c).1 = 0 ↔ wrongC c = 0 := by
  unfold confR
  split <;> simp_all
end Go.Proofs.Ytgogjcbfnnhaoaa

/- What the readings of a law's tracks say (great: more than 2000 rows, or 20000 entries). -/
set_option linter.unusedSimpArgs false
set_option linter.unusedVariables false
namespace Go.Proofs.Ytgogjcbfnnhaoaa
open Go.RowKit
end Go.Proofs.Ytgogjcbfnnhaoaa

/- Growth and fits: the laws of chapter 13. -/
set_option linter.unusedSimpArgs false
set_option linter.unusedVariables false
namespace Go.Proofs.Ytgogjcbfnnhaoaa
open Go.RowKit
theorem up_le {a b k : Int} (hb : 0 < b) (h : a ≤ k * b) : upP a b ≤ k := by
  unfold upP
  have : (a + b - 1) / b < k + 1 := by
    rw [Int.ediv_lt_iff_lt_mul hb, Int.add_mul]; omega
  omega
def growI (p lo hi rb rp : Int) : Int × Int := (4 * upP (1048576 * (hi - lo)) lo + 6 * rp, 12 * upP hi p + 6 * rb + 9)
theorem grow_bound {p lo hi rb rp ae ms ma an st ss ro ti br : Int} (R : RightC p lo hi rb rp ae ms ma an st ss ro ti br) :
    0 ≤ upP (1048576 * (hi - lo)) lo ∧ upP (1048576 * (hi - lo)) lo ≤ 65536 ∧ 0 ≤ upP hi p ∧ upP hi p ≤ 8388608 := by
  obtain ⟨⟨h1, h2⟩, ⟨h3, h4⟩, ⟨h5, h6⟩, h7, _⟩ := R
  have a1 := up_bound (a := 1048576 * (hi - lo)) (b := lo) (by omega) (by omega)
  have a2 := up_le (a := 1048576 * (hi - lo)) (b := lo) (k := 65536) (by omega) (by omega)
  have a3 := up_bound (a := hi) (b := p) (by omega) (by omega)
  omega
theorem err_mono {rb rp r s : Int} (hp : 0 ≤ rp) (h : absI r ≤ absI s) : errI rb rp r ≤ errI rb rp s := by
  unfold errI
  have := Int.mul_le_mul_of_nonneg_right h hp
  have := Int.ediv_le_ediv (c := 1048576) (by omega) this
  omega
theorem abs_eq (r : Int) (hr : -2147483648 ≤ r ∧ r ≤ 2147483647) : (if IntKind.i64.wrap (0 - r) > r then IntKind.i64.wrap (0 - r) else r) = absI r := by
  rw [wrap_ok (by omega)]; unfold absI; split <;> split <;> omega
def badB (c : Cf) (t : Tk) (i : Nat) : Bool :=
  decide ((t.2.getD i gp0).2.2.1 < (t.2.getD i gp0).2.2.2.1 + c.2.2.2.2.2.2.2.2.1 + c.2.2.2.2.2.2.1) || decide ((t.1.getD (t.2.getD i gp0).2.1.toNat sg0).1 - (t.2.getD i gp0).2.2.1 < (t.2.getD i gp0).2.2.2.1 + c.2.2.2.2.2.2.2.2.1 + c.2.2.2.2.2.2.1)
/-- What 'Fits' answers. -/
def fitsR (c : Cf) (t : Tk) : Int × Int := if wrongC c ≠ 0 then (50, 0) else if (checkI t).1 ≠ 0 then (51, 0) else
  match (List.range t.2.length).findSome? fun i => bif !badB c t i then none else some i with
  | some i => (11, (i : Int))
  | none => (0, 0)
theorem grp_facts {t : Tk} {i : Nat} (h1 : t.1.length ≤ 200) (h4 : ∀ i, i < t.1.length → segB t.1.length (t.1.getD i sg0) = true) (h5 : grpB t i (t.2.getD i gp0) = true) :
    0 ≤ (t.2.getD i gp0).2.1 ∧ (t.2.getD i gp0).2.1 < t.1.length ∧ 0 ≤ (t.2.getD i gp0).2.2.1 ∧ (t.2.getD i gp0).2.2.1 ≤ (t.1.getD (t.2.getD i gp0).2.1.toNat sg0).1 ∧ (t.1.getD (t.2.getD i gp0).2.1.toNat sg0).1 ≤ 1099511627776 ∧
      0 ≤ (t.2.getD i gp0).2.2.2.1 ∧ (t.2.getD i gp0).2.2.2.1 ≤ 1048576 ∧ 0 ≤ (t.2.getD i gp0).2.2.2.2 ∧ (t.2.getD i gp0).2.2.2.2 ≤ 16777216 ∧ 1 ≤ (t.2.getD i gp0).1 ∧ (t.2.getD i gp0).1 ≤ 65535 := by
  unfold grpB at h5
  simp only [Bool.and_eq_true, Bool.or_eq_true, decide_eq_true_eq] at h5
  have hs := h4 (t.2.getD i gp0).2.1.toNat (by omega)
  unfold segB at hs
  simp only [Bool.and_eq_true, decide_eq_true_eq] at hs
  omega
theorem check_ok' {t : Tk} (h : (checkI t).1 = 0) : 1 ≤ t.1.length ∧ t.1.length ≤ 200 ∧ t.2.length ≤ 400 ∧ (∀ i, i < t.1.length → segB t.1.length (t.1.getD i sg0) = true) ∧ ∀ i, i < t.2.length → grpB t i (t.2.getD i gp0) = true := by
  unfold checkI at h
  by_cases h1 : t.1.length = 0 ∨ 200 < t.1.length ∨ 400 < t.2.length
  · rw [if_pos h1] at h; exact absurd h (by decide)
  · rw [if_neg h1] at h
    cases h2 : firstN (fun i => segB t.1.length (t.1.getD i sg0)) t.1.length with
    | some i => rw [h2] at h; have h' : (11 : Int) = 0 := h; omega
    | none =>
      rw [h2] at h
      cases h3 : firstN (fun i => grpB t i (t.2.getD i gp0)) t.2.length with
      | some i => rw [h3] at h; have h' : (16 : Int) = 0 := h; omega
      | none => exact ⟨by omega, by omega, by omega, firstN_none.1 h2, firstN_none.1 h3⟩
theorem f_Fits (c : Cf) (t : Tk) (hs : t.1.length ≤ 200 → ∀ s ∈ t.1, s.2.1.length ≤ big ∧ s.2.2.length ≤ big) : F_conf_Config_Fits c t = some (fitsR c t) := by
  unfold F_conf_Config_Fits fitsR
  rw [f_confCheck, Option.bind_some]
  by_cases hw : wrongC c = 0
  · have e0 : ((confR c).1 != 0) = false := by unfold confR; simp [hw]
    rw [e0, if_neg (by simp [hw]), f_Check t hs]
    simp only [cond_false, Option.bind_some]
    by_cases hc : (checkI t).1 = 0
    · obtain ⟨k1, k2, k3, k4, k5⟩ := check_ok' hc
      have e1 : ((checkI t).1 != 0) = false := by simp [hc]
      rw [e1, if_neg (by simp [hc])]
      simp only [cond_false]
      rw [loop_find t.2.length (fun i => bif !badB c t i then none else some (.inl ((i : Int), 11))) (.inr ())]
      · rw [findSome_map (α := Unit)]
        cases h6 : firstN (fun i => !badB c t i) t.2.length with
        | none => unfold firstN at h6; rw [h6]; rfl
        | some i => unfold firstN at h6; rw [h6]; rfl
      · intro i hi
        rw [decide_eq_true (show (i : Int) < t.2.length by omega), decide_eq_true (show (0 : Int) ≤ i by omega), Int.toNat_natCast, wrap_ok (n := (i : Int) + 1) (by omega)]
        have hdef : t.2.getD i ((0 : Int), ((0 : Int), ((0 : Int), ((0 : Int), (0 : Int))))) = t.2.getD i gp0 := rfl
        have hseg : ∀ s, t.1.getD s ((0 : Int), ([], [])) = t.1.getD s sg0 := fun _ => rfl
        rw [hdef, hseg]
        obtain ⟨g1, g2, g3, g4, g5, g6, g7, g8, g9, _⟩ := grp_facts k2 k4 (k5 i hi)
        obtain ⟨p, lo, hi', rb, rp, ae, ms, ma, an, st, ss, ro, ti, br⟩ := c
        have R := right_iff.1 hw
        have ha := R.han
        have hm := R.hms
        unfold badB F_conf_Config_Reach
        simp only [cond_true, Bool.and_self, chk_yes]
        rw [decide_eq_true g1, decide_eq_true g2]
        generalize (t.2.getD i gp0) = g at *
        generalize (t.1.getD g.2.1.toNat sg0).1 = len at *
        simp only [Bool.and_self, chk_yes]
        rw [wrap_ok (n := len - g.2.2.1) (by omega), wrap_ok (n := g.2.2.2.1 + an) (by omega), wrap_ok (n := g.2.2.2.1 + an + ms) (by omega), Option.bind_some]
        cases decide (g.2.2.1 < g.2.2.2.1 + an + ms) <;> cases decide (len - g.2.2.1 < g.2.2.2.1 + an + ms) <;> rfl
      · simp
    · have e1 : ((checkI t).1 != 0) = true := by simp [hc]
      rw [e1, if_pos hc]
      rfl
  · have e0 : ((confR c).1 != 0) = true := by unfold confR; simp [hw]
    rw [e0, if_pos hw]
    unfold confR
    rw [if_neg hw]
    rfl
end Go.Proofs.Ytgogjcbfnnhaoaa

/- What the reading of 'Check' of scripts says. -/
set_option linter.unusedSimpArgs false
set_option linter.unusedVariables false
namespace Go.Proofs.Ytgogjcbfnnhaoaa
open Go.RowKit
noncomputable def getV (b : List Int) : (Int × (Int × Int)) × Int := (F_frame_Get b).getD ((0, 0, 0), 0)
theorem f_GetV (b : List Int) (hb : b.length ≤ 4611686018427387903) : F_frame_Get b = some (getV b) := by
  obtain ⟨y, h, _⟩ := get_total b hb
  unfold getV
  rw [h]; rfl
noncomputable def okJ (k : Int) (b : List Int) : Bool := !(bif (getV b).2 == 0 then (getV b).1.2.1 == bits .i64 .and k 255 else false)
noncomputable def junkAt (k : Int) (t : Tick) : Bool := decide (t.2.2.2.2.2.1.length ≤ 27) && (List.range t.2.2.2.2.2.1.length).all fun j => okJ k (t.2.2.2.2.2.1.getD j [])
noncomputable def junkB (tk : List Tick) : Bool := (List.range tk.length).all fun k => junkAt (k : Int) (tk.getD k tk0)
theorem f_junk (cp lo hi rb rp ae ms ma an sl ss ro ti br : Int) (sg : List Sg) (gs : List Gp) (rt : List Int) (st v0 c0 c1 p0 p1 : Int) (tk : List Tick) (rd : List Rd) (pl k0 k1 : List Int) (hl : tk.length ≤ 4096) (hj : ∀ t ∈ tk, ∀ b ∈ t.2.2.2.2.2.1, b.length ≤ 4611686018427387903) : F_admit_judge_junk cp lo hi rb rp ae ms ma an sl ss ro ti br sg gs rt st v0 c0 c1 p0 p1 tk rd pl k0 k1 = some (junkB tk, cp, lo, hi, rb, rp, ae, ms, ma, an, sl, ss, ro, ti, br, sg, gs, rt, st, v0, c0, c1, p0, p1, tk, rd, pl, k0, k1) := by
  unfold F_admit_judge_junk junkB
  rw [loop_find tk.length (fun k => bif junkAt (k : Int) (tk.getD k tk0) then none else some (.inl false)) (.inr ())]
  · rw [all_find]
    cases ((List.range tk.length).all fun k => junkAt (k : Int) (tk.getD k tk0)) <;> rfl
  · intro i hi
    rw [decide_eq_true (show (i : Int) < tk.length by omega), decide_eq_true (show (0 : Int) ≤ i by omega), Int.toNat_natCast, wrap_ok (n := (i : Int) + 1) (by omega)]
    simp only [cond_true, Bool.and_self, chk_yes, tk_def]
    have hm := hj _ (getD_mem (d := tk0) hi)
    generalize tk.getD i tk0 = t at hm ⊢
    unfold junkAt
    generalize t.2.2.2.2.2.1 = l at hm ⊢
    by_cases h27 : 27 < l.length
    · rw [decide_eq_true (show (27 : Int) < l.length by omega), decide_eq_false (show ¬ l.length ≤ 27 by omega)]
      rfl
    rw [decide_eq_false (show ¬ (27 : Int) < l.length by omega), decide_eq_true (show l.length ≤ 27 by omega)]
    simp only [cond_false, Bool.true_and]
    rw [loop_find l.length (fun j => bif okJ (i : Int) (l.getD j []) then none else some (.inl false)) (.inr ())]
    · rw [all_find]
      cases ((List.range l.length).all fun j => okJ (i : Int) (l.getD j [])) <;> rfl
    · intro j hj'
      rw [decide_eq_true (show (j : Int) < l.length by omega), decide_eq_true (show (0 : Int) ≤ j by omega), Int.toNat_natCast, wrap_ok (n := (j : Int) + 1) (by omega)]
      simp only [cond_true, Bool.and_self, chk_yes]
      rw [f_GetV _ (hm _ (getD_mem (d := []) hj')), Option.bind_some]
      unfold okJ
      cases (getV (l.getD j [])).2 == 0 <;> cases (getV (l.getD j [])).1.2.1 == bits .i64 .and (i : Int) 255 <;> rfl
    · simp
  · simp
/-- How long all rows of a script may be; its numbers. -/
structure ScrOK (s : Scr) : Prop where
  ci : I64 s.2.2.2.1.1 ∧ I64 s.2.2.2.1.2
  tl : s.2.2.2.2.2.1.length ≤ 140737488351232
  rl : s.2.2.2.2.2.2.length ≤ 140737488351232
  jl : ∀ t ∈ s.2.2.2.2.2.1, ∀ b ∈ t.2.2.2.2.2.1, b.length ≤ 140737488351232
theorem ids_le {t : Tk} (h : ∀ i, i < t.2.length → grpB t i (t.2.getD i gp0) = true) : ∀ a b : Nat, a ≤ b → b < t.2.length → (t.2.getD a gp0).1 ≤ (t.2.getD b gp0).1 := by
  intro a b hab hb
  induction b with
  | zero => obtain rfl : a = 0 := by omega
            exact Int.le_refl _
  | succ b ih =>
    by_cases h2 : a = b + 1
    · subst h2; exact Int.le_refl _
    · have := h (b + 1) hb
      unfold grpB at this
      simp only [Bool.and_eq_true, Bool.or_eq_true, decide_eq_true_eq, Nat.add_sub_cancel] at this
      have := ih (by omega) (by omega)
      omega
theorem lens_ok {t : Tk} (h : ∀ i, i < t.1.length → segB t.1.length (t.1.getD i sg0) = true) : LensOK t := by
  intro i hi
  have := h i hi
  unfold segB at this
  simp only [Bool.and_eq_true, decide_eq_true_eq] at this
  exact ⟨this.1.1.1.1, this.1.1.1.2⟩
theorem fits_ok {c : Cf} {t : Tk} (h : (fitsR c t).1 = 0) : wrongC c = 0 ∧ (checkI t).1 = 0 := by
  unfold fitsR at h
  by_cases hw : wrongC c = 0
  · rw [if_neg (by simp [hw])] at h
    by_cases hc : (checkI t).1 = 0
    · exact ⟨hw, hc⟩
    · rw [if_pos hc] at h; exact absurd h (by decide)
  · rw [if_pos hw] at h; exact absurd h (by decide)
theorem on_facts {L st : Int} {tk : List Tick} (h : onB L st tk = true) : tk.length ≤ 4096 ∧ 0 ≤ st ∧ st ≤ L ∧ (∀ i, i ≤ tk.length → 0 ≤ posI st tk i ∧ posI st tk i ≤ L) ∧ ∀ i, i < tk.length → -L ≤ (tk.getD i tk0).1 ∧ (tk.getD i tk0).1 ≤ L := by
  unfold onB at h
  simp only [Bool.and_eq_true, decide_eq_true_eq, List.all_eq_true, List.mem_range] at h
  obtain ⟨⟨⟨h1, h2⟩, h3⟩, h4⟩ := h
  have h5 : ∀ i, i < tk.length → (-L ≤ (tk.getD i tk0).1 ∧ (tk.getD i tk0).1 ≤ L) ∧ 0 ≤ posI st tk (i + 1) ∧ posI st tk (i + 1) ≤ L := by
    intro i hi
    have := h4 i hi
    unfold onAt at this
    simp only [Bool.and_eq_true, decide_eq_true_eq] at this
    exact ⟨with_iff.1 this.1, this.2⟩
  refine ⟨h1, h2, h3, fun i hi => ?_, fun i hi => (h5 i hi).1⟩
  cases i with
  | zero => exact ⟨h2, h3⟩
  | succ i => exact (h5 i (by omega)).2
/-- The first rule that a script breaks. -/
noncomputable def admitI (c : Cf) (t : Tk) (s : Scr) : Int :=
  bif (fitsR c t).1 != 0 then 1 else bif !routeB t s.1 then 2 else bif !onB (startI t s.1 s.1.length) s.2.1 s.2.2.2.2.2.1 then 3 else bif !speedsB c.2.2.2.2.2.2.1 c.2.2.2.2.2.2.2.1 s.2.2.1 s.2.2.2.2.2.1 then 4 else
  bif !(wheelB c.2.1 c.2.2.1 s.2.2.2.1.1 s.2.2.2.2.1.1 && wheelB c.2.1 c.2.2.1 s.2.2.2.1.2 s.2.2.2.2.1.2) then 5 else bif !numbersB c.2.2.2.2.2.1 s.2.2.2.2.2.1 then 6 else
  bif !(List.range s.2.2.2.2.2.1.length).all (sensK c s.2.2.2.2.2.1 (countsL c.1 s.2.2.2.1.1 s.2.2.2.2.1.1 (fun t => t.2.1.1) s.2.2.2.2.2.1) (countsL c.1 s.2.2.2.1.2 s.2.2.2.2.1.2 (fun t => t.2.1.2) s.2.2.2.2.2.1)) then 7 else
  bif !(List.range s.2.2.2.2.2.2.length).all (readK t s.1 c.2.2.2.2.2.2.2.2.1 s.2.1 (placesL s.2.1 s.2.2.2.2.2.1) s.2.2.2.2.2.1.length s.2.2.2.2.2.2) then 8 else
  bif !junkB s.2.2.2.2.2.1 then 9 else 0
theorem f_admitCheck (c : Cf) (t : Tk) (s : Scr) (hR : Rows t) (hS : ScrOK s) : F_admit_Check c t s = some (admitI c t s) := by
  obtain ⟨r1, r2, r3⟩ := hR
  have hs : ∀ s ∈ t.1, s.2.1.length ≤ big ∧ s.2.2.length ≤ big := fun s hs => by have := r3 s hs; unfold big; omega
  have hN : ∀ s ∈ t.1, s.2.2.length ≤ 4611686018427387903 := fun s hs => by have := r3 s hs; omega
  obtain ⟨⟨i1, i2⟩, tl, rl, jl⟩ := hS
  unfold F_admit_Check admitI
  rw [f_Fits c t (fun _ => hs), Option.bind_some]
  by_cases hf : (fitsR c t).1 = 0
  · have e0 : ((fitsR c t).1 != 0) = false := by simp [hf]
    rw [e0]
    obtain ⟨hw, hc⟩ := fits_ok hf
    obtain ⟨k1', k2', k3', k4', k5'⟩ := check_ok' hc
    have hL := lens_ok k4'
    have hgo := ids_le k5'
    clear hf e0
    obtain ⟨cp, lo, hi, rb, rp, ae, ms, ma, an, sl, ss, ro, ti, br⟩ := c
    obtain ⟨sg, gs⟩ := t
    obtain ⟨rt, st, v0, ⟨c0, c1⟩, ⟨p0, p1⟩, tk, rd⟩ := s
    have R := right_iff.1 hw
    simp only at r1 r2 r3 hs hN i1 i2 tl rl jl k1' k2' k3' ⊢
    simp only [cond_false]
    rw [f_route cp lo hi rb rp ae ms ma an sl ss ro ti br sg gs rt st v0 c0 c1 p0 p1 tk rd [] [] [] hN, Option.bind_some]
    cases hr : routeB (sg, gs) rt with
    | false => rfl
    | true =>
      obtain ⟨q1, q2, q3⟩ := route_in hr
      simp only [Bool.not_true, cond_false]
      rw [f_on cp lo hi rb rp ae ms ma an sl ss ro ti br sg gs rt st v0 c0 c1 p0 p1 tk rd [] [] [] (by omega) q2 hL q3, Option.bind_some]
      have hsb := start_bound (t := (sg, gs)) hL q3 rt.length (Nat.le_refl _)
      cases ho : onB (startI (sg, gs) rt rt.length) st tk with
      | false => rfl
      | true =>
        obtain ⟨o1, o2, o3, o4, o5⟩ := on_facts ho
        simp only [Bool.not_true, cond_false]
        rw [f_speeds cp lo hi rb rp ae ms ma an sl ss ro ti br sg gs rt st v0 c0 c1 p0 p1 tk rd [] [] [] (by omega) R.hms R.hma, Option.bind_some]
        cases speedsB ms ma v0 tk with
        | false => rfl
        | true =>
          simp only [Bool.not_true, cond_false]
          rw [f_wheels cp lo hi rb rp ae ms ma an sl ss ro ti br sg gs rt st v0 c0 c1 p0 p1 tk rd [] [] [], Option.bind_some]
          cases (wheelB lo hi c0 p0 && wheelB lo hi c1 p1) with
          | false => rfl
          | true =>
            simp only [Bool.not_true, cond_false]
            rw [f_numbers cp lo hi rb rp ae ms ma an sl ss ro ti br sg gs rt st v0 c0 c1 p0 p1 tk rd [] [] [] (by omega) R.hae, Option.bind_some]
            cases numbersB ae tk with
            | false => rfl
            | true =>
              have hb : startI (sg, gs) rt rt.length ≤ 439804651110400 := by
                have : (rt.length : Int) * 1099511627776 ≤ 400 * 1099511627776 := by omega
                omega
              simp only [Bool.not_true, cond_false]
              rw [f_Places (rt, st, v0, (c0, c1), (p0, p1), tk, rd) o1 (fun i hi => by have := o4 i hi; simp only; omega), Option.bind_some, f_Counts0 (rt, st, v0, (c0, c1), (p0, p1), tk, rd) (cp, lo, hi, rb, rp, ae, ms, ma, an, sl, ss, ro, ti, br) o1 i1, Option.bind_some, f_Counts1 (rt, st, v0, (c0, c1), (p0, p1), tk, rd) (cp, lo, hi, rb, rp, ae, ms, ma, an, sl, ss, ro, ti, br) o1 i2, Option.bind_some]
              simp only []
              have hp := R.hp
              have hlo := R.hlo
              have hhi := R.hhi
              have hrp := R.hrp
              rw [f_all cp lo hi rb rp ae ms ma an sl ss ro ti br sg gs rt st v0 c0 c1 p0 p1 tk rd (placesL st tk) (countsL cp c0 p0 (fun t => t.2.1.1) tk) (countsL cp c1 p1 (fun t => t.2.1.2) tk) o1 (by simp [countsL]) (by simp [countsL]) ⟨by omega, by omega⟩ ⟨by omega, by omega⟩ ⟨by omega, by omega⟩ ⟨by omega, by omega⟩, Option.bind_some]
              cases (List.range tk.length).all (sensK (cp, lo, hi, rb, rp, ae, ms, ma, an, sl, ss, ro, ti, br) tk (countsL cp c0 p0 (fun t => t.2.1.1) tk) (countsL cp c1 p1 (fun t => t.2.1.2) tk)) with
              | false => rfl
              | true =>
                simp only [Bool.not_true, cond_false]
                rw [f_reads cp lo hi rb rp ae ms ma an sl ss ro ti br sg gs rt st v0 c0 c1 p0 p1 tk rd (placesL st tk) (countsL cp c0 p0 (fun t => t.2.1.1) tk) (countsL cp c1 p1 (fun t => t.2.1.2) tk) ⟨k3', hgo, hL, q2, q3⟩ o1 (by simp [placesL]) (by omega), Option.bind_some]
                cases (List.range rd.length).all (readK (sg, gs) rt an st (placesL st tk) tk.length rd) with
                | false => rfl
                | true =>
                  simp only [Bool.not_true, cond_false]
                  rw [f_junk cp lo hi rb rp ae ms ma an sl ss ro ti br sg gs rt st v0 c0 c1 p0 p1 tk rd (placesL st tk) (countsL cp c0 p0 (fun t => t.2.1.1) tk) (countsL cp c1 p1 (fun t => t.2.1.2) tk) o1 (fun t ht b hb => by have := jl t ht b hb; omega), Option.bind_some]
                  cases junkB tk <;> rfl
  · have e0 : ((fitsR c t).1 != 0) = true := by simp [hf]
    rw [e0]
    rfl
end Go.Proofs.Ytgogjcbfnnhaoaa

/- AdmitCut, AdmitFaultless: what their readings say is true. -/
set_option linter.unusedSimpArgs false
set_option linter.unusedVariables false
namespace Go.Proofs.Ytgogjcbfnnhaoaa
open Go.RowKit
/-- All that is asked of a script. -/
structure Admits (c : Cf) (t : Tk) (s : Scr) : Prop where
  fits : (fitsR c t).1 = 0
  route : routeB t s.1 = true
  on : onB (startI t s.1 s.1.length) s.2.1 s.2.2.2.2.2.1 = true
  speeds : speedsB c.2.2.2.2.2.2.1 c.2.2.2.2.2.2.2.1 s.2.2.1 s.2.2.2.2.2.1 = true
  wheels : (wheelB c.2.1 c.2.2.1 s.2.2.2.1.1 s.2.2.2.2.1.1 && wheelB c.2.1 c.2.2.1 s.2.2.2.1.2 s.2.2.2.2.1.2) = true
  numbers : numbersB c.2.2.2.2.2.1 s.2.2.2.2.2.1 = true
  sens : ∀ k, k < s.2.2.2.2.2.1.length → sensK c s.2.2.2.2.2.1 (countsL c.1 s.2.2.2.1.1 s.2.2.2.2.1.1 (fun t => t.2.1.1) s.2.2.2.2.2.1) (countsL c.1 s.2.2.2.1.2 s.2.2.2.2.1.2 (fun t => t.2.1.2) s.2.2.2.2.2.1) k = true
  reads : ∀ k, k < s.2.2.2.2.2.2.length → readK t s.1 c.2.2.2.2.2.2.2.2.1 s.2.1 (placesL s.2.1 s.2.2.2.2.2.1) s.2.2.2.2.2.1.length s.2.2.2.2.2.2 k = true
  junk : ∀ k, k < s.2.2.2.2.2.1.length → junkAt (k : Int) (s.2.2.2.2.2.1.getD k tk0) = true
theorem rule_of {b : Bool} {k x : Int} (hk : k ≠ 0) (h : (bif !b then k else x) = 0) : b = true ∧ x = 0 := by
  cases b with
  | true => exact ⟨rfl, h⟩
  | false => exact absurd h hk
theorem admit_iff {c : Cf} {t : Tk} {s : Scr} : admitI c t s = 0 ↔ Admits c t s := by
  unfold admitI
  constructor
  · intro h
    obtain ⟨h1, h⟩ := rule_of (k := 1) (b := !((fitsR c t).1 != 0)) (by decide) (by rw [Bool.not_not]; exact h)
    obtain ⟨h2, h⟩ := rule_of (k := 2) (by decide) h
    obtain ⟨h3, h⟩ := rule_of (k := 3) (by decide) h
    obtain ⟨h4, h⟩ := rule_of (k := 4) (by decide) h
    obtain ⟨h5, h⟩ := rule_of (k := 5) (by decide) h
    obtain ⟨h6, h⟩ := rule_of (k := 6) (by decide) h
    obtain ⟨h7, h⟩ := rule_of (k := 7) (by decide) h
    obtain ⟨h8, h⟩ := rule_of (k := 8) (by decide) h
    obtain ⟨h9, h⟩ := rule_of (k := 9) (by decide) h
    refine ⟨by simpa using h1, h2, h3, h4, h5, h6, fun k hk => List.all_eq_true.1 h7 k (List.mem_range.2 hk), fun k hk => List.all_eq_true.1 h8 k (List.mem_range.2 hk), fun k hk => ?_⟩
    unfold junkB at h9
    exact List.all_eq_true.1 h9 k (List.mem_range.2 hk)
  · rintro ⟨h1, h2, h3, h4, h5, h6, h7, h8, h9⟩
    have e : ((fitsR c t).1 != 0) = false := by simp [h1]
    have e7 : (List.range s.2.2.2.2.2.1.length).all (sensK c s.2.2.2.2.2.1 (countsL c.1 s.2.2.2.1.1 s.2.2.2.2.1.1 (fun t => t.2.1.1) s.2.2.2.2.2.1) (countsL c.1 s.2.2.2.1.2 s.2.2.2.2.1.2 (fun t => t.2.1.2) s.2.2.2.2.2.1)) = true := List.all_eq_true.2 fun k hk => h7 k (List.mem_range.1 hk)
    have e8 : (List.range s.2.2.2.2.2.2.length).all (readK t s.1 c.2.2.2.2.2.2.2.2.1 s.2.1 (placesL s.2.1 s.2.2.2.2.2.1) s.2.2.2.2.2.1.length s.2.2.2.2.2.2) = true := List.all_eq_true.2 fun k hk => h8 k (List.mem_range.1 hk)
    have e9 : junkB s.2.2.2.2.2.1 = true := List.all_eq_true.2 fun k hk => h9 k (List.mem_range.1 hk)
    rw [e, h2, h3, h4, h5, h6, e7, e8, e9]
    rfl
theorem map_getD {α : Type} {f : Nat → α} {n i : Nat} {d : α} (h : i < n) : ((List.range n).map f).getD i d = f i := by
  rw [getD_lt (by simpa using h)]
  simp
/-- Ticks that are the same so far as is looked. -/
theorem pos_same {st : Int} {a b : List Tick} {n : Nat} (h : ∀ i, i < n → (a.getD i tk0).1 = (b.getD i tk0).1) : ∀ i, i ≤ n → posI st a i = posI st b i := by
  intro i
  induction i with
  | zero => intro _; rfl
  | succ i ih => intro hi; simp only [posI]; rw [ih (by omega), h i (by omega)]
theorem turn_same {p ph : Int} {slip : Tick → Int} {a b : List Tick} {n : Nat} (h : ∀ i, i < n → a.getD i tk0 = b.getD i tk0) : ∀ i, i ≤ n → turnI p ph slip a i = turnI p ph slip b i := by
  intro i
  induction i with
  | zero => intro _; rfl
  | succ i ih => intro hi; simp only [turnI]; rw [ih (by omega), h i (by omega)]
theorem take_get' {α : Type} {l : List α} {n i : Nat} {d : α} (hn : n ≤ l.length) (hi : i < n) : (l.take n).getD i d = l.getD i d := by
  rw [getD_lt (by simp; omega), getD_lt (by omega)]
  simp
theorem read_order {t : Tk} {rt : List Int} {an st n : Int} {pl : List Int} {rd : List Rd} (h : ∀ k, k < rd.length → readK t rt an st pl n rd k = true) :
    (∀ i, i < rd.length → -1 ≤ prevC rd i ∧ prevC rd i < (rd.getD i rd0).1 ∧ (rd.getD i rd0).1 < n) ∧ ∀ i j, i < j → j < rd.length → (rd.getD i rd0).1 < (rd.getD j rd0).1 := by
  have h1 : ∀ i, i < rd.length → prevC rd i < (rd.getD i rd0).1 ∧ (rd.getD i rd0).1 < n := fun i hi => by
    have := h i hi
    unfold readK at this
    exact read_gt this
  have h2 : ∀ i, i < rd.length → -1 ≤ prevC rd i := by
    intro i
    induction i with
    | zero => intro _; unfold prevC; rw [if_pos rfl]; omega
    | succ i ih =>
      intro hi
      have a := ih (by omega)
      have b := (h1 i (by omega)).1
      unfold prevC
      rw [if_neg (by omega), Nat.add_sub_cancel]
      omega
  refine ⟨fun i hi => ⟨h2 i hi, h1 i hi⟩, fun i j hij hj => ?_⟩
  induction j with
  | zero => omega
  | succ j ih =>
    have a := (h1 (j + 1) hj).1
    unfold prevC at a
    rw [if_neg (by omega), Nat.add_sub_cancel] at a
    by_cases hi : i = j
    · subst hi; exact a
    · have := ih (by omega) (by omega); omega
theorem pairwise_getD {α : Type} {l : List α} {d : α} {R : α → α → Prop} (h : ∀ i j, i < j → j < l.length → R (l.getD i d) (l.getD j d)) : l.Pairwise R := by
  rw [List.pairwise_iff_getElem]
  intro i j hi hj hij
  have := h i j hij hj
  rwa [getD_lt hi, getD_lt hj] at this
theorem filter_take {n : Int} : ∀ (l : List Rd), l.Pairwise (fun a b => a.1 < b.1) → ∃ m, m ≤ l.length ∧ l.filter (fun r => decide (r.1 < n)) = l.take m
  | [], _ => ⟨0, by simp, rfl⟩
  | a :: l, h => by
    rw [List.pairwise_cons] at h
    by_cases ha : a.1 < n
    · obtain ⟨m, hm, e⟩ := filter_take l h.2
      refine ⟨m + 1, by simp; omega, ?_⟩
      rw [List.filter_cons, decide_eq_true ha, if_pos rfl, e]
      rfl
    · refine ⟨0, by simp, ?_⟩
      rw [List.take_zero, List.filter_eq_nil_iff]
      intro b hb
      rcases List.mem_cons.1 hb with rfl | hb
      · simpa using ha
      · have := h.1 b hb
        simp
        omega
theorem admit_cut {c : Cf} {t : Tk} {rt : List Int} {st v0 c0 c1 p0 p1 : Int} {tk : List Tick} {rd : List Rd} {n : Nat} (hn : n ≤ tk.length) (h : Admits c t (rt, st, v0, (c0, c1), (p0, p1), tk, rd)) :
    Admits c t (rt, st, v0, (c0, c1), (p0, p1), tk.take n, rd.filter fun r => decide (r.1 < (n : Int))) := by
  obtain ⟨h1, h2, h3, h4, h5, h6, h7, h8, h9⟩ := h
  simp only at h2 h3 h4 h5 h6 h7 h8 h9
  have hlen : (tk.take n).length = n := by simp; omega
  have hg : ∀ i, i < n → (tk.take n).getD i tk0 = tk.getD i tk0 := fun i hi => take_get' hn hi
  have hpos : ∀ i, i ≤ n → posI st (tk.take n) i = posI st tk i := pos_same fun i hi => by rw [hg i hi]
  refine ⟨h1, h2, ?_, ?_, h5, ?_, ?_, ?_, ?_⟩
  · obtain ⟨o1, o2, o3, o4, o5⟩ := on_facts h3
    simp only
    unfold onB
    simp only [Bool.and_eq_true, decide_eq_true_eq, List.all_eq_true, List.mem_range]
    refine ⟨⟨⟨by omega, o2⟩, o3⟩, fun i hi => ?_⟩
    rw [hlen] at hi
    unfold onAt
    rw [hg i hi, hpos (i + 1) (by omega), Bool.and_eq_true, Bool.and_eq_true, decide_eq_true_eq, decide_eq_true_eq]
    exact ⟨with_iff.2 (o5 i (by omega)), o4 (i + 1) (by omega)⟩
  · simp only
    unfold speedsB at h4 ⊢
    rw [Bool.and_eq_true] at h4 ⊢
    refine ⟨h4.1, List.all_eq_true.2 fun i hi => ?_⟩
    rw [List.mem_range, hlen] at hi
    have := List.all_eq_true.1 h4.2 i (List.mem_range.2 (by omega))
    unfold speedAt prevI at this ⊢
    rw [hg i hi]
    by_cases hi0 : i = 0
    · rw [if_pos hi0] at this ⊢; exact this
    · rw [if_neg hi0] at this ⊢; rw [hg (i - 1) (by omega)]; exact this
  · simp only
    unfold numbersB at h6 ⊢
    refine List.all_eq_true.2 fun i hi => ?_
    rw [List.mem_range, hlen] at hi
    rw [hg i hi]
    exact List.all_eq_true.1 h6 i (List.mem_range.2 (by omega))
  · simp only
    intro k hk
    rw [hlen] at hk
    have := h7 k (by omega)
    have hc : ∀ (p ci ph : Int) (slip : Tick → Int) (i : Nat), i < n → (countsL p ci ph slip (tk.take n)).getD i 0 = (countsL p ci ph slip tk).getD i 0 := by
      intro p ci ph slip i hi
      unfold countsL
      rw [map_getD (by omega), map_getD (by omega), turn_same (n := n) hg (i + 1) (by omega)]
    have hfit : ∀ i, fitB i (tk.take n) k = fitB i tk k := by
      intro i
      unfold fitB
      rw [hg k hk, hg (k - 1) (by omega)]
    unfold sensK at this ⊢
    rw [hfit, hfit, hfit, hg k hk, hc _ _ _ _ k hk, hc _ _ _ _ k hk, hc _ _ _ _ (k - 1) (by omega), hc _ _ _ _ (k - 1) (by omega)]
    exact this
  · simp only
    obtain ⟨q1, q2⟩ := read_order h8
    obtain ⟨m, hm, e⟩ := filter_take (n := (n : Int)) rd (pairwise_getD (d := rd0) q2)
    have hp : ∀ r ∈ rd.take m, r.1 < (n : Int) := by
      intro r hr
      rw [← e, List.mem_filter] at hr
      exact of_decide_eq_true hr.2
    rw [e, hlen]
    have hml : (rd.take m).length = m := by simp; omega
    intro k hk
    rw [hml] at hk
    have hgr : ∀ i, i < m → (rd.take m).getD i rd0 = rd.getD i rd0 := fun i hi => take_get' hm hi
    have h8k := h8 k (by omega)
    obtain ⟨a1, a2, a3⟩ := q1 k (by omega)
    have hpc : prevC (rd.take m) k = prevC rd k := by
      unfold prevC
      by_cases h0 : k = 0
      · rw [if_pos h0, if_pos h0]
      · rw [if_neg h0, if_neg h0, hgr (k - 1) (by omega)]
    have hlt : (rd.getD k rd0).1 < (n : Int) := by
      rw [← hgr k hk]
      exact hp _ (getD_mem (by omega))
    have hpl : ∀ i, i < n → (placesL st (tk.take n)).getD i 0 = (placesL st tk).getD i 0 := by
      intro i hi
      unfold placesL
      rw [map_getD (by omega), map_getD (by omega), hpos (i + 1) (by omega)]
    unfold readK at h8k ⊢
    rw [hpc, hgr k hk]
    unfold readB aheadI at h8k ⊢
    generalize rd.getD k rd0 = r at *
    rw [hpl r.1.toNat (by omega)]
    have e2 : (if 0 < r.1 then (placesL st (tk.take n)).getD (r.1 - 1).toNat 0 else st) = (if 0 < r.1 then (placesL st tk).getD (r.1 - 1).toNat 0 else st) := by
      by_cases h0 : 0 < r.1
      · rw [if_pos h0, if_pos h0, hpl _ (by omega)]
      · rw [if_neg h0, if_neg h0]
    rw [e2, decide_eq_true hlt]
    rw [decide_eq_true a3] at h8k
    exact h8k
  · simp only
    intro k hk
    rw [hlen] at hk
    rw [hg k hk]
    exact h9 k (by omega)
def calmT (t : Tick) : Tick := (t.1, (0, 0), 0, 0, (false, false, false, false), [], t.2.2.2.2.2.2)
theorem admit_calm {c : Cf} {t : Tk} {rt : List Int} {st v0 c0 c1 p0 p1 : Int} {tk : List Tick} {rd : List Rd} (h : Admits c t (rt, st, v0, (c0, c1), (p0, p1), tk, rd)) : Admits c t (rt, st, v0, (c0, c1), (p0, p1), tk.map calmT, []) := by
  obtain ⟨h1, h2, h3, h4, h5, h6, h7, h8, h9⟩ := h
  simp only at h2 h3 h4 h5 h6 h7 h8 h9
  have hlen : (tk.map calmT).length = tk.length := by simp
  have hg : ∀ i, i < tk.length → (tk.map calmT).getD i tk0 = calmT (tk.getD i tk0) := by
    intro i hi
    rw [getD_lt (by simpa using hi), getD_lt hi]
    simp
  have hpos : ∀ i, i ≤ tk.length → posI st (tk.map calmT) i = posI st tk i := pos_same fun i hi => by rw [hg i hi]; rfl
  obtain ⟨hw, _⟩ := fits_ok h1
  obtain ⟨cp, lo, hi, rb, rp, ae, ms, ma, an, sl, ss, ro, ti, br⟩ := c
  have R := right_iff.1 hw
  simp only at h4 h5 h6
  refine ⟨h1, h2, ?_, ?_, h5, ?_, ?_, fun k hk => absurd hk (by simp), ?_⟩
  · obtain ⟨o1, o2, o3, o4, o5⟩ := on_facts h3
    simp only
    unfold onB
    simp only [Bool.and_eq_true, decide_eq_true_eq, List.all_eq_true, List.mem_range]
    refine ⟨⟨⟨by omega, o2⟩, o3⟩, fun i hi => ?_⟩
    rw [hlen] at hi
    unfold onAt
    rw [hg i hi, hpos (i + 1) (by omega), Bool.and_eq_true, Bool.and_eq_true, decide_eq_true_eq, decide_eq_true_eq]
    exact ⟨with_iff.2 (o5 i (by omega)), o4 (i + 1) (by omega)⟩
  · simp only
    unfold speedsB at h4 ⊢
    rw [Bool.and_eq_true] at h4 ⊢
    refine ⟨h4.1, List.all_eq_true.2 fun i hi => ?_⟩
    rw [List.mem_range, hlen] at hi
    have := List.all_eq_true.1 h4.2 i (List.mem_range.2 (by omega))
    unfold speedAt prevI at this ⊢
    rw [hg i hi]
    by_cases hi0 : i = 0
    · rw [if_pos hi0] at this ⊢; exact this
    · rw [if_neg hi0] at this ⊢; rw [hg (i - 1) (by omega)]; exact this
  · simp only
    unfold numbersB
    refine List.all_eq_true.2 fun i hi => ?_
    rw [List.mem_range, hlen] at hi
    rw [hg i hi]
    have := R.hae
    unfold numAt calmT
    simp only [Bool.and_eq_true, with_iff]
    omega
  · simp only
    intro k hk
    rw [hlen] at hk
    unfold speedsB at h4
    rw [Bool.and_eq_true] at h4
    have hv := List.all_eq_true.1 h4.2 k (List.mem_range.2 hk)
    unfold speedAt at hv
    rw [Bool.and_eq_true] at hv
    have hv := with_iff.1 hv.1
    have hms := R.hms
    have hwr : wrongR (cp, lo, hi, rb, rp, ae, ms, ma, an, sl, ss, ro, ti, br) (calmT (tk.getD k tk0)) = false := by
      unfold wrongR calmT
      simp only [Int.add_zero]
      rw [wrap_ok (n := (tk.getD k tk0).1) (by omega), f_confError _ _ _ _ _ _ _ _ _ _ _ _ _ _ _ (by omega) R.hrb R.hrp]
      obtain ⟨_, e1, e2⟩ := err_bound (r := (tk.getD k tk0).1) (by omega) R.hrb R.hrp
      simp only [Option.getD_some]
      rw [f_within28 _ _ (by omega)]
      have : withB 0 (errI rb rp (tk.getD k tk0).1) = true := with_iff.2 ⟨by omega, by omega⟩
      rw [this]
      rfl
    unfold sensK
    rw [hg k hk, hwr]
    have e1 : ((calmT (tk.getD k tk0)).2.1.1 != 0) = false := rfl
    have e2 : ((calmT (tk.getD k tk0)).2.1.2 != 0) = false := rfl
    rw [e1, e2]
    unfold sensB wrongN
    cases fitB 0 (tk.map calmT) k <;> cases fitB 1 (tk.map calmT) k <;> cases fitB 2 (tk.map calmT) k <;> rfl
  · simp only
    intro k hk
    rw [hlen] at hk
    rw [hg k hk]
    unfold junkAt calmT
    rfl
end Go.Proofs.Ytgogjcbfnnhaoaa

/- AdmitCut, AdmitFaultless: the laws. -/
set_option linter.unusedSimpArgs false
set_option linter.unusedVariables false
namespace Go.Proofs.Ytgogjcbfnnhaoaa
open Go.RowKit
def usualC : Cf := (1024, 131072, 131072, 0, 0, 0, 1000, 100, 0, 1, 128, 0, 5, 2)
def track1 : Tk := ([(9, [(0, 0)], [])], [])
theorem rows1 : Rows track1 := ⟨by decide, by decide, by decide⟩
theorem scr_none (rt : List Int) (st v0 c0 c1 p0 p1 : Int) (h0 : I64 c0) (h1 : I64 c1) : ScrOK (rt, st, v0, (c0, c1), (p0, p1), [], []) := ⟨⟨h0, h1⟩, by simp, by simp, by simp⟩
theorem f_anchor28 : F_law28_anchor () = some true := by
  unfold F_law28_anchor F_law28_usual
  simp only [Option.bind_some]
  have e1 := f_admitCheck usualC track1 ([0], 0, 0, (131072, 131072), (0, 0), [], []) rows1 (scr_none _ _ _ _ _ _ _ ⟨by decide, by decide⟩ ⟨by decide, by decide⟩)
  have e2 := f_admitCheck (0, 0, 0, 0, 0, 0, 0, 0, 0, 0, 0, 0, 0, 0) track1 ([0], 0, 0, (131072, 131072), (0, 0), [], []) rows1 (scr_none _ _ _ _ _ _ _ ⟨by decide, by decide⟩ ⟨by decide, by decide⟩)
  have e3 := f_admitCheck usualC track1 ([], 0, 0, (0, 0), (0, 0), [], []) rows1 (scr_none _ _ _ _ _ _ _ ⟨by decide, by decide⟩ ⟨by decide, by decide⟩)
  have a1 : admitI usualC track1 ([0], 0, 0, (131072, 131072), (0, 0), [], []) = 0 := by
    rw [admit_iff]
    refine ⟨by decide, by decide, by decide, by decide, by decide, by decide, fun k hk => absurd hk (by simp), fun k hk => absurd hk (by simp), fun k hk => absurd hk (by simp)⟩
  have a2 : admitI (0, 0, 0, 0, 0, 0, 0, 0, 0, 0, 0, 0, 0, 0) track1 ([0], 0, 0, (131072, 131072), (0, 0), [], []) = 1 := by
    unfold admitI
    have : (fitsR (0, 0, 0, 0, 0, 0, 0, 0, 0, 0, 0, 0, 0, 0) track1).1 = 50 := by decide
    rw [this]
    rfl
  have a3 : admitI usualC track1 ([], 0, 0, (0, 0), (0, 0), [], []) = 2 := by
    unfold admitI
    have h1 : (fitsR usualC track1).1 = 0 := by decide
    have h2 : routeB track1 [] = false := by decide
    rw [h1, h2]
    rfl
  rw [a1] at e1
  rw [a2] at e2
  rw [a3] at e3
  unfold usualC track1 at e1 e3
  unfold track1 at e2
  have t1 : ((0 : Int) == 0) = true := rfl
  have t2 : ((1 : Int) == 1) = true := rfl
  rw [e1, Option.bind_some, e2, t1]
  simp only [cond_true, Option.bind_some]
  rw [t2]
  simp only [cond_true, Option.bind_some]
  rw [e3]
  rfl
/-- Are track and script too great? -/
theorem f_great28 (t : Tk) (s : Scr) (hR : Rows t) (hS : ScrOK s) : ∃ b, F_law28_great t s = some b ∧ (b = false → s.2.2.2.2.2.2.length ≤ 120 ∧ s.2.2.2.2.2.1.length ≤ 120) := by
  obtain ⟨r1, r2, r3⟩ := hR
  obtain ⟨_, tl, rl, jl⟩ := hS
  unfold F_law28_great
  simp only []
  by_cases h1 : (50 : Int) < t.1.length
  · rw [decide_eq_true h1]; exact ⟨true, rfl, fun h => by cases h⟩
  rw [decide_eq_false h1]
  by_cases h2 : (100 : Int) < t.2.length
  · rw [decide_eq_true h2]; exact ⟨true, rfl, fun h => by cases h⟩
  rw [decide_eq_false h2]
  by_cases h3 : (120 : Int) < s.2.2.2.2.2.1.length
  · rw [decide_eq_true h3]; exact ⟨true, rfl, fun h => by cases h⟩
  rw [decide_eq_false h3]
  by_cases h4 : (120 : Int) < s.2.2.2.2.2.2.length
  · rw [decide_eq_true h4]; exact ⟨true, rfl, fun h => by cases h⟩
  rw [decide_eq_false h4]
  suffices hh : ∃ b, F_law28_great t s = some b by
    obtain ⟨b, hb⟩ := hh
    refine ⟨b, ?_, fun _ => ⟨by omega, by omega⟩⟩
    rw [← hb]
    unfold F_law28_great
    simp only []
    rw [decide_eq_false h1, decide_eq_false h2, decide_eq_false h3, decide_eq_false h4]
  unfold F_law28_great
  simp only []
  rw [decide_eq_false h1, decide_eq_false h2, decide_eq_false h3, decide_eq_false h4]
  simp only [cond_false]
  by_cases h5 : (500 : Int) < s.1.length
  · rw [decide_eq_true h5]; exact ⟨true, rfl⟩
  rw [decide_eq_false h5]
  simp only [cond_false]
  rw [loop_find t.1.length (fun i => bif (bif decide ((100 : Int) < (t.1.getD i sg0).2.1.length) then true else decide ((3 : Int) < (t.1.getD i sg0).2.2.length)) then some (.inl true) else none) (.inr ())]
  · rcases any_find t.1.length (fun i => bif decide ((100 : Int) < (t.1.getD i sg0).2.1.length) then true else decide ((3 : Int) < (t.1.getD i sg0).2.2.length)) (fun _ => (Sum.inl true : Bool ⊕ Unit)) with ⟨e1, _⟩ | ⟨i, e1, _⟩
    · rw [e1]
      simp only [Option.getD_none, Option.bind_some]
      generalize s.2.2.2.2.2.1 = tk at *
      have inner : ∀ l : List (List Int), l.length ≤ 140737488351232 → ∃ z : Bool ⊕ Unit, loopO (X := Bool ⊕ Unit) (fun (s_30 : Int) =>
                  (bif (decide (s_30 < (l.length : Int))) then
                    chk none ((decide ((0 : Int) ≤ s_30)) && (decide (s_30 < (l.length : Int)))) <|
                    let t74_31 : (List Int) := (l.getD s_30.toNat [])
                    let t77_32 : Bool := (decide ((200 : Int) < (t74_31.length : Int)))
                    (bif t77_32 then
                      some ((.inr (.inl true)) : Int ⊕ (Bool ⊕ Unit))
                    else
                      let t78_33 : Int := (IntKind.wrap .i64 (s_30 + (1 : Int)))
                      some (.inl t78_33))
                  else
                    some (.inr (.inr ())))) (0 : Int) = some z := by
        intro l hl
        refine ⟨_, loop_find l.length (fun j => bif decide ((200 : Int) < (l.getD j []).length) then some (.inl true) else none) (.inr ()) ?_ (by simp)⟩
        intro j hj
        rw [decide_eq_true (show (j : Int) < l.length by omega), decide_eq_true (show (0 : Int) ≤ j by omega), Int.toNat_natCast]
        simp only [cond_true, Bool.and_self, chk_yes]
        rw [wrap_ok (n := (j : Int) + 1) (by omega)]
        cases decide ((200 : Int) < (l.getD j []).length) <;> rfl
      suffices hx : ∃ y : Bool, _ = some y ∧ True by
        obtain ⟨y, hy, _⟩ := hx
        exact ⟨y, hy⟩
      refine bind_inv (fun s => ∃ i : Nat, s = (i : Int) ∧ i ≤ tk.length) (fun s => (tk.length - s).toNat) (fun _ => True) ⟨0, rfl, by omega⟩ ?_ (fun x _ => by cases x <;> exact ⟨_, rfl, trivial⟩)
      rintro _ ⟨i, rfl, h⟩
      by_cases hlt : i < tk.length
      · rw [decide_eq_true (show (i : Int) < tk.length by omega), decide_eq_true (show (0 : Int) ≤ i by omega), Int.toNat_natCast, wrap_ok (n := (i : Int) + 1) (by omega)]
        simp only [cond_true, Bool.and_self, chk_yes, tk_def]
        by_cases hq : (50 : Int) < (tk.getD i tk0).2.2.2.2.2.1.length
        · rw [decide_eq_true hq]
          left; exact ⟨_, rfl, trivial⟩
        · rw [decide_eq_false hq]
          simp only [cond_false]
          obtain ⟨z, hz⟩ := inner (tk.getD i tk0).2.2.2.2.2.1 (by omega)
          rw [hz, Option.bind_some]
          cases z with
          | inl r => left; exact ⟨_, rfl, trivial⟩
          | inr r => right; exact ⟨_, rfl, ⟨i + 1, by simp, by omega⟩, by omega⟩
      · left
        rw [decide_eq_false (show ¬ (i : Int) < tk.length by omega)]
        exact ⟨_, rfl, trivial⟩
    · rw [e1]; exact ⟨true, rfl⟩
  · intro i hi
    rw [decide_eq_true (show (i : Int) < t.1.length by omega), decide_eq_true (show (0 : Int) ≤ i by omega), Int.toNat_natCast, wrap_ok (n := (i : Int) + 1) (by omega), sg_def]
    simp only [cond_true, Bool.and_self, chk_yes]
    cases (bif decide ((100 : Int) < (t.1.getD i sg0).2.1.length) then true else decide ((3 : Int) < (t.1.getD i sg0).2.2.length)) <;> rfl
  · simp
theorem scr_fits {s : Scr} (h : Fits (.agg (.pair (.slice (.int .i64)) (.pair (.int .i64) (.pair (.int .i64) (.pair (.agg (.pair (.int .i64) (.int .i64))) (.pair (.agg (.pair (.int .i64) (.int .i64))) (.pair (.slice (.agg (.pair (.int .i64) (.pair (.agg (.pair (.int .i64) (.int .i64))) (.pair (.int .i64) (.pair (.int .i64) (.pair (.agg (.pair .bool (.pair .bool (.pair .bool .bool)))) (.pair (.slice (.slice (.int .u8))) .bool)))))))) (.slice (.agg (.pair (.int .i64) (.pair (.int .i64) (.pair (.int .i64) (.int .i64))))))))))))) s) : ScrOK s := by
  obtain ⟨⟨a1, a2⟩, a3, a4, ⟨a5, a6⟩, a7, ⟨a8, a9⟩, a10, a11⟩ := h
  refine ⟨⟨i64_fits a5, i64_fits a6⟩, a8, a10, fun t ht b hb => ?_⟩
  obtain ⟨b1, b2, b3, b4, b5, ⟨b6, b7⟩, b8⟩ := a9 t ht
  exact (b7 b hb).1
theorem filter_take_succ {rd : List Rd} {n : Int} {i : Nat} (hi : i < rd.length) : (bif decide ((rd.getD i rd0).1 < n) then (rd.take i).filter (fun r => decide (r.1 < n)) ++ [rd.getD i rd0] else (rd.take i).filter (fun r => decide (r.1 < n))) = (rd.take (i + 1)).filter (fun r => decide (r.1 < n)) := by
  rw [← take_succ_getD (d := rd0) hi, List.filter_append]
  generalize rd.getD i rd0 = r
  by_cases h : r.1 < n
  · simp [h]
  · simp [h]
theorem filter_len (rd : List Rd) (n : Int) (i : Nat) : ((rd.take i).filter (fun r => decide (r.1 < n))).length ≤ rd.length := by
  have h1 := List.length_filter_le (fun r : Rd => decide (r.1 < n)) (rd.take i)
  have h2 : (rd.take i).length ≤ rd.length := by simp; omega
  omega
theorem f_AdmitCut (c : Cf) (t : Tk) (s : Scr) (n : Int) (hR : Rows t) (hS : ScrOK s) : F_law28_AdmitCut c t s n = some true := by
  unfold F_law28_AdmitCut
  rw [f_anchor28, Option.bind_some]
  obtain ⟨b, e, hb⟩ := f_great28 t s hR hS
  rw [e, Option.bind_some]
  simp only [Bool.not_true, cond_false]
  cases b with
  | true => rfl
  | false =>
    obtain ⟨l1, l2⟩ := hb rfl
    simp only [cond_false]
    by_cases h0 : n < 0
    · rw [decide_eq_true h0]; rfl
    rw [decide_eq_false h0]
    simp only [cond_false]
    by_cases h1 : (s.2.2.2.2.2.1.length : Int) < n
    · rw [decide_eq_true h1]; rfl
    rw [decide_eq_false h1]
    simp only [Bool.not_false, cond_true, cond_false]
    rw [f_admitCheck c t s hR hS, Option.bind_some]
    by_cases ha : admitI c t s = 0
    · have e0 : (admitI c t s != 0) = false := by simp [ha]
      rw [e0]
      simp only [cond_false]
      have hA := admit_iff.1 ha
      clear ha e0 e
      obtain ⟨rt, st, v0, ⟨c0, c1⟩, ⟨p0, p1⟩, tk, rd⟩ := s
      obtain ⟨⟨i1, i2⟩, tl, rl, jl⟩ := hS
      obtain ⟨m, rfl⟩ : ∃ m : Nat, n = (m : Int) := ⟨n.toNat, by omega⟩
      simp only at l1 l2 h1 i1 i2 tl rl jl ⊢
      rw [show (([] : List Rd), (0 : Int)) = ((rd.take 0).filter (fun r => decide (r.1 < (m : Int))), ((0 : Nat) : Int)) from rfl]
      rw [loop_run (n := rd.length) (st := fun i => ((rd.take i).filter (fun r => decide (r.1 < (m : Int))), (i : Int))) (x := rd.filter fun r => decide (r.1 < (m : Int)))]
      · rw [Option.bind_some, chk_yes (by simp; omega)]
        have e1 : (tk.take (m : Int).toNat).drop (0 : Int).toNat = tk.take m := by rw [Int.toNat_natCast]; rfl
        rw [e1]
        have hA2 := admit_cut (n := m) (by omega) hA
        rw [f_admitCheck c t _ hR ⟨⟨i1, i2⟩, by simp only; simp; omega, by
          have := List.length_filter_le (fun r : Rd => decide (r.1 < (m : Int))) rd
          simp only
          omega, fun t ht b hb => jl t (List.mem_of_mem_take ht) b hb⟩, Option.bind_some, admit_iff.2 hA2]
        rfl
      · intro i hi
        simp only []
        rw [decide_eq_true (show (i : Int) < rd.length by omega), decide_eq_true (show (0 : Int) ≤ i by omega), Int.toNat_natCast, rd_def, wrap_ok (n := (i : Int) + 1) (by omega), ← filter_take_succ (n := (m : Int)) hi]
        have hl := filter_len rd (m : Int) i
        simp only [cond_true, Bool.and_self, chk_yes]
        cases decide ((rd.getD i rd0).1 < (m : Int)) with
        | false => rfl
        | true =>
          simp only [cond_true]
          rw [chk_yes (by simp only [List.length_cons, List.length_nil, decide_eq_true_eq]; omega)]
          rfl
      · simp
    · have e0 : (admitI c t s != 0) = true := by simp [ha]
      rw [e0]; rfl
theorem f_AdmitFaultless (c : Cf) (t : Tk) (s : Scr) (hR : Rows t) (hS : ScrOK s) : F_law28_AdmitFaultless c t s = some true := by
  unfold F_law28_AdmitFaultless
  rw [f_anchor28, Option.bind_some]
  obtain ⟨b, e, hb⟩ := f_great28 t s hR hS
  rw [e, Option.bind_some]
  simp only [Bool.not_true, cond_false]
  cases b with
  | true => rfl
  | false =>
    obtain ⟨l1, l2⟩ := hb rfl
    simp only [Bool.not_false, cond_true, cond_false]
    rw [f_admitCheck c t s hR hS, Option.bind_some]
    by_cases ha : admitI c t s = 0
    · have e0 : (admitI c t s != 0) = false := by simp [ha]
      rw [e0]
      simp only [cond_false]
      have hA := admit_iff.1 ha
      clear ha e0 e
      obtain ⟨rt, st, v0, ⟨c0, c1⟩, ⟨p0, p1⟩, tk, rd⟩ := s
      obtain ⟨⟨i1, i2⟩, tl, rl, jl⟩ := hS
      simp only at l1 l2 i1 i2 tl rl jl ⊢
      rw [show (([] : List Tick), (0 : Int)) = ((tk.take 0).map calmT, ((0 : Nat) : Int)) from rfl]
      rw [loop_run (n := tk.length) (st := fun i => ((tk.take i).map calmT, (i : Int))) (x := tk.map calmT)]
      · rw [Option.bind_some]
        have hA2 := admit_calm hA
        rw [f_admitCheck c t _ hR ⟨⟨i1, i2⟩, by simp only; simp; omega, by simp, fun t ht b hb => by
          obtain ⟨u, _, rfl⟩ := List.mem_map.1 ht
          simp [calmT] at hb⟩, Option.bind_some, admit_iff.2 hA2]
        rfl
      · intro i hi
        simp only []
        rw [decide_eq_true (show (i : Int) < tk.length by omega), decide_eq_true (show (0 : Int) ≤ i by omega), Int.toNat_natCast, tk_def, wrap_ok (n := (i : Int) + 1) (by omega), ← take_succ_getD (d := tk0) hi]
        simp only [cond_true, Bool.and_self, chk_yes]
        rw [chk_yes (by simp; omega), List.map_append]
        rfl
      · simp
    · have e0 : (admitI c t s != 0) = true := by simp [ha]
      rw [e0]; rfl
end Go.Proofs.Ytgogjcbfnnhaoaa
