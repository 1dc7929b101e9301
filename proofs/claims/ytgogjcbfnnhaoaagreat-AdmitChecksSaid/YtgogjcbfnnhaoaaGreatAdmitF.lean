/- What the readings of the judge of scripts say: the route, the way, speeds, wheels, numbers. -/
import Derived.Test.YtgogjcbfnnhaoaaGreatSearchF
import Derived.Test.YtgogjcbfnnhaoaaGreatRefTrackF
import Derived.Test.YtgogjcbfnnhaoaaGreatSpanF
set_option linter.unusedSimpArgs false
set_option linter.unusedVariables false
namespace Go.Proofs.YtgogjcbfnnhaoaaGreat
open Go.RowKit
abbrev Tick := Int × ((Int × Int) × (Int × (Int × ((Bool × (Bool × (Bool × Bool))) × (List (List Int) × Bool)))))
abbrev Rd := Int × (Int × (Int × Int))
abbrev Scr := List Int × (Int × (Int × ((Int × Int) × ((Int × Int) × (List Tick × List Rd)))))
def tk0 : Tick := (0, (0, 0), 0, 0, (false, false, false, false), [], false)
def rd0 : Rd := (0, 0, 0, 0)
theorem tk_def (l : List Tick) : ∀ i, l.getD i ((0 : Int), (((0 : Int), (0 : Int)), ((0 : Int), ((0 : Int), ((false, (false, (false, false))), ([], false)))))) = l.getD i tk0 := fun _ => rfl
theorem rd_def (l : List Rd) : ∀ i, l.getD i ((0 : Int), ((0 : Int), ((0 : Int), (0 : Int)))) = l.getD i rd0 := fun _ => rfl
theorem sg_def (l : List Sg) : ∀ i, l.getD i ((0 : Int), ([], [])) = l.getD i sg0 := fun _ => rfl
theorem gp_def (l : List Gp) : ∀ i, l.getD i ((0 : Int), ((0 : Int), ((0 : Int), ((0 : Int), (0 : Int))))) = l.getD i gp0 := fun _ => rfl
def withB (x far : Int) : Bool := decide (-far ≤ x) && decide (x ≤ far)
theorem with_iff {x far : Int} : withB x far = true ↔ -far ≤ x ∧ x ≤ far := by
  unfold withB
  rw [Bool.and_eq_true, decide_eq_true_eq, decide_eq_true_eq]
theorem f_within28 (x far : Int) (h : -4611686018427387904 ≤ far ∧ far ≤ 4611686018427387904) : F_admit_within x far = some (withB x far) := by
  unfold F_admit_within withB
  rw [wrap_ok (n := 0 - far) (by omega), Int.zero_sub]
  simp only []
  cases decide (-far ≤ x) <;> rfl
def anyB (n : Nat) (b : Nat → Bool) : Bool := (List.range n).any b
theorem any_find {X : Type} (n : Nat) (b : Nat → Bool) (x : Nat → X) : ((List.range n).findSome? fun i => bif b i then some (x i) else none) = none ∧ anyB n b = false ∨ ∃ i, ((List.range n).findSome? fun i => bif b i then some (x i) else none) = some (x i) ∧ anyB n b = true := by
  unfold anyB
  generalize List.range n = l
  induction l with
  | nil => exact .inl ⟨rfl, rfl⟩
  | cons a l ih =>
    rw [List.findSome?_cons, List.any_cons]
    cases h : b a with
    | true => exact .inr ⟨a, rfl, rfl⟩
    | false => simpa using ih
theorem f_Contains (l : List Int) (v : Int) (h : l.length ≤ 4611686018427387903) : F_slices_Contains_int_int l v = some (anyB l.length fun i => l.getD i 0 == v) := by
  unfold F_slices_Contains_int_int F_slices_Index_int_int
  rw [loop_find l.length (fun i => bif l.getD i 0 == v then some (.inl (i : Int)) else none) (.inr ())]
  · rcases any_find l.length (fun i => l.getD i 0 == v) (fun i => (Sum.inl (i : Int) : Int ⊕ Unit)) with ⟨e1, e2⟩ | ⟨i, e1, e2⟩
    · rw [e1, e2]; rfl
    · rw [e1, e2]
      simp
  · intro i hi
    rw [decide_eq_true (show (i : Int) < l.length by omega), decide_eq_true (show (0 : Int) ≤ i by omega), Int.toNat_natCast, wrap_ok (n := (i : Int) + 1) (by omega)]
    simp only [cond_true, Bool.and_self, chk_yes]
    have : (v == l.getD i 0) = (l.getD i 0 == v) := by rw [Bool.eq_iff_iff]; simp only [beq_iff_eq]; exact eq_comm
    rw [this]
    cases (l.getD i 0 == v) <;> rfl
  · simp
/-- Does a segment come behind another one? -/
def followsB (t : Tk) (a b : Int) : Bool := decide (0 ≤ a) && decide (a < t.1.length) && anyB (t.1.getD a.toNat sg0).2.2.length fun i => (t.1.getD a.toNat sg0).2.2.getD i 0 == b
theorem getD_mem {α : Type} {l : List α} {i : Nat} {d : α} (h : i < l.length) : l.getD i d ∈ l := by rw [getD_lt h]; exact List.getElem_mem h
theorem f_Follows (t : Tk) (a b : Int) (hN : ∀ s ∈ t.1, s.2.2.length ≤ 4611686018427387903) : F_track_Track_Follows t a b = some (followsB t a b) := by
  unfold F_track_Track_Follows followsB
  simp only []
  by_cases h0 : 0 ≤ a
  · by_cases h1 : a < t.1.length
    · obtain ⟨k, rfl⟩ : ∃ k : Nat, a = (k : Int) := ⟨a.toNat, by omega⟩
      rw [decide_eq_true h0, decide_eq_true h1, Int.toNat_natCast, sg_def]
      simp only [cond_true, Bool.and_self, Bool.true_or, chk_yes]
      have hm := hN _ (getD_mem (d := sg0) (show k < t.1.length by omega))
      rw [f_Contains _ _ hm, Option.bind_some]
      rfl
    · rw [decide_eq_false h1]
      simp [chk]
  · rw [decide_eq_false h0]
    simp [chk]
/-- Do the segments come one behind the other? -/
def stepB (t : Tk) (l : List Int) (i : Nat) : Bool := decide (0 ≤ l.getD i 0) && decide (l.getD i 0 < t.1.length) && (decide (i = 0) || followsB t (l.getD (i - 1) 0) (l.getD i 0))
def routeB (t : Tk) (l : List Int) : Bool := decide (1 ≤ l.length) && decide (l.length ≤ 400) && (List.range l.length).all (stepB t l)
theorem f_route (cp lo hi rb rp ae ms ma an sl ss ro ti br : Int) (sg : List Sg) (gs : List Gp) (rt : List Int) (st v0 c0 c1 p0 p1 : Int) (tk : List Tick) (rd : List Rd) (pl k0 k1 : List Int) (hN : ∀ s ∈ sg, s.2.2.length ≤ 4611686018427387903) : F_admit_judge_route cp lo hi rb rp ae ms ma an sl ss ro ti br sg gs rt st v0 c0 c1 p0 p1 tk rd pl k0 k1 = some (routeB (sg, gs) rt, cp, lo, hi, rb, rp, ae, ms, ma, an, sl, ss, ro, ti, br, sg, gs, rt, st, v0, c0, c1, p0, p1, tk, rd, pl, k0, k1) := by
  unfold F_admit_judge_route routeB
  simp only []
  by_cases h0 : rt.length = 0
  · have e0 : ((rt.length : Int) == 0) = true := by simp [h0]
    rw [e0, decide_eq_false (show ¬ 1 ≤ rt.length by omega)]
    rfl
  have e0 : ((rt.length : Int) == 0) = false := beq_false_of_ne (by omega)
  rw [e0, decide_eq_true (show 1 ≤ rt.length by omega)]
  by_cases h1 : 400 < rt.length
  · rw [decide_eq_true (show (400 : Int) < rt.length by omega), decide_eq_false (show ¬ rt.length ≤ 400 by omega)]
    rfl
  rw [decide_eq_false (show ¬ (400 : Int) < rt.length by omega), decide_eq_true (show rt.length ≤ 400 by omega)]
  simp only [cond_false, Bool.true_and]
  rw [loop_find rt.length (fun i => bif stepB (sg, gs) rt i then none else some (.inl false)) (.inr ())]
  · rw [all_find]
    cases (List.range rt.length).all (stepB (sg, gs) rt) <;> rfl
  · intro i hi
    have ew : IntKind.i64.wrap ((i : Int) - 1) = i - 1 := wrap_ok (by omega)
    have ew2 : IntKind.i64.wrap ((i : Int) + 1) = i + 1 := wrap_ok (by omega)
    rw [decide_eq_true (show (i : Int) < rt.length by omega), decide_eq_true (show (0 : Int) ≤ i by omega), ew, ew2, Int.toNat_natCast]
    simp only [cond_true, Bool.and_self, chk_yes]
    have fin : ∀ b c : Bool, b = !c → (bif b then some (Sum.inr (Sum.inl false)) else some (Sum.inl ((i : Int) + 1))) = some (stepOut ((i : Int) + 1) (bif c then none else some (Sum.inl false) : Option (Bool ⊕ Unit))) := by
      rintro b c rfl; cases c <;> rfl
    by_cases hi0 : i = 0
    · have e1 : decide ((0 : Int) < (i : Int)) = false := by simp [hi0]
      rw [e1]
      simp only [Bool.false_and, Bool.not_false, Bool.or_true, chk_yes, cond_false, Option.bind_some]
      refine fin _ _ ?_
      unfold stepB
      rw [decide_eq_true hi0, @not_lt_dec 0 (rt.getD i 0), @not_le_dec (rt.getD i 0) ((sg, gs) : Tk).1.length]
      cases decide (rt.getD i 0 < 0) <;> cases decide ((sg.length : Int) ≤ rt.getD i 0) <;> rfl
    · have e1 : decide ((0 : Int) < (i : Int)) = true := by simp; omega
      have et : ((i : Int) - 1).toNat = i - 1 := by omega
      rw [e1, et, chk_yes (by rw [decide_eq_true (show (0 : Int) ≤ (i : Int) - 1 by omega), decide_eq_true (show (i : Int) - 1 < rt.length by omega)]; rfl), f_Follows _ _ _ hN]
      unfold stepB
      rw [decide_eq_false hi0, @not_lt_dec 0 (rt.getD i 0), @not_le_dec (rt.getD i 0) ((sg, gs) : Tk).1.length]
      cases decide (rt.getD i 0 < 0) <;> cases decide ((sg.length : Int) ≤ rt.getD i 0) <;> cases followsB (sg, gs) (rt.getD (i - 1) 0) (rt.getD i 0) <;> rfl
  · simp
theorem route_in {t : Tk} {l : List Int} (h : routeB t l = true) : 1 ≤ l.length ∧ l.length ≤ 400 ∧ ∀ i, i < l.length → 0 ≤ l.getD i 0 ∧ l.getD i 0 < t.1.length := by
  unfold routeB at h
  simp only [Bool.and_eq_true, decide_eq_true_eq, List.all_eq_true, List.mem_range] at h
  refine ⟨h.1.1, h.1.2, fun i hi => ?_⟩
  have := h.2 i hi
  unfold stepB at this
  simp only [Bool.and_eq_true, decide_eq_true_eq] at this
  exact this.1
/-- Where a segment of a route begins. -/
def startI (t : Tk) (l : List Int) : Nat → Int
  | 0 => 0
  | n + 1 => startI t l n + (t.1.getD (l.getD n 0).toNat sg0).1
/-- All segments' lengths may be. -/
def LensOK (t : Tk) : Prop := ∀ i, i < t.1.length → 1 ≤ (t.1.getD i sg0).1 ∧ (t.1.getD i sg0).1 ≤ 1099511627776
theorem start_bound {t : Tk} {l : List Int} (hL : LensOK t) (hr : ∀ i, i < l.length → 0 ≤ l.getD i 0 ∧ l.getD i 0 < t.1.length) : ∀ n, n ≤ l.length → 0 ≤ startI t l n ∧ startI t l n ≤ n * 1099511627776 := by
  intro n
  induction n with
  | zero => intro _; simp [startI]
  | succ n ih =>
    intro hn
    have h1 := ih (by omega)
    have h2 := hr n (by omega)
    have h3 := hL (l.getD n 0).toNat (by omega)
    simp only [startI]
    rw [Int.natCast_add]
    omega
theorem f_Start (t : Tk) (l : List Int) (n : Nat) (hn : n ≤ l.length) (hl : l.length ≤ 400) (hL : LensOK t) (hr : ∀ i, i < l.length → 0 ≤ l.getD i 0 ∧ l.getD i 0 < t.1.length) : F_world_Start t l (n : Int) = some (startI t l n) := by
  unfold F_world_Start
  rw [chk_yes (by simp; omega)]
  have hlen : ((l.take (n : Int).toNat).drop (0 : Int).toNat).length = n := by simp; omega
  have hget : ∀ i, i < n → ((l.take (n : Int).toNat).drop (0 : Int).toNat).getD i 0 = l.getD i 0 := by
    intro i hi
    rw [getD_lt (by omega), getD_lt (by omega)]
    simp
  generalize (l.take (n : Int).toNat).drop (0 : Int).toNat = m at hlen hget ⊢
  simp only []
  rw [hlen, show ((0 : Int), (0 : Int)) = (startI t l 0, ((0 : Nat) : Int)) from rfl]
  rw [loop_run (n := n) (st := fun i => (startI t l i, (i : Int))) (x := startI t l n)]
  · rfl
  · intro i hi
    simp only []
    obtain ⟨r1, r2⟩ := hr i (by omega)
    have hb := start_bound hL hr i (by omega)
    have hb2 := hL (l.getD i 0).toNat (by omega)
    rw [decide_eq_true (show (i : Int) < n by omega), decide_eq_true (show (0 : Int) ≤ i by omega), Int.toNat_natCast, hget i hi, decide_eq_true r1, decide_eq_true r2, sg_def, wrap_ok (n := (i : Int) + 1) (by omega), wrap_ok (n := startI t l i + (t.1.getD (l.getD i 0).toNat sg0).1) (by omega)]
    rfl
  · simp
/-- Where the train is behind so many cycles. -/
def posI (st : Int) (tk : List Tick) : Nat → Int
  | 0 => st
  | n + 1 => posI st tk n + (tk.getD n tk0).1
def onAt (L st : Int) (tk : List Tick) (i : Nat) : Bool := withB (tk.getD i tk0).1 L && (decide (0 ≤ posI st tk (i + 1)) && decide (posI st tk (i + 1) ≤ L))
/-- Does the train stay on its route? -/
def onB (L st : Int) (tk : List Tick) : Bool := decide (tk.length ≤ 4096) && decide (0 ≤ st) && decide (st ≤ L) && (List.range tk.length).all (onAt L st tk)
theorem all_none {n : Nat} {b : Nat → Bool} {X : Type} {x : X} {i : Nat} (h : ∀ j, j < i → (bif b j then none else some x) = (none : Option X)) : ∀ j, j < i → b j = true := by
  intro j hj
  have := h j hj
  cases hb : b j with
  | true => rfl
  | false => rw [hb] at this; cases this
theorem f_on (cp lo hi rb rp ae ms ma an sl ss ro ti br : Int) (sg : List Sg) (gs : List Gp) (rt : List Int) (st v0 c0 c1 p0 p1 : Int) (tk : List Tick) (rd : List Rd) (pl k0 k1 : List Int) (hl : tk.length ≤ 4611686018427387903) (hrl : rt.length ≤ 400) (hL : LensOK (sg, gs)) (hr : ∀ i, i < rt.length → 0 ≤ rt.getD i 0 ∧ rt.getD i 0 < sg.length) :
    F_admit_judge_on cp lo hi rb rp ae ms ma an sl ss ro ti br sg gs rt st v0 c0 c1 p0 p1 tk rd pl k0 k1 = some (onB (startI (sg, gs) rt rt.length) st tk, cp, lo, hi, rb, rp, ae, ms, ma, an, sl, ss, ro, ti, br, sg, gs, rt, st, v0, c0, c1, p0, p1, tk, rd, pl, k0, k1) := by
  unfold F_admit_judge_on onB
  rw [f_Start (sg, gs) rt rt.length (Nat.le_refl _) hrl hL hr, Option.bind_some]
  obtain ⟨b1, b2⟩ := start_bound (t := (sg, gs)) hL hr rt.length (Nat.le_refl _)
  have b3 : startI (sg, gs) rt rt.length ≤ 439804651110400 := by
    have : (rt.length : Int) * 1099511627776 ≤ 400 * 1099511627776 := by omega
    omega
  generalize startI (sg, gs) rt rt.length = L at *
  simp only []
  by_cases h1 : 4096 < tk.length
  · rw [decide_eq_true (show (4096 : Int) < tk.length by omega), decide_eq_false (show ¬ tk.length ≤ 4096 by omega)]
    rfl
  rw [decide_eq_false (show ¬ (4096 : Int) < tk.length by omega), decide_eq_true (show tk.length ≤ 4096 by omega)]
  by_cases h2 : 0 ≤ st
  · by_cases h3 : st ≤ L
    · rw [decide_eq_true h2, decide_eq_true h3, decide_eq_false (show ¬ st < 0 by omega), decide_eq_false (show ¬ L < st by omega)]
      simp only [cond_false, Bool.true_and]
      rw [loop_find_st (X := Bool ⊕ Unit) tk.length (fun i => (posI st tk i, (i : Int))) (fun i => bif onAt L st tk i then none else some (Sum.inl false)) (Sum.inr ()) (show (posI st tk 0, ((0 : Nat) : Int)) = (st, (0 : Int)) from rfl)]
      · rw [all_find]
        cases (List.range tk.length).all (onAt L st tk) <;> rfl
      · intro i hi hprev
        have hpos : 0 ≤ posI st tk i ∧ posI st tk i ≤ L := by
          cases i with
          | zero => exact ⟨h2, h3⟩
          | succ i =>
            have := all_none (n := 0) hprev i (by omega)
            unfold onAt at this
            simp only [Bool.and_eq_true, decide_eq_true_eq] at this
            exact this.2
        simp only []
        rw [decide_eq_true (show (i : Int) < tk.length by omega), decide_eq_true (show (0 : Int) ≤ i by omega), Int.toNat_natCast, tk_def, f_within28 _ _ (by omega), wrap_ok (n := (i : Int) + 1) (by omega)]
        simp only [cond_true, Bool.and_self, chk_yes, Option.bind_some]
        unfold onAt
        cases hw : withB (tk.getD i tk0).1 L with
        | false => rfl
        | true =>
          have hw := with_iff.1 hw
          rw [wrap_ok (n := posI st tk i + (tk.getD i tk0).1) (by omega)]
          have e : posI st tk (i + 1) = posI st tk i + (tk.getD i tk0).1 := rfl
          rw [e, @not_lt_dec 0 (posI st tk i + (tk.getD i tk0).1), @not_lt_dec (posI st tk i + (tk.getD i tk0).1) L]
          cases decide (posI st tk i + (tk.getD i tk0).1 < 0) <;> cases decide (L < posI st tk i + (tk.getD i tk0).1) <;> rfl
      · simp
    · rw [decide_eq_true h2, decide_eq_false h3, decide_eq_false (show ¬ st < 0 by omega), decide_eq_true (show L < st by omega)]
      rfl
  · rw [decide_eq_false h2, decide_eq_true (show st < 0 by omega)]
    rfl
end Go.Proofs.YtgogjcbfnnhaoaaGreat
