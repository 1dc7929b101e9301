/- What the readings of the judge of scripts say: speeds, wheels, numbers, places, counts, sensors. -/
import Derived.Test.YtgogjcbfnnhaoaaGreatAdmitF
set_option linter.unusedSimpArgs false
set_option linter.unusedVariables false
namespace Go.Proofs.YtgogjcbfnnhaoaaGreat
open Go.RowKit
theorem bind_inv {S X Y : Type} {f : S → Option (S ⊕ X)} {k : X → Option Y} {P : Y → Prop} {s : S} (I : S → Prop) (μ : S → Nat) (Q : X → Prop) (hI : I s)
    (h : ∀ s, I s → (∃ x, f s = some (.inr x) ∧ Q x) ∨ (∃ s', f s = some (.inl s') ∧ I s' ∧ μ s' < μ s)) (hk : ∀ x, Q x → ∃ y, k x = some y ∧ P y) : ∃ y, Option.bind (loopO f s) k = some y ∧ P y := by
  obtain ⟨x, h1, h2⟩ := loopO_inv I μ Q h s hI
  rw [h1]
  exact hk x h2
theorem wrap_i64 (x : Int) : I64 (IntKind.i64.wrap x) := by
  rw [IntKind.wrap_i64]
  exact ⟨by omega, by omega⟩
/-- The speed ahead. -/
def prevI (v0 : Int) (tk : List Tick) (i : Nat) : Int := if i = 0 then v0 else (tk.getD (i - 1) tk0).1
def speedAt (ms ma v0 : Int) (tk : List Tick) (i : Nat) : Bool := withB (tk.getD i tk0).1 ms && withB ((tk.getD i tk0).1 - prevI v0 tk i) ma
def speedsB (ms ma v0 : Int) (tk : List Tick) : Bool := withB v0 ms && (List.range tk.length).all (speedAt ms ma v0 tk)
theorem f_speeds (cp lo hi rb rp ae ms ma an sl ss ro ti br : Int) (sg : List Sg) (gs : List Gp) (rt : List Int) (st v0 c0 c1 p0 p1 : Int) (tk : List Tick) (rd : List Rd) (pl k0 k1 : List Int) (hl : tk.length ≤ 4611686018427387903) (hms : 1 ≤ ms ∧ ms ≤ 16777216) (hma : 1 ≤ ma ∧ ma ≤ 1048576) : F_admit_judge_speeds cp lo hi rb rp ae ms ma an sl ss ro ti br sg gs rt st v0 c0 c1 p0 p1 tk rd pl k0 k1 = some (speedsB ms ma v0 tk, cp, lo, hi, rb, rp, ae, ms, ma, an, sl, ss, ro, ti, br, sg, gs, rt, st, v0, c0, c1, p0, p1, tk, rd, pl, k0, k1) := by
  unfold F_admit_judge_speeds speedsB
  rw [f_within28 _ _ (by omega), Option.bind_some]
  cases h0 : withB v0 ms with
  | false => rfl
  | true =>
    have h0 := with_iff.1 h0
    simp only [Bool.not_true, cond_false, Bool.true_and]
    rw [loop_find_st (X := Bool ⊕ Unit) tk.length (fun i => ((i : Int), prevI v0 tk i)) (fun i => bif speedAt ms ma v0 tk i then none else some (Sum.inl false)) (Sum.inr ()) (show (((0 : Nat) : Int), prevI v0 tk 0) = ((0 : Int), v0) from rfl)]
    · rw [all_find]
      cases (List.range tk.length).all (speedAt ms ma v0 tk) <;> rfl
    · intro i hi hprev
      have hp : -ms ≤ prevI v0 tk i ∧ prevI v0 tk i ≤ ms := by
        unfold prevI
        by_cases hi0 : i = 0
        · rw [if_pos hi0]; exact h0
        · rw [if_neg hi0]
          have := all_none (n := 0) hprev (i - 1) (by omega)
          unfold speedAt at this
          rw [Bool.and_eq_true] at this
          exact with_iff.1 this.1
      simp only []
      rw [decide_eq_true (show (i : Int) < tk.length by omega), decide_eq_true (show (0 : Int) ≤ i by omega), Int.toNat_natCast, tk_def, f_within28 _ _ (by omega), wrap_ok (n := (i : Int) + 1) (by omega)]
      simp only [cond_true, Bool.and_self, chk_yes, Option.bind_some]
      have hn : prevI v0 tk (i + 1) = (tk.getD i tk0).1 := by unfold prevI; rw [if_neg (by omega)]; rfl
      rw [hn]
      unfold speedAt
      cases hw : withB (tk.getD i tk0).1 ms with
      | false => rfl
      | true =>
        have hw := with_iff.1 hw
        rw [wrap_ok (n := (tk.getD i tk0).1 - prevI v0 tk i) (by omega)]
        simp only [Bool.not_true, Bool.not_false, cond_true, cond_false, Bool.true_and]
        rw [f_within28 _ _ (by omega), Option.bind_some]
        cases withB ((tk.getD i tk0).1 - prevI v0 tk i) ma <;> rfl
    · simp
def wheelB (lo hi c p : Int) : Bool := decide (lo ≤ c) && decide (c ≤ hi) && decide (0 ≤ p) && decide (p < c)
theorem f_wheels (cp lo hi rb rp ae ms ma an sl ss ro ti br : Int) (sg : List Sg) (gs : List Gp) (rt : List Int) (st v0 c0 c1 p0 p1 : Int) (tk : List Tick) (rd : List Rd) (pl k0 k1 : List Int) : F_admit_judge_wheels cp lo hi rb rp ae ms ma an sl ss ro ti br sg gs rt st v0 c0 c1 p0 p1 tk rd pl k0 k1 = some (wheelB lo hi c0 p0 && wheelB lo hi c1 p1, cp, lo, hi, rb, rp, ae, ms, ma, an, sl, ss, ro, ti, br, sg, gs, rt, st, v0, c0, c1, p0, p1, tk, rd, pl, k0, k1) := by
  unfold F_admit_judge_wheels F_conf_Config_Circ F_span_Span_Has wheelB
  simp only [Option.bind_some]
  rw [@not_lt_dec 0 p0, @not_le_dec p0 c0, @not_lt_dec 0 p1, @not_le_dec p1 c1]
  cases decide (lo ≤ c0) <;> cases decide (c0 ≤ hi) <;> cases decide (p0 < 0) <;> cases decide (c0 ≤ p0) <;> first | rfl | skip
  cases decide (lo ≤ c1) <;> cases decide (c1 ≤ hi) <;> cases decide (p1 < 0) <;> cases decide (c1 ≤ p1) <;> rfl
def numAt (ae : Int) (t : Tick) : Bool := withB t.2.1.1 1099511627776 && withB t.2.1.2 1099511627776 && withB t.2.2.1 1073741824 && withB t.2.2.2.1 ae
def numbersB (ae : Int) (tk : List Tick) : Bool := (List.range tk.length).all fun i => numAt ae (tk.getD i tk0)
theorem f_numbers (cp lo hi rb rp ae ms ma an sl ss ro ti br : Int) (sg : List Sg) (gs : List Gp) (rt : List Int) (st v0 c0 c1 p0 p1 : Int) (tk : List Tick) (rd : List Rd) (pl k0 k1 : List Int) (hl : tk.length ≤ 4611686018427387903) (hae : 0 ≤ ae ∧ ae ≤ 1048576) : F_admit_judge_numbers cp lo hi rb rp ae ms ma an sl ss ro ti br sg gs rt st v0 c0 c1 p0 p1 tk rd pl k0 k1 = some (numbersB ae tk, cp, lo, hi, rb, rp, ae, ms, ma, an, sl, ss, ro, ti, br, sg, gs, rt, st, v0, c0, c1, p0, p1, tk, rd, pl, k0, k1) := by
  unfold F_admit_judge_numbers numbersB
  rw [loop_find tk.length (fun i => bif numAt ae (tk.getD i tk0) then none else some (.inl false)) (.inr ())]
  · rw [all_find]
    cases ((List.range tk.length).all fun i => numAt ae (tk.getD i tk0)) <;> rfl
  · intro i hi
    rw [decide_eq_true (show (i : Int) < tk.length by omega), decide_eq_true (show (0 : Int) ≤ i by omega), Int.toNat_natCast, wrap_ok (n := (i : Int) + 1) (by omega)]
    simp only [cond_true, Bool.and_self, chk_yes, tk_def]
    generalize tk.getD i tk0 = t
    unfold numAt
    rw [f_within28 _ 1099511627776 (by omega), f_within28 _ 1099511627776 (by omega), f_within28 _ 1073741824 (by omega), f_within28 _ ae (by omega)]
    cases withB t.2.1.1 1099511627776 <;> cases withB t.2.1.2 1099511627776 <;> cases withB t.2.2.1 1073741824 <;> cases withB t.2.2.2.1 ae <;> rfl
  · simp
/-- The places at the end of each cycle. -/
def placesL (st : Int) (tk : List Tick) : List Int := (List.range tk.length).map fun i => posI st tk (i + 1)
theorem range_map_succ {α : Type} (f : Nat → α) (i : Nat) : (List.range i).map f ++ [f i] = (List.range (i + 1)).map f := by
  rw [List.range_succ, List.map_append]; rfl
theorem f_Places (s : Scr) (hl : s.2.2.2.2.2.1.length ≤ 4096) (hp : ∀ i, i ≤ s.2.2.2.2.2.1.length → -4611686018427387904 ≤ posI s.2.1 s.2.2.2.2.2.1 i ∧ posI s.2.1 s.2.2.2.2.2.1 i ≤ 4611686018427387903) : F_world_Script_Places s = some (placesL s.2.1 s.2.2.2.2.2.1) := by
  unfold F_world_Script_Places
  simp only []
  generalize s.2.2.2.2.2.1 = tk at *
  generalize s.2.1 = st at *
  rw [show (st, ([] : List Int), (0 : Int)) = (posI st tk 0, (List.range 0).map (fun i => posI st tk (i + 1)), ((0 : Nat) : Int)) from rfl]
  rw [loop_run (n := tk.length) (st := fun i => (posI st tk i, (List.range i).map (fun i => posI st tk (i + 1)), (i : Int))) (x := placesL st tk)]
  · rfl
  · intro i hi
    simp only []
    have h1 := hp (i + 1) (by omega)
    have e : posI st tk (i + 1) = posI st tk i + (tk.getD i tk0).1 := rfl
    rw [decide_eq_true (show (i : Int) < tk.length by omega), decide_eq_true (show (0 : Int) ≤ i by omega), Int.toNat_natCast, tk_def, wrap_ok (n := (i : Int) + 1) (by omega), ← range_map_succ (fun i => posI st tk (i + 1)) i]
    simp only [cond_true, Bool.and_self, chk_yes]
    rw [wrap_ok (n := posI st tk i + (tk.getD i tk0).1) (by omega), chk_yes (by simp; omega), e]
    rfl
  · simp [placesL]
/-- How far a wheel has turned. -/
def turnI (p ph : Int) (slip : Tick → Int) (tk : List Tick) : Nat → Int
  | 0 => ph
  | n + 1 => IntKind.i64.wrap (turnI p ph slip tk n + IntKind.i64.wrap (IntKind.i64.wrap (p * (tk.getD n tk0).1) + slip (tk.getD n tk0)))
noncomputable def floorV (x c : Int) : Int := ((F_ratio_Floor x 1 c).getD (0, 0)).1
noncomputable def countsL (p c ph : Int) (slip : Tick → Int) (tk : List Tick) : List Int := (List.range tk.length).map fun i => floorV (turnI p ph slip tk (i + 1)) c
theorem turn_i64 {p ph : Int} {slip : Tick → Int} {tk : List Tick} (n : Nat) : I64 (turnI p ph slip tk (n + 1)) := wrap_i64 _
theorem f_FloorV (x c : Int) (hx : I64 x) (hc : I64 c) : ∃ e, F_ratio_Floor x 1 c = some (floorV x c, e) := by
  have := f_Floor x 1 c hx ⟨by omega, by omega⟩ hc
  unfold floorV
  rw [this]
  exact ⟨_, rfl⟩
theorem f_Counts0 (s : Scr) (c : Cf) (hl : s.2.2.2.2.2.1.length ≤ 4096) (hc : I64 s.2.2.2.1.1) : F_world_Script_Counts s c 0 = some (countsL c.1 s.2.2.2.1.1 s.2.2.2.2.1.1 (fun t => t.2.1.1) s.2.2.2.2.2.1) := by
  unfold F_world_Script_Counts
  have e0 : ∀ (a b : Int), List.getD [a, b] (0 : Int).toNat (0 : Int) = a := fun _ _ => rfl
  simp only [e0]
  generalize s.2.2.2.2.2.1 = tk at *
  generalize s.2.2.2.2.1.1 = ph at *
  generalize s.2.2.2.1.1 = ci at *
  have g : (decide ((0 : Int) ≤ 0) && decide ((0 : Int) < 2)) = true := by decide
  rw [chk_yes g]
  rw [show (ph, (0 : Int), ([] : List Int)) = (turnI c.1 ph (fun t => t.2.1.1) tk 0, ((0 : Nat) : Int), (List.range 0).map (fun i => floorV (turnI c.1 ph (fun t => t.2.1.1) tk (i + 1)) ci)) from rfl]
  rw [loop_run (n := tk.length) (st := fun i => (turnI c.1 ph (fun t => t.2.1.1) tk i, (i : Int), (List.range i).map (fun i => floorV (turnI c.1 ph (fun t => t.2.1.1) tk (i + 1)) ci))) (x := countsL c.1 ci ph (fun t => t.2.1.1) tk)]
  · rfl
  · intro i hi
    simp only []
    rw [decide_eq_true (show (i : Int) < tk.length by omega), decide_eq_true (show (0 : Int) ≤ i by omega), Int.toNat_natCast, tk_def, wrap_ok (n := (i : Int) + 1) (by omega), ← range_map_succ (fun i => floorV (turnI c.1 ph (fun t => t.2.1.1) tk (i + 1)) ci) i]
    simp only [cond_true, Bool.and_self, chk_yes, g]
    have e : turnI c.1 ph (fun t => t.2.1.1) tk (i + 1) = IntKind.i64.wrap (turnI c.1 ph (fun t => t.2.1.1) tk i + IntKind.i64.wrap (IntKind.i64.wrap (c.1 * (tk.getD i tk0).1) + (tk.getD i tk0).2.1.1)) := rfl
    obtain ⟨err, he⟩ := f_FloorV _ ci (turn_i64 (p := c.1) (ph := ph) (slip := fun t => t.2.1.1) (tk := tk) i) hc
    rw [← e, he, Option.bind_some, chk_yes (by simp; omega)]
    rfl
  · simp [countsL]
theorem f_Counts1 (s : Scr) (c : Cf) (hl : s.2.2.2.2.2.1.length ≤ 4096) (hc : I64 s.2.2.2.1.2) : F_world_Script_Counts s c 1 = some (countsL c.1 s.2.2.2.1.2 s.2.2.2.2.1.2 (fun t => t.2.1.2) s.2.2.2.2.2.1) := by
  unfold F_world_Script_Counts
  have e0 : ∀ (a b : Int), List.getD [a, b] (1 : Int).toNat (0 : Int) = b := fun _ _ => rfl
  simp only [e0]
  generalize s.2.2.2.2.2.1 = tk at *
  generalize s.2.2.2.2.1.2 = ph at *
  generalize s.2.2.2.1.2 = ci at *
  have g : (decide ((0 : Int) ≤ 1) && decide ((1 : Int) < 2)) = true := by decide
  rw [chk_yes g]
  rw [show (ph, (0 : Int), ([] : List Int)) = (turnI c.1 ph (fun t => t.2.1.2) tk 0, ((0 : Nat) : Int), (List.range 0).map (fun i => floorV (turnI c.1 ph (fun t => t.2.1.2) tk (i + 1)) ci)) from rfl]
  rw [loop_run (n := tk.length) (st := fun i => (turnI c.1 ph (fun t => t.2.1.2) tk i, (i : Int), (List.range i).map (fun i => floorV (turnI c.1 ph (fun t => t.2.1.2) tk (i + 1)) ci))) (x := countsL c.1 ci ph (fun t => t.2.1.2) tk)]
  · rfl
  · intro i hi
    simp only []
    rw [decide_eq_true (show (i : Int) < tk.length by omega), decide_eq_true (show (0 : Int) ≤ i by omega), Int.toNat_natCast, tk_def, wrap_ok (n := (i : Int) + 1) (by omega), ← range_map_succ (fun i => floorV (turnI c.1 ph (fun t => t.2.1.2) tk (i + 1)) ci) i]
    simp only [cond_true, Bool.and_self, chk_yes, g]
    have e : turnI c.1 ph (fun t => t.2.1.2) tk (i + 1) = IntKind.i64.wrap (turnI c.1 ph (fun t => t.2.1.2) tk i + IntKind.i64.wrap (IntKind.i64.wrap (c.1 * (tk.getD i tk0).1) + (tk.getD i tk0).2.1.2)) := rfl
    obtain ⟨err, he⟩ := f_FloorV _ ci (turn_i64 (p := c.1) (ph := ph) (slip := fun t => t.2.1.2) (tk := tk) i) hc
    rw [← e, he, Option.bind_some, chk_yes (by simp; omega)]
    rfl
  · simp [countsL]
end Go.Proofs.YtgogjcbfnnhaoaaGreat
