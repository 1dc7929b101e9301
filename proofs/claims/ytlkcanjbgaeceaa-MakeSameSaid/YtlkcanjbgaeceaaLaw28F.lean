/- AdmitCut, AdmitFaultless: what their readings say is true. -/
import Derived.Test.YtlkcanjbgaeceaaAdmitK
set_option linter.unusedSimpArgs false
set_option linter.unusedVariables false
namespace Go.Proofs.Ytlkcanjbgaeceaa
open Go.RowKit
/-- All that is asked of a script. -/
structure Admits (c : Cf) (t : Tk) (s : Scr) : Prop where
  fits : (fitsR c t).1 = 0
  route : routeB t s.1 = true
  on : onB (startI t s.1 s.1.length) s.2.1 s.2.2.2.2.2.1 = true
  speeds : speedsB c.2.2.2.2.2.2.1 c.2.2.2.2.2.2.2.1 s.2.2.1 s.2.2.2.2.2.1 = true
  wheels : (wheelB c.2.1 c.2.2.1 s.2.2.2.1.1 s.2.2.2.2.1.1 && wheelB c.2.1 c.2.2.1 s.2.2.2.1.2 s.2.2.2.2.1.2) = true
  numbers : numbersB c.2.2.2.2.2.1 s.2.2.2.2.2.1 = true
  sens : ∀ k, k < s.2.2.2.2.2.1.length → sensK c s.2.2.2.2.2.1 (countsL c.1 s.2.2.2.1.1 s.2.2.2.2.1.1 (fun t => t.2.1.1) s.2.2.2.2.2.1) (countsL c.1 s.2.2.2.1.2 s.2.2.2.2.1.2 (fun t => t.2.1.2) s.2.2.2.2.2.1) k = true
  reads : ∀ k, k < s.2.2.2.2.2.2.length → readK t s.1 c.2.2.2.2.2.2.2.2.1 s.2.1 (placesL s.2.1 s.2.2.2.2.2.1) s.2.2.2.2.2.1.length s.2.2.2.2.2.2 k = true
  junk : ∀ k, k < s.2.2.2.2.2.1.length → junkAt (k : Int) (s.2.2.2.2.2.1.getD k tk0) = true
theorem rule_of {b : Bool} {k x : Int} (hk : k ≠ 0) (h : (bif !b then k else x) = 0) : b = true ∧ x = 0 := by
  cases b with
  | true => exact ⟨rfl, h⟩
  | false => exact absurd h hk
theorem admit_iff {c : Cf} {t : Tk} {s : Scr} : admitI c t s = 0 ↔ Admits c t s := by
  unfold admitI
  constructor
  · intro h
    obtain ⟨h1, h⟩ := rule_of (k := 1) (b := !((fitsR c t).1 != 0)) (by decide) (by rw [Bool.not_not]; exact h)
    obtain ⟨h2, h⟩ := rule_of (k := 2) (by decide) h
    obtain ⟨h3, h⟩ := rule_of (k := 3) (by decide) h
    obtain ⟨h4, h⟩ := rule_of (k := 4) (by decide) h
    obtain ⟨h5, h⟩ := rule_of (k := 5) (by decide) h
    obtain ⟨h6, h⟩ := rule_of (k := 6) (by decide) h
    obtain ⟨h7, h⟩ := rule_of (k := 7) (by decide) h
    obtain ⟨h8, h⟩ := rule_of (k := 8) (by decide) h
    obtain ⟨h9, h⟩ := rule_of (k := 9) (by decide) h
    refine ⟨by simpa using h1, h2, h3, h4, h5, h6, fun k hk => List.all_eq_true.1 h7 k (List.mem_range.2 hk), fun k hk => List.all_eq_true.1 h8 k (List.mem_range.2 hk), fun k hk => ?_⟩
    unfold junkB at h9
    exact List.all_eq_true.1 h9 k (List.mem_range.2 hk)
  · rintro ⟨h1, h2, h3, h4, h5, h6, h7, h8, h9⟩
    have e : ((fitsR c t).1 != 0) = false := by simp [h1]
    have e7 : (List.range s.2.2.2.2.2.1.length).all (sensK c s.2.2.2.2.2.1 (countsL c.1 s.2.2.2.1.1 s.2.2.2.2.1.1 (fun t => t.2.1.1) s.2.2.2.2.2.1) (countsL c.1 s.2.2.2.1.2 s.2.2.2.2.1.2 (fun t => t.2.1.2) s.2.2.2.2.2.1)) = true := List.all_eq_true.2 fun k hk => h7 k (List.mem_range.1 hk)
    have e8 : (List.range s.2.2.2.2.2.2.length).all (readK t s.1 c.2.2.2.2.2.2.2.2.1 s.2.1 (placesL s.2.1 s.2.2.2.2.2.1) s.2.2.2.2.2.1.length s.2.2.2.2.2.2) = true := List.all_eq_true.2 fun k hk => h8 k (List.mem_range.1 hk)
    have e9 : junkB s.2.2.2.2.2.1 = true := List.all_eq_true.2 fun k hk => h9 k (List.mem_range.1 hk)
    rw [e, h2, h3, h4, h5, h6, e7, e8, e9]
    rfl
theorem map_getD {α : Type} {f : Nat → α} {n i : Nat} {d : α} (h : i < n) : ((List.range n).map f).getD i d = f i := by
  rw [getD_lt (by simpa using h)]
  simp
/-- Ticks that are the same so far as is looked. -/
theorem pos_same {st : Int} {a b : List Tick} {n : Nat} (h : ∀ i, i < n → (a.getD i tk0).1 = (b.getD i tk0).1) : ∀ i, i ≤ n → posI st a i = posI st b i := by
  intro i
  induction i with
  | zero => intro _; rfl
  | succ i ih => intro hi; simp only [posI]; rw [ih (by omega), h i (by omega)]
theorem turn_same {p ph : Int} {slip : Tick → Int} {a b : List Tick} {n : Nat} (h : ∀ i, i < n → a.getD i tk0 = b.getD i tk0) : ∀ i, i ≤ n → turnI p ph slip a i = turnI p ph slip b i := by
  intro i
  induction i with
  | zero => intro _; rfl
  | succ i ih => intro hi; simp only [turnI]; rw [ih (by omega), h i (by omega)]
theorem take_get' {α : Type} {l : List α} {n i : Nat} {d : α} (hn : n ≤ l.length) (hi : i < n) : (l.take n).getD i d = l.getD i d := by
  rw [getD_lt (by simp; omega), getD_lt (by omega)]
  simp
theorem read_order {t : Tk} {rt : List Int} {an st n : Int} {pl : List Int} {rd : List Rd} (h : ∀ k, k < rd.length → readK t rt an st pl n rd k = true) :
    (∀ i, i < rd.length → -1 ≤ prevC rd i ∧ prevC rd i < (rd.getD i rd0).1 ∧ (rd.getD i rd0).1 < n) ∧ ∀ i j, i < j → j < rd.length → (rd.getD i rd0).1 < (rd.getD j rd0).1 := by
  have h1 : ∀ i, i < rd.length → prevC rd i < (rd.getD i rd0).1 ∧ (rd.getD i rd0).1 < n := fun i hi => by
    have := h i hi
    unfold readK at this
    exact read_gt this
  have h2 : ∀ i, i < rd.length → -1 ≤ prevC rd i := by
    intro i
    induction i with
    | zero => intro _; unfold prevC; rw [if_pos rfl]; omega
    | succ i ih =>
      intro hi
      have a := ih (by omega)
      have b := (h1 i (by omega)).1
      unfold prevC
      rw [if_neg (by omega), Nat.add_sub_cancel]
      omega
  refine ⟨fun i hi => ⟨h2 i hi, h1 i hi⟩, fun i j hij hj => ?_⟩
  induction j with
  | zero => omega
  | succ j ih =>
    have a := (h1 (j + 1) hj).1
    unfold prevC at a
    rw [if_neg (by omega), Nat.add_sub_cancel] at a
    by_cases hi : i = j
    · subst hi; exact a
    · have := ih (by omega) (by omega); omega
theorem pairwise_getD {α : Type} {l : List α} {d : α} {R : α → α → Prop} (h : ∀ i j, i < j → j < l.length → R (l.getD i d) (l.getD j d)) : l.Pairwise R := by
  rw [List.pairwise_iff_getElem]
  intro i j hi hj hij
  have := h i j hij hj
  rwa [getD_lt hi, getD_lt hj] at this
theorem filter_take {n : Int} : ∀ (l : List Rd), l.Pairwise (fun a b => a.1 < b.1) → ∃ m, m ≤ l.length ∧ l.filter (fun r => decide (r.1 < n)) = l.take m
  | [], _ => ⟨0, by simp, rfl⟩
  | a :: l, h => by
    rw [List.pairwise_cons] at h
    by_cases ha : a.1 < n
    · obtain ⟨m, hm, e⟩ := filter_take l h.2
      refine ⟨m + 1, by simp; omega, ?_⟩
      rw [List.filter_cons, decide_eq_true ha, if_pos rfl, e]
      rfl
    · refine ⟨0, by simp, ?_⟩
      rw [List.take_zero, List.filter_eq_nil_iff]
      intro b hb
      rcases List.mem_cons.1 hb with rfl | hb
      · simpa using ha
      · have := h.1 b hb
        simp
        omega
theorem admit_cut {c : Cf} {t : Tk} {rt : List Int} {st v0 c0 c1 p0 p1 : Int} {tk : List Tick} {rd : List Rd} {n : Nat} (hn : n ≤ tk.length) (h : Admits c t (rt, st, v0, (c0, c1), (p0, p1), tk, rd)) :
    Admits c t (rt, st, v0, (c0, c1), (p0, p1), tk.take n, rd.filter fun r => decide (r.1 < (n : Int))) := by
  obtain ⟨h1, h2, h3, h4, h5, h6, h7, h8, h9⟩ := h
  simp only at h2 h3 h4 h5 h6 h7 h8 h9
  have hlen : (tk.take n).length = n := by simp; omega
  have hg : ∀ i, i < n → (tk.take n).getD i tk0 = tk.getD i tk0 := fun i hi => take_get' hn hi
  have hpos : ∀ i, i ≤ n → posI st (tk.take n) i = posI st tk i := pos_same fun i hi => by rw [hg i hi]
  refine ⟨h1, h2, ?_, ?_, h5, ?_, ?_, ?_, ?_⟩
  · obtain ⟨o1, o2, o3, o4, o5⟩ := on_facts h3
    simp only
    unfold onB
    simp only [Bool.and_eq_true, decide_eq_true_eq, List.all_eq_true, List.mem_range]
    refine ⟨⟨⟨by omega, o2⟩, o3⟩, fun i hi => ?_⟩
    rw [hlen] at hi
    unfold onAt
    rw [hg i hi, hpos (i + 1) (by omega), Bool.and_eq_true, Bool.and_eq_true, decide_eq_true_eq, decide_eq_true_eq]
    exact ⟨with_iff.2 (o5 i (by omega)), o4 (i + 1) (by omega)⟩
  · simp only
    unfold speedsB at h4 ⊢
    rw [Bool.and_eq_true] at h4 ⊢
    refine ⟨h4.1, List.all_eq_true.2 fun i hi => ?_⟩
    rw [List.mem_range, hlen] at hi
    have := List.all_eq_true.1 h4.2 i (List.mem_range.2 (by omega))
    unfold speedAt prevI at this ⊢
    rw [hg i hi]
    by_cases hi0 : i = 0
    · rw [if_pos hi0] at this ⊢; exact this
    · rw [if_neg hi0] at this ⊢; rw [hg (i - 1) (by omega)]; exact this
  · simp only
    unfold numbersB at h6 ⊢
    refine List.all_eq_true.2 fun i hi => ?_
    rw [List.mem_range, hlen] at hi
    rw [hg i hi]
    exact List.all_eq_true.1 h6 i (List.mem_range.2 (by omega))
  · simp only
    intro k hk
    rw [hlen] at hk
    have := h7 k (by omega)
    have hc : ∀ (p ci ph : Int) (slip : Tick → Int) (i : Nat), i < n → (countsL p ci ph slip (tk.take n)).getD i 0 = (countsL p ci ph slip tk).getD i 0 := by
      intro p ci ph slip i hi
      unfold countsL
      rw [map_getD (by omega), map_getD (by omega), turn_same (n := n) hg (i + 1) (by omega)]
    have hfit : ∀ i, fitB i (tk.take n) k = fitB i tk k := by
      intro i
      unfold fitB
      rw [hg k hk, hg (k - 1) (by omega)]
    unfold sensK at this ⊢
    rw [hfit, hfit, hfit, hg k hk, hc _ _ _ _ k hk, hc _ _ _ _ k hk, hc _ _ _ _ (k - 1) (by omega), hc _ _ _ _ (k - 1) (by omega)]
    exact this
  · simp only
    obtain ⟨q1, q2⟩ := read_order h8
    obtain ⟨m, hm, e⟩ := filter_take (n := (n : Int)) rd (pairwise_getD (d := rd0) q2)
    have hp : ∀ r ∈ rd.take m, r.1 < (n : Int) := by
      intro r hr
      rw [← e, List.mem_filter] at hr
      exact of_decide_eq_true hr.2
    rw [e, hlen]
    have hml : (rd.take m).length = m := by simp; omega
    intro k hk
    rw [hml] at hk
    have hgr : ∀ i, i < m → (rd.take m).getD i rd0 = rd.getD i rd0 := fun i hi => take_get' hm hi
    have h8k := h8 k (by omega)
    obtain ⟨a1, a2, a3⟩ := q1 k (by omega)
    have hpc : prevC (rd.take m) k = prevC rd k := by
      unfold prevC
      by_cases h0 : k = 0
      · rw [if_pos h0, if_pos h0]
      · rw [if_neg h0, if_neg h0, hgr (k - 1) (by omega)]
    have hlt : (rd.getD k rd0).1 < (n : Int) := by
      rw [← hgr k hk]
      exact hp _ (getD_mem (by omega))
    have hpl : ∀ i, i < n → (placesL st (tk.take n)).getD i 0 = (placesL st tk).getD i 0 := by
      intro i hi
      unfold placesL
      rw [map_getD (by omega), map_getD (by omega), hpos (i + 1) (by omega)]
    unfold readK at h8k ⊢
    rw [hpc, hgr k hk]
    unfold readB aheadI at h8k ⊢
    generalize rd.getD k rd0 = r at *
    rw [hpl r.1.toNat (by omega)]
    have e2 : (if 0 < r.1 then (placesL st (tk.take n)).getD (r.1 - 1).toNat 0 else st) = (if 0 < r.1 then (placesL st tk).getD (r.1 - 1).toNat 0 else st) := by
      by_cases h0 : 0 < r.1
      · rw [if_pos h0, if_pos h0, hpl _ (by omega)]
      · rw [if_neg h0, if_neg h0]
    rw [e2, decide_eq_true hlt]
    rw [decide_eq_true a3] at h8k
    exact h8k
  · simp only
    intro k hk
    rw [hlen] at hk
    rw [hg k hk]
    exact h9 k (by omega)
def calmT (t : Tick) : Tick := (t.1, (0, 0), 0, 0, (false, false, false, false), [], t.2.2.2.2.2.2)
theorem admit_calm {c : Cf} {t : Tk} {rt : List Int} {st v0 c0 c1 p0 p1 : Int} {tk : List Tick} {rd : List Rd} (h : Admits c t (rt, st, v0, (c0, c1), (p0, p1), tk, rd)) : Admits c t (rt, st, v0, (c0, c1), (p0, p1), tk.map calmT, []) := by
  obtain ⟨h1, h2, h3, h4, h5, h6, h7, h8, h9⟩ := h
  simp only at h2 h3 h4 h5 h6 h7 h8 h9
  have hlen : (tk.map calmT).length = tk.length := by simp
  have hg : ∀ i, i < tk.length → (tk.map calmT).getD i tk0 = calmT (tk.getD i tk0) := by
    intro i hi
    rw [getD_lt (by simpa using hi), getD_lt hi]
    simp
  have hpos : ∀ i, i ≤ tk.length → posI st (tk.map calmT) i = posI st tk i := pos_same fun i hi => by rw [hg i hi]; rfl
  obtain ⟨hw, _⟩ := fits_ok h1
  obtain ⟨cp, lo, hi, rb, rp, ae, ms, ma, an, sl, ss, ro, ti, br⟩ := c
  have R := right_iff.1 hw
  simp only at h4 h5 h6
  refine ⟨h1, h2, ?_, ?_, h5, ?_, ?_, fun k hk => absurd hk (by simp), ?_⟩
  · obtain ⟨o1, o2, o3, o4, o5⟩ := on_facts h3
    simp only
    unfold onB
    simp only [Bool.and_eq_true, decide_eq_true_eq, List.all_eq_true, List.mem_range]
    refine ⟨⟨⟨by omega, o2⟩, o3⟩, fun i hi => ?_⟩
    rw [hlen] at hi
    unfold onAt
    rw [hg i hi, hpos (i + 1) (by omega), Bool.and_eq_true, Bool.and_eq_true, decide_eq_true_eq, decide_eq_true_eq]
    exact ⟨with_iff.2 (o5 i (by omega)), o4 (i + 1) (by omega)⟩
  · simp only
    unfold speedsB at h4 ⊢
    rw [Bool.and_eq_true] at h4 ⊢
    refine ⟨h4.1, List.all_eq_true.2 fun i hi => ?_⟩
    rw [List.mem_range, hlen] at hi
    have := List.all_eq_true.1 h4.2 i (List.mem_range.2 (by omega))
    unfold speedAt prevI at this ⊢
    rw [hg i hi]
    by_cases hi0 : i = 0
    · rw [if_pos hi0] at this ⊢; exact this
    · rw [if_neg hi0] at this ⊢; rw [hg (i - 1) (by omega)]; exact this
  · simp only
    unfold numbersB
    refine List.all_eq_true.2 fun i hi => ?_
    rw [List.mem_range, hlen] at hi
    rw [hg i hi]
    have := R.hae
    unfold numAt calmT
    simp only [Bool.and_eq_true, with_iff]
    omega
  · simp only
    intro k hk
    rw [hlen] at hk
    unfold speedsB at h4
    rw [Bool.and_eq_true] at h4
    have hv := List.all_eq_true.1 h4.2 k (List.mem_range.2 hk)
    unfold speedAt at hv
    rw [Bool.and_eq_true] at hv
    have hv := with_iff.1 hv.1
    have hms := R.hms
    have hwr : wrongR (cp, lo, hi, rb, rp, ae, ms, ma, an, sl, ss, ro, ti, br) (calmT (tk.getD k tk0)) = false := by
      unfold wrongR calmT
      simp only [Int.add_zero]
      rw [wrap_ok (n := (tk.getD k tk0).1) (by omega), f_confError _ _ _ _ _ _ _ _ _ _ _ _ _ _ _ (by omega) R.hrb R.hrp]
      obtain ⟨_, e1, e2⟩ := err_bound (r := (tk.getD k tk0).1) (by omega) R.hrb R.hrp
      simp only [Option.getD_some]
      rw [f_within28 _ _ (by omega)]
      have : withB 0 (errI rb rp (tk.getD k tk0).1) = true := with_iff.2 ⟨by omega, by omega⟩
      rw [this]
      rfl
    unfold sensK
    rw [hg k hk, hwr]
    have e1 : ((calmT (tk.getD k tk0)).2.1.1 != 0) = false := rfl
    have e2 : ((calmT (tk.getD k tk0)).2.1.2 != 0) = false := rfl
    rw [e1, e2]
    unfold sensB wrongN
    cases fitB 0 (tk.map calmT) k <;> cases fitB 1 (tk.map calmT) k <;> cases fitB 2 (tk.map calmT) k <;> rfl
  · simp only
    intro k hk
    rw [hlen] at hk
    rw [hg k hk]
    unfold junkAt calmT
    rfl
end Go.Proofs.Ytlkcanjbgaeceaa
