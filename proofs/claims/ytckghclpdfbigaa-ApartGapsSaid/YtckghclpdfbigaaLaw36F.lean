/- The laws of chapter 36: what their readings say is true. -/
import Derived.Test.YtckghclpdfbigaaLaw11G
set_option linter.unusedSimpArgs false
set_option linter.unusedVariables false
namespace Go.Proofs.Ytckghclpdfbigaa
open Go.RowKit
abbrev Spo := Int × (Int × Int)
def spo0 : Spo := (0, 0, 0)
/-- Are spots as they are told, and few? -/
def Ok36 (l : List Spo) : Prop := l.length ≤ 200 ∧ (∀ s ∈ l, s.2.1 ≤ s.2.2 ∧ -2305843009213693952 ≤ s.2.1 ∧ s.2.2 ≤ 2305843009213693952) ∧ l.Pairwise (fun x y => x.1 < y.1)
def spotB (l : List Spo) (i : Nat) : Bool := !decide ((l.getD i spo0).2.2 < (l.getD i spo0).2.1) && (decide (i = 0) || decide ((l.getD (i - 1) spo0).1 < (l.getD i spo0).1)) && !decide ((l.getD i spo0).2.1 < -2305843009213693952) && !decide (2305843009213693952 < (l.getD i spo0).2.2)
theorem pairwise_getD {α : Type} {l : List α} {d : α} {R : α → α → Prop} (h : ∀ i j, i < j → j < l.length → R (l.getD i d) (l.getD j d)) : l.Pairwise R := by
  rw [List.pairwise_iff_getElem]
  intro i j hi hj hij
  have := h i j hij hj
  rwa [getD_lt hi, getD_lt hj] at this
theorem f_may36 (l : List Spo) (hl : l.length ≤ 140737488351232) : ∃ b, F_law36_may l = some b ∧ (b = true → Ok36 l) := by
  unfold F_law36_may
  rw [loop_find l.length (fun i => bif spotB l i then none else some (.inl false)) (.inr ())]
  · rw [all_find]
    cases hb : (List.range l.length).all (spotB l) with
    | false => exact ⟨false, rfl, fun h => by cases h⟩
    | true =>
      refine ⟨_, rfl, fun h => ?_⟩
      have h := of_decide_eq_true h
      have hall : ∀ i, i < l.length → ((l.getD i spo0).2.1 ≤ (l.getD i spo0).2.2 ∧ -2305843009213693952 ≤ (l.getD i spo0).2.1 ∧ (l.getD i spo0).2.2 ≤ 2305843009213693952) ∧ (i = 0 ∨ (l.getD (i - 1) spo0).1 < (l.getD i spo0).1) := by
        intro i hi
        have := List.all_eq_true.1 hb i (List.mem_range.2 hi)
        unfold spotB at this
        simp only [Bool.and_eq_true, Bool.or_eq_true, decide_eq_true_eq, Bool.not_eq_true', decide_eq_false_iff_not] at this
        obtain ⟨⟨⟨t1, t2⟩, t3⟩, t4⟩ := this
        exact ⟨⟨by omega, by omega, by omega⟩, t2⟩
      refine ⟨by omega, fun s hs => ?_, pairwise_getD (d := spo0) ?_⟩
      · obtain ⟨i, hi, rfl⟩ := List.mem_iff_getElem.1 hs
        have := (hall i hi).1
        rwa [getD_lt hi] at this
      · intro i j hij hj
        induction j with
        | zero => omega
        | succ j ih =>
          have a := (hall (j + 1) hj).2
          rw [Nat.add_sub_cancel] at a
          by_cases hi : i = j
          · subst hi; omega
          · have := ih (by omega) (by omega); omega
  · intro i hi
    have hdef : ∀ i, l.getD i ((0 : Int), ((0 : Int), (0 : Int))) = l.getD i spo0 := fun _ => rfl
    have ew : IntKind.i64.wrap ((i : Int) - 1) = i - 1 := wrap_ok (by omega)
    have ew2 : IntKind.i64.wrap ((i : Int) + 1) = i + 1 := wrap_ok (by omega)
    rw [decide_eq_true (show (i : Int) < l.length by omega), decide_eq_true (show (0 : Int) ≤ i by omega), ew, ew2, Int.toNat_natCast, hdef]
    simp only [cond_true, Bool.and_self, chk_yes]
    have fin : ∀ a b c d e : Bool, e = (!a && !b && !c && !d) → (bif (bif (bif (bif a then true else b) then true else c) then true else d) then some (Sum.inr (Sum.inl false)) else some (Sum.inl ((i : Int) + 1))) = some (stepOut ((i : Int) + 1) (bif e then none else some (Sum.inl false) : Option (Bool ⊕ Unit))) := by
      rintro a b c d e rfl; cases a <;> cases b <;> cases c <;> cases d <;> rfl
    by_cases hi0 : i = 0
    · rw [chk_yes (by simp [hi0])]
      refine fin _ _ _ _ _ ?_
      unfold spotB
      rw [decide_eq_true hi0, show decide ((0 : Int) < (i : Int)) = false by simp [hi0]]
      rfl
    · have et : ((i : Int) - 1).toNat = i - 1 := by omega
      rw [chk_yes (by simp; omega), et, hdef]
      refine fin _ _ _ _ _ ?_
      unfold spotB
      rw [decide_eq_false hi0, show decide ((0 : Int) < (i : Int)) = true by simp; omega, @not_le_dec (l.getD (i - 1) spo0).1 (l.getD i spo0).1]
      rfl
  · simp
theorem f_refs36 (l : List Spo) (h : l.length ≤ 1000) : F_law36_refs l = some l := by
  unfold F_law36_refs
  rw [show (([] : List Spo), (0 : Int)) = (l.take 0, ((0 : Nat) : Int)) from rfl]
  rw [loop_run (n := l.length) (st := fun i => (l.take i, (i : Int))) (x := l)]
  · rfl
  · intro i hi
    simp only []
    rw [decide_eq_true (show (i : Int) < l.length by omega), decide_eq_true (show (0 : Int) ≤ i by omega)]
    simp only [cond_true, Bool.and_self, chk_yes]
    rw [Int.toNat_natCast, chk_yes (by simp; omega), wrap_ok (n := (i : Int) + 1) (by omega), take_succ_getD hi]
    rfl
  · simp
/-- A part by its segment, of parts in order. -/
theorem f_search36 (l : List Spo) (id : Int) (hl : l.length ≤ 4611686018427387903) (hs : ∀ a b : Nat, a ≤ b → b < l.length → (l.getD a spo0).1 ≤ (l.getD b spo0).1) :
    ∃ r : Nat, F_slices_BinarySearchFunc_spot_Spot_spot_Spot_int l id = some ((r : Int), decide (r < l.length) && decide ((l.getD r spo0).1 = id)) ∧ r ≤ l.length ∧
      (∀ k, k < r → (l.getD k spo0).1 < id) ∧ ∀ k, r ≤ k → k < l.length → id ≤ (l.getD k spo0).1 := by
  have hc : ∀ g : Spo, F_spot_Find_1 g id = some (cmpI g.1 id) := by
    intro g
    unfold F_spot_Find_1
    rw [f_Compare]; rfl
  have hb := bsearch (f := fun (s_3 : (Int × Int)) =>
      let j_4 : Int := s_3.1
      let i_5 : Int := s_3.2
      (bif (decide (i_5 < j_4)) then
        let t20_6 : Int := (IntKind.wrap .i64 (i_5 + j_4))
        let t21_7 : Int := (IntKind.wrap .u64 t20_6)
        let t23_8 : Int := (IntKind.wrap .i64 (t21_7.fdiv (2 ^ 1)))
        chk none ((decide ((0 : Int) ≤ t23_8)) && (decide (t23_8 < (l.length : Int)))) <|
        let t28_9 : (Int × (Int × Int)) := (l.getD t23_8.toNat ((0 : Int), ((0 : Int), (0 : Int))))
        (F_spot_Find_1 t28_9 id).bind fun t30_10 =>
        let t31_11 : Bool := (decide (t30_10 < (0 : Int)))
        Option.bind (
          (bif t31_11 then
            let t33_12 : Int := (IntKind.wrap .i64 (t23_8 + (1 : Int)))
            some (t33_12, j_4)
          else
            some (i_5, t23_8))) fun r_13 =>
        let i_14 : Int := r_13.1
        let j_15 : Int := r_13.2
        some (.inl (j_15, i_14))
      else
        some (.inr i_5))) l.length (fun k => decide ((l.getD k spo0).1 < id)) ?_ ?_ ?_
  · obtain ⟨r, e, h1, h2, h3⟩ := hb
    refine ⟨r, ?_, h1, fun k hk => of_decide_eq_true (h2 k hk), fun k q1 q2 => ?_⟩
    · unfold F_slices_BinarySearchFunc_spot_Spot_spot_Spot_int
      rw [e, Option.bind_some]
      by_cases hr : r < l.length
      · have e1 : decide ((r : Int) < l.length) = true := by simp; omega
        have e2 : decide ((0 : Int) ≤ r) = true := by simp
        have e3 : decide (r < l.length) = true := by simp; omega
        have hge := h3 r (by omega) hr
        rw [decide_eq_false_iff_not] at hge
        simp only [e1, e2, e3, Bool.and_self, Bool.true_or, chk_yes, cond_true, Int.toNat_natCast, hc, Option.bind_some, Bool.true_and]
        refine congrArg some (Prod.ext rfl ?_)
        show (cmpI (l.getD r spo0).1 id == 0) = decide ((l.getD r spo0).1 = id)
        generalize (l.getD r spo0).1 = x at *
        by_cases hx : x = id
        · rw [cmpI_eq hx, decide_eq_true hx]; rfl
        · rw [cmpI_gt (show id < x by omega), decide_eq_false hx]; rfl
      · have e1 : decide ((r : Int) < l.length) = false := by simp; omega
        have e3 : decide (r < l.length) = false := by simp; omega
        simp only [e1, e3, Bool.and_false, Bool.not_false, Bool.or_true, chk_yes, cond_false, Option.bind_some, Bool.false_and]
    · have := h3 k q1 q2
      rw [decide_eq_false_iff_not] at this
      omega
  · intro i j hij hj
    have e0 : decide ((i : Int) < j) = true := by simp; omega
    simp only [e0, cond_true, half_nat i j (by omega)]
    have e1 : decide ((0 : Int) ≤ (((i + j) / 2 : Nat) : Int)) = true := decide_eq_true (Int.natCast_nonneg _)
    have e2 : decide ((((i + j) / 2 : Nat) : Int) < l.length) = true := by simp; omega
    simp only [e1, e2, Bool.and_self, chk_yes, Int.toNat_natCast, hc, Option.bind_some]
    show Option.bind (bif decide (cmpI (l.getD ((i + j) / 2) spo0).1 id < 0) then _ else _) _ = _
    have e3 : decide (cmpI (l.getD ((i + j) / 2) spo0).1 id < 0) = decide ((l.getD ((i + j) / 2) spo0).1 < id) := by rw [Bool.eq_iff_iff, decide_eq_true_eq, decide_eq_true_eq, cmpI_neg]
    rw [e3]
    cases decide ((l.getD ((i + j) / 2) spo0).1 < id)
    · rfl
    · simp only [cond_true, Option.bind_some]
      rw [wrap_ok (by omega)]
  · intro i j hij
    have e0 : decide ((i : Int) < j) = false := by simp; omega
    simp only [e0, cond_false]
  · intro a b hab hb h
    rw [decide_eq_true_eq] at h ⊢
    have := hs a b hab hb
    omega
theorem f_FindS (l : List Spo) (id : Int) (hl : l.length ≤ 4611686018427387903) (hs : l.Pairwise (fun x y => x.1 < y.1)) :
    (∃ s ∈ l, s.1 = id ∧ F_spot_Find l id = some (s, true)) ∨ ((∀ s ∈ l, s.1 ≠ id) ∧ F_spot_Find l id = some (spo0, false)) := by
  have hs' : ∀ a b : Nat, a ≤ b → b < l.length → (l.getD a spo0).1 ≤ (l.getD b spo0).1 := by
    intro a b hab hb
    rcases Nat.lt_or_eq_of_le hab with h | rfl
    · have := List.pairwise_iff_getElem.1 hs a b (by omega) hb h
      rw [getD_lt (by omega), getD_lt hb]
      omega
    · exact Int.le_refl _
  obtain ⟨r, e, hr, h1, h2⟩ := f_search36 l id hl hs'
  unfold F_spot_Find
  rw [e, Option.bind_some]
  by_cases hlt : r < l.length ∧ (l.getD r spo0).1 = id
  · left
    refine ⟨l.getD r spo0, by rw [getD_lt hlt.1]; exact List.getElem_mem _, hlt.2, ?_⟩
    rw [decide_eq_true hlt.1, decide_eq_true hlt.2]
    simp only [Bool.and_self, Bool.not_true, cond_false]
    have := hlt.1
    rw [decide_eq_true (show (r : Int) < l.length by omega), decide_eq_true (show (0 : Int) ≤ r by omega)]
    rfl
  · right
    have e2 : (decide (r < l.length) && decide ((l.getD r spo0).1 = id)) = false := by
      rw [Bool.eq_false_iff]
      intro h
      rw [Bool.and_eq_true, decide_eq_true_eq, decide_eq_true_eq] at h
      exact hlt h
    rw [e2]
    refine ⟨fun s hs hid => ?_, rfl⟩
    obtain ⟨k, hk, rfl⟩ := List.mem_iff_getElem.1 hs
    have hk' : l.getD k spo0 = l[k] := getD_lt hk
    rcases Nat.lt_trichotomy k r with h | rfl | h
    · have := h1 k h; rw [hk'] at this; omega
    · exact hlt ⟨hk, by rw [hk']; exact hid⟩
    · have q1 := h2 r (Nat.le_refl _) (by omega)
      have q2 := hs' r k (by omega) hk
      rw [hk'] at q2
      exact hlt ⟨by omega, by omega⟩
def shS (s t : Spo) : Bool := decide (s.1 = t.1) && decide (s.2.1 ≤ t.2.2) && decide (t.2.1 ≤ s.2.2)
def ptS (s t : Spo) : Spo := (s.1, (if t.2.1 > s.2.1 then t.2.1 else s.2.1), (if t.2.2 < s.2.2 then t.2.2 else s.2.2))
def gS (s t : Spo) : Option Spo := bif shS s t then some (ptS s t) else none
/-- What is in both of two rows. -/
def sharedL (a b : List Spo) : List Spo := a.flatMap fun s => b.filterMap (gS s)
theorem flat_len {α β : Type} {f : α → List β} {c : Nat} (h : ∀ s, (f s).length ≤ c) : ∀ l : List α, (l.flatMap f).length ≤ l.length * c := by
  intro l
  induction l with
  | nil => simp
  | cons a l ih =>
    rw [List.flatMap_cons, List.length_append, List.length_cons, Nat.add_mul]
    have := h a
    omega
theorem mem_shared {a b : List Spo} {x : Spo} : x ∈ sharedL a b ↔ ∃ s ∈ a, ∃ t ∈ b, shS s t = true ∧ x = ptS s t := by
  unfold sharedL gS
  rw [List.mem_flatMap]
  constructor
  · rintro ⟨s, hs, hx⟩
    rw [List.mem_filterMap] at hx
    obtain ⟨t, ht, hx⟩ := hx
    cases hc : shS s t with
    | true => rw [hc] at hx; simp only [cond_true, Option.some.injEq] at hx; exact ⟨s, hs, t, ht, hc, hx.symm⟩
    | false => rw [hc] at hx; cases hx
  · rintro ⟨s, hs, t, ht, hc, rfl⟩
    exact ⟨s, hs, List.mem_filterMap.2 ⟨t, ht, by rw [hc]; rfl⟩⟩
theorem sorted_ext : ∀ l m : List Spo, l.Pairwise (fun x y => x.1 < y.1) → m.Pairwise (fun x y => x.1 < y.1) → (∀ x, x ∈ l ↔ x ∈ m) → l = m := by
  intro l
  induction l with
  | nil =>
    intro m _ _ h
    cases m with
    | nil => rfl
    | cons y m => exact absurd ((h y).2 (List.mem_cons_self)) (List.not_mem_nil)
  | cons x l ih =>
    intro m hl hm h
    cases m with
    | nil => exact absurd ((h x).1 (List.mem_cons_self)) (List.not_mem_nil)
    | cons y m =>
      rw [List.pairwise_cons] at hl hm
      have hxy : x = y := by
        have h1 := (h x).1 List.mem_cons_self
        have h2 := (h y).2 List.mem_cons_self
        rw [List.mem_cons] at h1 h2
        rcases h1 with h1 | h1
        · exact h1
        · rcases h2 with h2 | h2
          · exact h2.symm
          · have := hm.1 x h1; have := hl.1 y h2; omega
      subst hxy
      rw [ih m hl.2 hm.2 fun z => ?_]
      have hz := h z
      rw [List.mem_cons, List.mem_cons] at hz
      constructor
      · intro hzl
        rcases hz.1 (.inr hzl) with rfl | h3
        · have := hl.1 z hzl; omega
        · exact h3
      · intro hzm
        rcases hz.2 (.inr hzm) with rfl | h3
        · have := hm.1 z hzm; omega
        · exact h3
theorem sorted_shared {a b : List Spo} (ha : a.Pairwise (fun x y => x.1 < y.1)) (hb : b.Pairwise (fun x y => x.1 < y.1)) : (sharedL a b).Pairwise (fun x y => x.1 < y.1) := by
  have hg : ∀ s t x, gS s t = some x → x.1 = s.1 ∧ x.1 = t.1 := by
    intro s t x h
    unfold gS shS at h
    by_cases h1 : s.1 = t.1
    · cases hc : (decide (s.1 = t.1) && decide (s.2.1 ≤ t.2.2) && decide (t.2.1 ≤ s.2.2)) with
      | true => rw [hc] at h; cases h; exact ⟨rfl, h1⟩
      | false => rw [hc] at h; cases h
    · rw [decide_eq_false h1] at h; cases h
  unfold sharedL
  rw [List.pairwise_flatMap]
  refine ⟨fun s _ => ?_, ?_⟩
  · rw [List.pairwise_filterMap]
    refine hb.imp fun {x y} hxy u hu v hv => ?_
    have := hg _ _ _ hu
    have := hg _ _ _ hv
    omega
  · refine ha.imp fun {x y} hxy u hu v hv => ?_
    rw [List.mem_filterMap] at hu hv
    obtain ⟨t, _, hu⟩ := hu
    obtain ⟨t', _, hv⟩ := hv
    have := hg _ _ _ hu
    have := hg _ _ _ hv
    omega
theorem sh_comm (s t : Spo) : shS s t = shS t s := by
  unfold shS
  rw [Bool.eq_iff_iff]
  simp only [Bool.and_eq_true, decide_eq_true_eq]
  omega
theorem pt_comm {s t : Spo} (h : shS s t = true) : ptS s t = ptS t s := by
  unfold shS at h
  simp only [Bool.and_eq_true, decide_eq_true_eq] at h
  unfold ptS
  rw [h.1.1]
  refine Prod.ext rfl (Prod.ext ?_ ?_) <;> simp only <;> split <;> split <;> omega
theorem shared_comm {a b : List Spo} (ha : a.Pairwise (fun x y => x.1 < y.1)) (hb : b.Pairwise (fun x y => x.1 < y.1)) : sharedL b a = sharedL a b := by
  refine sorted_ext _ _ (sorted_shared hb ha) (sorted_shared ha hb) fun x => ?_
  rw [mem_shared, mem_shared]
  constructor
  · rintro ⟨s, hs, t, ht, h, rfl⟩
    exact ⟨t, ht, s, hs, by rw [sh_comm]; exact h, pt_comm h⟩
  · rintro ⟨s, hs, t, ht, h, rfl⟩
    exact ⟨t, ht, s, hs, by rw [sh_comm]; exact h, pt_comm h⟩
end Go.Proofs.Ytckghclpdfbigaa
