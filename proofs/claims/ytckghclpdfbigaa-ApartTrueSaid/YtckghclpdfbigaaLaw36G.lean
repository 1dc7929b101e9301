/- The laws of chapter 36: the rows' loops and the laws. -/
import Derived.Test.YtckghclpdfbigaaLaw36F
set_option linter.unusedSimpArgs false
set_option linter.unusedVariables false
namespace Go.Proofs.Ytckghclpdfbigaa
open Go.RowKit
theorem spo_def (l : List Spo) : ∀ i, l.getD i ((0 : Int), ((0 : Int), (0 : Int))) = l.getD i spo0 := fun _ => rfl
theorem getD_mem {α : Type} {l : List α} {i : Nat} {d : α} (h : i < l.length) : l.getD i d ∈ l := by rw [getD_lt h]; exact List.getElem_mem h
theorem take_flat {α β : Type} {l : List α} {i : Nat} {d : α} (h : i < l.length) (f : α → List β) : (l.take i).flatMap f ++ f (l.getD i d) = (l.take (i + 1)).flatMap f := by
  rw [← take_succ_getD (d := d) h, List.flatMap_append]; simp
theorem take_filter {α β : Type} {l : List α} {i : Nat} {d : α} (h : i < l.length) (f : α → Option β) : (l.take i).filterMap f ++ (f (l.getD i d)).toList = (l.take (i + 1)).filterMap f := by
  rw [← take_succ_getD (d := d) h, List.filterMap_append]
  generalize l.getD i d = x
  cases hf : f x <;> simp [hf]
theorem one_of {b : List Spo} (hb : b.Pairwise (fun x y => x.1 < y.1)) {t : Spo} (ht : t ∈ b) {β : Type} (g : Spo → Option β) (hg : ∀ u ∈ b, u.1 ≠ t.1 → g u = none) : b.filterMap g = (g t).toList := by
  induction b with
  | nil => cases ht
  | cons x b ih =>
    rw [List.pairwise_cons] at hb
    rcases List.mem_cons.1 ht with rfl | ht'
    · have : b.filterMap g = [] := by
        rw [List.filterMap_eq_nil_iff]
        intro u hu
        have := hb.1 u hu
        exact hg u (List.mem_cons_of_mem _ hu) (by omega)
      cases hgt : g t <;> simp [hgt, this]
    · have hx : g x = none := hg x List.mem_cons_self (by have := hb.1 t ht'; omega)
      rw [List.filterMap_cons, hx]
      exact ih hb.2 ht' (fun u hu => hg u (List.mem_cons_of_mem _ hu))
theorem none_of {b : List Spo} {s : Spo} (h : ∀ u ∈ b, u.1 ≠ s.1) : b.filterMap (gS s) = [] := by
  rw [List.filterMap_eq_nil_iff]
  intro u hu
  unfold gS shS
  rw [decide_eq_false (fun e => h u hu e.symm)]; rfl
theorem gS_other {s u : Spo} (h : u.1 ≠ s.1) : gS s u = none := by
  unfold gS shS
  rw [decide_eq_false (fun e => h e.symm)]; rfl
theorem gS_len (b : List Spo) (s : Spo) : (b.filterMap (gS s)).length ≤ b.length := List.length_filterMap_le _ _
theorem f_Shared (a b : List Spo) (ha : Ok36 a) (hb : Ok36 b) : F_apart_Shared a b = some (sharedL a b) := by
  obtain ⟨a1, a2, a3⟩ := ha
  obtain ⟨b1, b2, b3⟩ := hb
  unfold F_apart_Shared
  rw [show (([] : List Spo), (0 : Int)) = ((a.take 0).flatMap (fun s => b.filterMap (gS s)), ((0 : Nat) : Int)) from rfl]
  rw [loop_run (n := a.length) (st := fun i => ((a.take i).flatMap (fun s => b.filterMap (gS s)), (i : Int))) (x := sharedL a b)]
  · rfl
  · intro i hi
    simp only []
    rw [decide_eq_true (show (i : Int) < a.length by omega), decide_eq_true (show (0 : Int) ≤ i by omega), spo_def, Int.toNat_natCast, wrap_ok (n := (i : Int) + 1) (by omega), ← take_flat (d := spo0) hi]
    simp only [cond_true, Bool.and_self, chk_yes]
    have hlen : ((a.take i).flatMap (fun s => b.filterMap (gS s))).length ≤ 40000 := by
      have h1 := flat_len (gS_len b) (a.take i)
      have h2 : (a.take i).length ≤ a.length := by simp; omega
      have h3 : (a.take i).length * b.length ≤ 200 * 200 := Nat.mul_le_mul (by omega) b1
      omega
    have hs := a2 _ (getD_mem (d := spo0) hi)
    generalize (a.take i).flatMap (fun s => b.filterMap (gS s)) = out at hlen ⊢
    generalize a.getD i spo0 = s at hs ⊢
    rcases f_FindS b s.1 (by omega) b3 with ⟨t, ht, e1, e2⟩ | ⟨h, e2⟩
    · rw [e2, Option.bind_some, one_of b3 ht (gS s) (fun u hu hut => gS_other (by omega))]
      have ht2 := b2 t ht
      have ec : decide ((if t.2.1 > s.2.1 then t.2.1 else s.2.1) ≤ (if t.2.2 < s.2.2 then t.2.2 else s.2.2)) = shS s t := by
        unfold shS
        rw [Bool.eq_iff_iff]
        simp only [Bool.and_eq_true, decide_eq_true_eq]
        constructor
        · intro h; split at h <;> split at h <;> omega
        · intro h; split <;> split <;> omega
      simp only [cond_true]
      rw [ec]
      unfold gS
      cases shS s t with
      | false => simp
      | true =>
        simp only [cond_true]
        rw [chk_yes (by simp; omega)]
        rfl
    · rw [e2, Option.bind_some, none_of h]
      simp
  · simp [sharedL]
theorem f_Apart (a b : List Spo) (ha : Ok36 a) (hb : Ok36 b) : F_apart_Apart a b = some (((sharedL a b).length : Int) == 0) := by
  unfold F_apart_Apart
  rw [f_Shared a b ha hb]; rfl
theorem f_SharedR (a b : List Spo) (ha : Ok36 a) (hb : Ok36 b) : F_ref36_Shared a b = some (sharedL a b) := by
  obtain ⟨a1, a2, a3⟩ := ha
  obtain ⟨b1, b2, b3⟩ := hb
  unfold F_ref36_Shared
  rw [show ((0 : Int), ([] : List Spo)) = (((0 : Nat) : Int), (a.take 0).flatMap (fun s => b.filterMap (gS s))) from rfl]
  rw [loop_run (n := a.length) (st := fun i => ((i : Int), (a.take i).flatMap (fun s => b.filterMap (gS s)))) (x := sharedL a b)]
  · rfl
  · intro i hi
    simp only []
    rw [decide_eq_true (show (i : Int) < a.length by omega), decide_eq_true (show (0 : Int) ≤ i by omega), Int.toNat_natCast, wrap_ok (n := (i : Int) + 1) (by omega), ← take_flat (d := spo0) hi]
    simp only [cond_true, Bool.and_self, Bool.true_or, chk_yes, spo_def]
    have hlen : ((a.take i).flatMap (fun s => b.filterMap (gS s))).length ≤ 40000 := by
      have h1 := flat_len (gS_len b) (a.take i)
      have h2 : (a.take i).length ≤ a.length := by simp; omega
      have h3 : (a.take i).length * b.length ≤ 200 * 200 := Nat.mul_le_mul (by omega) b1
      omega
    have hs := a2 _ (getD_mem (d := spo0) hi)
    generalize (a.take i).flatMap (fun s => b.filterMap (gS s)) = out at hlen ⊢
    generalize a.getD i spo0 = s at hs ⊢
    have h0 : (out, (0 : Int)) = (out ++ (b.take 0).filterMap (gS s), ((0 : Nat) : Int)) := by simp
    rw [h0, loop_run (n := b.length) (st := fun k => (out ++ (b.take k).filterMap (gS s), (k : Int))) (x := out ++ b.filterMap (gS s))]
    · rfl
    · intro k hk
      simp only []
      rw [decide_eq_true (show (k : Int) < b.length by omega), decide_eq_true (show (0 : Int) ≤ k by omega), Int.toNat_natCast, wrap_ok (n := (k : Int) + 1) (by omega), ← take_filter (d := spo0) hk]
      simp only [cond_true, Bool.and_self, Bool.true_or, chk_yes, spo_def]
      have hl2 : ((b.take k).filterMap (gS s)).length ≤ 200 := by
        have h1 := List.length_filterMap_le (gS s) (b.take k)
        have h2 : (b.take k).length ≤ b.length := by simp; omega
        omega
      generalize (b.take k).filterMap (gS s) = out2 at hl2 ⊢
      generalize b.getD k spo0 = t
      have ec : (bif (bif (s.1 == t.1) then decide (s.2.1 ≤ t.2.2) else false) then decide (t.2.1 ≤ s.2.2) else false) = shS s t := by
        unfold shS
        by_cases h : s.1 = t.1
        · simp [h]
        · simp [h]
      rw [ec]
      unfold gS
      cases shS s t with
      | false => simp
      | true =>
        simp only [cond_true]
        rw [chk_yes (by simp; omega)]
        simp [ptS]
    · simp
  · simp [sharedL]
theorem f_HasS (l : List Spo) (seg x : Int) (hl : l.length ≤ 4611686018427387903) (hs : l.Pairwise (fun x y => x.1 < y.1)) {s : Spo} (h : s ∈ l) (h1 : s.1 = seg) (h2 : s.2.1 ≤ x) (h3 : x ≤ s.2.2) : F_spot_Has l seg x = some true := by
  unfold F_spot_Has
  rcases f_FindS l seg hl hs with ⟨t, ht, e1, e2⟩ | ⟨h', e2⟩
  · have : t = s := by
      obtain ⟨i, hi, rfl⟩ := List.mem_iff_getElem.1 h
      obtain ⟨k, hk, rfl⟩ := List.mem_iff_getElem.1 ht
      rcases Nat.lt_trichotomy i k with hik | rfl | hik
      · have := List.pairwise_iff_getElem.1 hs i k hi hk hik; omega
      · rfl
      · have := List.pairwise_iff_getElem.1 hs k i hk hi hik; omega
    subst this
    rw [e2, Option.bind_some, decide_eq_true h2, decide_eq_true h3]; rfl
  · exact absurd h1 (h' s h)
theorem f_HasR (l : List Spo) (seg x : Int) (hl : l.length ≤ 4611686018427387903) : ∃ b, F_ref31_Has l seg x = some b ∧ (b = true → ∃ s ∈ l, s.1 = seg ∧ s.2.1 ≤ x ∧ x ≤ s.2.2) := by
  unfold F_ref31_Has
  rw [loop_find l.length (fun i => bif (decide ((l.getD i spo0).1 = seg) && decide ((l.getD i spo0).2.1 ≤ x) && decide (x ≤ (l.getD i spo0).2.2)) then some (.inl true) else none) (.inr ())]
  · cases hf : ((List.range l.length).findSome? fun i => bif (decide ((l.getD i spo0).1 = seg) && decide ((l.getD i spo0).2.1 ≤ x) && decide (x ≤ (l.getD i spo0).2.2)) then some (Sum.inl true : Bool ⊕ Unit) else none) with
    | none => exact ⟨false, rfl, fun h => by cases h⟩
    | some z =>
      obtain ⟨i, hi, he⟩ := List.exists_of_findSome?_eq_some hf
      cases hb : (decide ((l.getD i spo0).1 = seg) && decide ((l.getD i spo0).2.1 ≤ x) && decide (x ≤ (l.getD i spo0).2.2)) with
      | false => rw [hb] at he; cases he
      | true =>
        rw [hb] at he
        cases he
        simp only [Bool.and_eq_true, decide_eq_true_eq] at hb
        exact ⟨true, rfl, fun _ => ⟨_, getD_mem (d := spo0) (List.mem_range.1 hi), hb.1.1, hb.1.2, hb.2⟩⟩
  · intro i hi
    rw [decide_eq_true (show (i : Int) < l.length by omega), decide_eq_true (show (0 : Int) ≤ i by omega), Int.toNat_natCast, wrap_ok (n := (i : Int) + 1) (by omega)]
    simp only [cond_true, Bool.and_self, Bool.true_or, chk_yes, spo_def]
    generalize l.getD i spo0 = s
    by_cases h : s.1 = seg
    · have e : (s.1 == seg) = true := by simpa using h
      rw [e, decide_eq_true h]
      cases decide (s.2.1 ≤ x) <;> cases decide (x ≤ s.2.2) <;> rfl
    · have e : (s.1 == seg) = false := by simpa using h
      rw [e, decide_eq_false h]; rfl
  · simp
/-- How far two parts of one segment are apart. -/
def far (s t : Spo) : Int := if t.2.1 > s.2.2 then t.2.1 - s.2.2 else if s.2.1 > t.2.2 then s.2.1 - t.2.2 else 0
def fS (s t : Spo) : Option Int := bif decide (s.1 = t.1) then some (far s t) else none
def fars (a b : List Spo) : List Int := a.flatMap fun s => b.filterMap (fS s)
def stepG (z : Bool × Int) (x : Int) : Bool × Int := bif (bif !z.1 then true else decide (x < z.2)) then (true, x) else z
theorem stepG_spec (l : List Int) : (l = [] ∧ l.foldl stepG (false, 0) = (false, 0)) ∨ ∃ m, l.foldl stepG (false, 0) = (true, m) ∧ m ∈ l ∧ ∀ x ∈ l, m ≤ x := by
  have key : ∀ (l : List Int) (m : Int), ∃ n, l.foldl stepG (true, m) = (true, n) ∧ (n = m ∨ n ∈ l) ∧ n ≤ m ∧ ∀ x ∈ l, n ≤ x := by
    intro l
    induction l with
    | nil => intro m; exact ⟨m, rfl, .inl rfl, Int.le_refl _, fun x hx => by cases hx⟩
    | cons y l ih =>
      intro m
      rw [List.foldl_cons]
      unfold stepG
      simp only [Bool.not_true, cond_false]
      by_cases h : y < m
      · rw [decide_eq_true h]
        obtain ⟨n, e, h1, h2, h3⟩ := ih y
        refine ⟨n, e, ?_, by omega, fun x hx => ?_⟩
        · rcases h1 with rfl | h1
          · exact .inr List.mem_cons_self
          · exact .inr (List.mem_cons_of_mem _ h1)
        · rcases List.mem_cons.1 hx with rfl | hx
          · exact h2
          · exact h3 x hx
      · rw [decide_eq_false h]
        obtain ⟨n, e, h1, h2, h3⟩ := ih m
        refine ⟨n, e, ?_, h2, fun x hx => ?_⟩
        · rcases h1 with rfl | h1
          · exact .inl rfl
          · exact .inr (List.mem_cons_of_mem _ h1)
        · rcases List.mem_cons.1 hx with rfl | hx
          · omega
          · exact h3 x hx
  cases l with
  | nil => exact .inl ⟨rfl, rfl⟩
  | cons y l =>
    right
    obtain ⟨n, e, h1, h2, h3⟩ := key l y
    refine ⟨n, e, ?_, fun x hx => ?_⟩
    · rcases h1 with rfl | h1
      · exact List.mem_cons_self
      · exact List.mem_cons_of_mem _ h1
    · rcases List.mem_cons.1 hx with rfl | hx
      · exact h2
      · exact h3 x hx
theorem f_SubSat (x y : Int) (hx : -4611686018427387904 ≤ x ∧ x ≤ 4611686018427387903) (hy : -4611686018427387904 ≤ y ∧ y ≤ 4611686018427387903) : F_num_SubSat x y = some (x - y) := by
  unfold F_num_SubSat F_num_Sub
  rw [wrap_ok (n := x - y) (by omega)]
  have e : (bif (!(decide (0 ≤ x) == decide (0 ≤ y))) then (!(decide (0 ≤ x - y) == decide (0 ≤ x))) else false) = false := by
    by_cases h1 : 0 ≤ x <;> by_cases h2 : 0 ≤ y
    · simp [h1, h2]
    · rw [decide_eq_true h1, decide_eq_false h2, decide_eq_true (show 0 ≤ x - y by omega)]; rfl
    · rw [decide_eq_false h1, decide_eq_true h2, decide_eq_false (show ¬ 0 ≤ x - y by omega)]; rfl
    · simp [h1, h2]
  simp only []
  rw [e]
  rfl
theorem fS_other {s u : Spo} (h : u.1 ≠ s.1) : fS s u = none := by
  unfold fS
  rw [decide_eq_false (fun e => h e.symm)]; rfl
theorem f_Gap (a b : List Spo) (ha : Ok36 a) (hb : Ok36 b) : F_apart_Gap a b = some (((fars a b).foldl stepG (false, 0)).2, ((fars a b).foldl stepG (false, 0)).1) := by
  obtain ⟨a1, a2, a3⟩ := ha
  obtain ⟨b1, b2, b3⟩ := hb
  unfold F_apart_Gap
  have h0 : (false, ((0 : Int), (0 : Int))) = ((((a.take 0).flatMap fun s => b.filterMap (fS s)).foldl stepG (false, 0)).1, (((a.take 0).flatMap fun s => b.filterMap (fS s)).foldl stepG (false, 0)).2, ((0 : Nat) : Int)) := rfl
  rw [h0, loop_run (n := a.length) (st := fun i => ((((a.take i).flatMap fun s => b.filterMap (fS s)).foldl stepG (false, 0)).1, (((a.take i).flatMap fun s => b.filterMap (fS s)).foldl stepG (false, 0)).2, (i : Int))) (x := (fars a b).foldl stepG (false, 0))]
  · rfl
  · intro i hi
    simp only []
    rw [decide_eq_true (show (i : Int) < a.length by omega), decide_eq_true (show (0 : Int) ≤ i by omega), spo_def, Int.toNat_natCast, wrap_ok (n := (i : Int) + 1) (by omega), ← take_flat (d := spo0) hi, List.foldl_append]
    simp only [cond_true, Bool.and_self, chk_yes]
    have hs := a2 _ (getD_mem (d := spo0) hi)
    generalize ((a.take i).flatMap (fun s => b.filterMap (fS s))).foldl stepG (false, 0) = z
    generalize a.getD i spo0 = s at hs ⊢
    rcases f_FindS b s.1 (by omega) b3 with ⟨t, ht, e1, e2⟩ | ⟨h, e2⟩
    · have ht2 := b2 t ht
      rw [e2, Option.bind_some, one_of b3 ht (fS s) (fun u hu hut => fS_other (by omega))]
      simp only [Bool.not_true, cond_false]
      rw [f_SubSat _ _ (by omega) (by omega), Option.bind_some, f_SubSat _ _ (by omega) (by omega), Option.bind_some]
      have ef : (if (0 : Int) > (if s.2.1 - t.2.2 > t.2.1 - s.2.2 then s.2.1 - t.2.2 else t.2.1 - s.2.2) then (0 : Int) else (if s.2.1 - t.2.2 > t.2.1 - s.2.2 then s.2.1 - t.2.2 else t.2.1 - s.2.2)) = far s t := by
        unfold far
        repeat' split
        all_goals omega
      rw [ef]
      unfold fS
      rw [decide_eq_true e1.symm]
      simp only [cond_true, Option.toList_some, List.foldl_cons, List.foldl_nil]
      unfold stepG
      obtain ⟨zf, zl⟩ := z
      cases zf <;> cases decide (far s t < zl) <;> rfl
    · rw [e2, Option.bind_some]
      have : b.filterMap (fS s) = [] := by
        rw [List.filterMap_eq_nil_iff]
        intro u hu
        exact fS_other (h u hu)
      rw [this]
      rfl
  · simp [fars]
theorem f_GapR (a b : List Spo) (ha : Ok36 a) (hb : Ok36 b) : F_ref36_Gap a b = some (((fars a b).foldl stepG (false, 0)).2, ((fars a b).foldl stepG (false, 0)).1) := by
  obtain ⟨a1, a2, a3⟩ := ha
  obtain ⟨b1, b2, b3⟩ := hb
  unfold F_ref36_Gap
  have h0 : (false, ((0 : Int), (0 : Int))) = ((((a.take 0).flatMap fun s => b.filterMap (fS s)).foldl stepG (false, 0)).1, (((a.take 0).flatMap fun s => b.filterMap (fS s)).foldl stepG (false, 0)).2, ((0 : Nat) : Int)) := rfl
  rw [h0, loop_run (n := a.length) (st := fun i => ((((a.take i).flatMap fun s => b.filterMap (fS s)).foldl stepG (false, 0)).1, (((a.take i).flatMap fun s => b.filterMap (fS s)).foldl stepG (false, 0)).2, (i : Int))) (x := (fars a b).foldl stepG (false, 0))]
  · rfl
  · intro i hi
    simp only []
    rw [decide_eq_true (show (i : Int) < a.length by omega), decide_eq_true (show (0 : Int) ≤ i by omega), Int.toNat_natCast, wrap_ok (n := (i : Int) + 1) (by omega), ← take_flat (d := spo0) hi, List.foldl_append]
    simp only [cond_true, Bool.and_self, Bool.true_or, chk_yes, spo_def]
    have hs := a2 _ (getD_mem (d := spo0) hi)
    generalize ((a.take i).flatMap (fun s => b.filterMap (fS s))).foldl stepG (false, 0) = z
    generalize a.getD i spo0 = s at hs ⊢
    have h0 : (z.1, ((0 : Int), z.2)) = ((((b.take 0).filterMap (fS s)).foldl stepG z).1, ((0 : Nat) : Int), (((b.take 0).filterMap (fS s)).foldl stepG z).2) := rfl
    rw [h0, loop_run (n := b.length) (st := fun k => ((((b.take k).filterMap (fS s)).foldl stepG z).1, (k : Int), (((b.take k).filterMap (fS s)).foldl stepG z).2)) (x := (b.filterMap (fS s)).foldl stepG z)]
    · rfl
    · intro k hk
      simp only []
      rw [decide_eq_true (show (k : Int) < b.length by omega), decide_eq_true (show (0 : Int) ≤ k by omega), Int.toNat_natCast, wrap_ok (n := (k : Int) + 1) (by omega), ← take_filter (d := spo0) hk, List.foldl_append]
      simp only [cond_true, Bool.and_self, Bool.true_or, chk_yes, spo_def]
      have ht := b2 _ (getD_mem (d := spo0) hk)
      generalize ((b.take k).filterMap (fS s)).foldl stepG z = y
      generalize b.getD k spo0 = t at ht ⊢
      by_cases he : s.1 = t.1
      · have e : (s.1 != t.1) = false := by simpa using he
        rw [e]
        unfold fS
        rw [decide_eq_true he]
        simp only [cond_true, cond_false, Option.toList_some, List.foldl_cons, List.foldl_nil]
        have em : ∀ (c : Prop) [Decidable c] (x y : Int), (bif decide c then some x else some y) = some (if c then x else y) := by
          intro c _ x y; by_cases h : c <;> simp [h]
        rw [em, Option.bind_some, em, Option.bind_some, wrap_ok (n := t.2.1 - s.2.2) (by omega), wrap_ok (n := s.2.1 - t.2.2) (by omega)]
        have ef : (if t.2.2 < s.2.1 then s.2.1 - t.2.2 else if s.2.2 < t.2.1 then t.2.1 - s.2.2 else 0) = far s t := by
          unfold far
          repeat' split
          all_goals omega
        rw [ef]
        unfold stepG
        obtain ⟨yf, yl⟩ := y
        cases yf <;> cases decide (far s t < yl) <;> rfl
      · have e : (s.1 != t.1) = true := by simpa using he
        rw [e, fS_other (fun h => he h.symm)]
        rfl
    · simp
  · simp [fars]
theorem mem_fars {a b : List Spo} {x : Int} : x ∈ fars a b ↔ ∃ s ∈ a, ∃ t ∈ b, s.1 = t.1 ∧ x = far s t := by
  unfold fars fS
  rw [List.mem_flatMap]
  constructor
  · rintro ⟨s, hs, hx⟩
    rw [List.mem_filterMap] at hx
    obtain ⟨t, ht, hx⟩ := hx
    by_cases hc : s.1 = t.1
    · rw [decide_eq_true hc] at hx; simp only [cond_true, Option.some.injEq] at hx; exact ⟨s, hs, t, ht, hc, hx.symm⟩
    · rw [decide_eq_false hc] at hx; cases hx
  · rintro ⟨s, hs, t, ht, hc, rfl⟩
    exact ⟨s, hs, List.mem_filterMap.2 ⟨t, ht, by rw [decide_eq_true hc]; rfl⟩⟩
theorem ok_one36 (s : Spo) (h : s.2.1 ≤ s.2.2 ∧ -2305843009213693952 ≤ s.2.1 ∧ s.2.2 ≤ 2305843009213693952) : Ok36 [s] := by
  refine ⟨by simp, fun u hu => ?_, by simp⟩
  rw [List.mem_singleton] at hu
  subst hu
  exact h
theorem f_anchor36 : F_law36_anchor () = some true := by
  unfold F_law36_anchor
  have h1 : Ok36 [((3 : Int), ((5 : Int), (9 : Int)))] := ok_one36 _ (by decide)
  have h2 : Ok36 [((3 : Int), ((12 : Int), (20 : Int)))] := ok_one36 _ (by decide)
  simp only []
  rw [f_Gap _ _ h1 h2, Option.bind_some, f_Apart _ _ h1 h2, Option.bind_some, f_Apart _ _ h1 h1]
  decide
theorem eq3 (x : Spo) : eqT (.agg (.pair (.int .i64) (.pair (.int .i64) (.int .i64)))) x x = true := by
  show ((x.1 == x.1) && ((x.2.1 == x.2.1) && (x.2.2 == x.2.2))) = true
  simp
theorem f_ApartShares (a b : List Spo) (ha : a.length ≤ 140737488351232) (hb : b.length ≤ 140737488351232) : F_law36_ApartShares a b = some true := by
  unfold F_law36_ApartShares
  rw [f_anchor36, Option.bind_some]
  obtain ⟨ba, ea, ha'⟩ := f_may36 a ha
  obtain ⟨bb, eb, hb'⟩ := f_may36 b hb
  simp only [Bool.not_true, cond_false]
  rw [ea, eb, Option.bind_some]
  cases ba with
  | false => rfl
  | true =>
    cases bb with
    | false => rfl
    | true =>
      have oa := ha' rfl
      have ob := hb' rfl
      simp only [Bool.not_true, Bool.not_false, cond_true, cond_false, Option.bind_some]
      rw [f_Shared a b oa ob, Option.bind_some, f_refs36 a (by have := oa.1; omega), Option.bind_some, f_refs36 b (by have := ob.1; omega), Option.bind_some, f_SharedR a b oa ob, Option.bind_some, f_Shared b a ob oa, Option.bind_some, shared_comm oa.2.2 ob.2.2, f_Apart a b oa ob, f_Apart b a ob oa, shared_comm oa.2.2 ob.2.2]
      have hlen : (sharedL a b).length ≤ 40000 := by
        have h1 := flat_len (gS_len b) a
        have h3 : a.length * b.length ≤ 200 * 200 := Nat.mul_le_mul oa.1 ob.1
        unfold sharedL
        omega
      generalize sharedL a b = l at hlen ⊢
      simp only [bne_self_eq_false, cond_false]
      rw [loop_find l.length (fun _ => none) (.inr ())]
      · rw [find_none.2 (fun _ _ => rfl)]
        simp
      · intro i hi
        rw [decide_eq_true (show (i : Int) < l.length by omega), decide_eq_true (show (0 : Int) ≤ i by omega), Int.toNat_natCast, wrap_ok (n := (i : Int) + 1) (by omega)]
        simp only [cond_true, Bool.and_self, Bool.true_or, chk_yes]
        rw [eq3]
        rfl
      · simp
theorem f_ApartGaps (a b : List Spo) (ha : a.length ≤ 140737488351232) (hb : b.length ≤ 140737488351232) : F_law36_ApartGaps a b = some true := by
  unfold F_law36_ApartGaps
  rw [f_anchor36, Option.bind_some]
  obtain ⟨ba, ea, ha'⟩ := f_may36 a ha
  obtain ⟨bb, eb, hb'⟩ := f_may36 b hb
  simp only [Bool.not_true, cond_false]
  rw [ea, eb, Option.bind_some]
  cases ba with
  | false => rfl
  | true =>
    cases bb with
    | false => rfl
    | true =>
      have oa := ha' rfl
      have ob := hb' rfl
      simp only [Bool.not_true, Bool.not_false, cond_true, cond_false, Option.bind_some]
      rw [f_Gap a b oa ob, Option.bind_some, f_refs36 a (by have := oa.1; omega), Option.bind_some, f_refs36 b (by have := ob.1; omega), Option.bind_some, f_GapR a b oa ob, Option.bind_some, f_Apart a b oa ob]
      simp only [bne_self_eq_false, cond_false, beq_self_eq_true, Bool.not_true, Option.bind_some]
      refine congrArg some ?_
      rw [beq_iff_eq]
      rcases stepG_spec (fars a b) with ⟨h1, h2⟩ | ⟨m, h1, h2, h3⟩
      · rw [h2]
        simp only [Bool.not_false, cond_true]
        have : sharedL a b = [] := by
          rw [List.eq_nil_iff_forall_not_mem]
          intro x hx
          obtain ⟨s, hs, t, ht, hsh, _⟩ := mem_shared.1 hx
          unfold shS at hsh
          simp only [Bool.and_eq_true, decide_eq_true_eq] at hsh
          have : far s t ∈ fars a b := mem_fars.2 ⟨s, hs, t, ht, hsh.1.1, rfl⟩
          rw [h1] at this
          cases this
        rw [this]; rfl
      · rw [h1]
        simp only [Bool.not_true, cond_false]
        obtain ⟨s, hs, t, ht, hst, hm⟩ := mem_fars.1 h2
        have hs2 := oa.2.1 s hs
        have ht2 := ob.2.1 t ht
        by_cases hpos : 0 < m
        · rw [decide_eq_true hpos]
          have : sharedL a b = [] := by
            rw [List.eq_nil_iff_forall_not_mem]
            intro x hx
            obtain ⟨s, hs, t, ht, hsh, _⟩ := mem_shared.1 hx
            unfold shS at hsh
            simp only [Bool.and_eq_true, decide_eq_true_eq] at hsh
            have := h3 _ (mem_fars.2 ⟨s, hs, t, ht, hsh.1.1, rfl⟩)
            unfold far at this
            rw [if_neg (by omega), if_neg (by omega)] at this
            omega
          rw [this]; rfl
        · rw [decide_eq_false hpos]
          have : ptS s t ∈ sharedL a b := by
            refine mem_shared.2 ⟨s, hs, t, ht, ?_, rfl⟩
            unfold shS
            simp only [Bool.and_eq_true, decide_eq_true_eq]
            unfold far at hm
            split at hm
            · omega
            · split at hm
              · omega
              · exact ⟨⟨hst, by omega⟩, by omega⟩
          have := List.length_pos_of_mem this
          simp
          intro h
          rw [h] at this
          exact absurd this (by simp)
theorem f_ApartTrue (a b : List Spo) (seg x : Int) (ha : a.length ≤ 140737488351232) (hb : b.length ≤ 140737488351232) : F_law36_ApartTrue a b seg x = some true := by
  unfold F_law36_ApartTrue
  rw [f_anchor36, Option.bind_some]
  obtain ⟨ba, ea, ha'⟩ := f_may36 a ha
  obtain ⟨bb, eb, hb'⟩ := f_may36 b hb
  simp only [Bool.not_true, cond_false]
  rw [ea, eb, Option.bind_some]
  cases ba with
  | false => rfl
  | true =>
    cases bb with
    | false => rfl
    | true =>
      have oa := ha' rfl
      have ob := hb' rfl
      obtain ⟨b1, e1, h1⟩ := f_HasR a seg x (by omega)
      obtain ⟨b2, e2, h2⟩ := f_HasR b seg x (by omega)
      simp only [Bool.not_true, Bool.not_false, cond_true, cond_false, Option.bind_some]
      rw [f_refs36 a (by have := oa.1; omega), Option.bind_some, e1, Option.bind_some, f_refs36 b (by have := ob.1; omega)]
      cases b1 with
      | false => rfl
      | true =>
        simp only [Bool.not_true, Bool.not_false, cond_true, cond_false, Option.bind_some]
        rw [e2, Option.bind_some]
        cases b2 with
        | false => rfl
        | true =>
          obtain ⟨s, hs, s1, s2, s3⟩ := h1 rfl
          obtain ⟨t, ht, t1, t2, t3⟩ := h2 rfl
          have hm : ptS s t ∈ sharedL a b := by
            refine mem_shared.2 ⟨s, hs, t, ht, ?_, rfl⟩
            unfold shS
            simp only [Bool.and_eq_true, decide_eq_true_eq]
            exact ⟨⟨by omega, by omega⟩, by omega⟩
          have hpos := List.length_pos_of_mem hm
          have hlen : (sharedL a b).length ≤ 40000 := by
            have h1 := flat_len (gS_len b) a
            have h3 : a.length * b.length ≤ 200 * 200 := Nat.mul_le_mul oa.1 ob.1
            unfold sharedL
            omega
          have hne : (((sharedL a b).length : Int) == 0) = false := beq_false_of_ne (by omega)
          simp only [Bool.not_true, Bool.not_false, cond_true, cond_false, Option.bind_some]
          rw [f_Apart a b oa ob, Option.bind_some, hne, f_Shared a b oa ob]
          simp only [Bool.not_false, cond_true, Option.bind_some]
          rw [f_HasS (sharedL a b) seg x (by omega) (sorted_shared oa.2.2 ob.2.2) hm s1 (by unfold ptS; simp only; split <;> omega) (by unfold ptS; simp only; split <;> omega)]
          rfl
end Go.Proofs.Ytckghclpdfbigaa
