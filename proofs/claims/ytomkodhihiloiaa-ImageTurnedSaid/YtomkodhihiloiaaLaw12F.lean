/- Images: the laws' readings say that they are true. -/
import Derived.Test.YtomkodhihiloiaaImgN
import Derived.Test.YtomkodhihiloiaaGreat12F
set_option linter.unusedSimpArgs false
set_option linter.unusedVariables false
namespace Go.Proofs.Ytomkodhihiloiaa
open Go.RowKit
instance decGp : DecidableEq Gp := inferInstance
instance decGps : DecidableEq (List Gp) := inferInstance
instance decSg : DecidableEq Sg := inferInstance
instance decSgs : DecidableEq (List Sg) := inferInstance
instance decTk : DecidableEq (List Sg × List Gp) := fun a b => decidable_of_iff (a.1 = b.1 ∧ a.2 = b.2) (by rw [Prod.ext_iff])
theorem eqP2 (x y : Int × Int) : eqT (.agg (.pair (.int .i64) (.int .i64))) x y = decide (x = y) := by
  show (decide (x.1 = y.1) && decide (x.2 = y.2)) = decide (x = y)
  obtain ⟨a, b⟩ := x
  obtain ⟨c, d⟩ := y
  simp only [Prod.mk.injEq, Bool.decide_and]
theorem eqP5 (x y : Gp) : eqT (.agg (.pair (.int .i64) (.pair (.int .i64) (.pair (.int .i64) (.pair (.int .i64) (.int .i64)))))) x y = decide (x = y) := by
  show (decide (x.1 = y.1) && (decide (x.2.1 = y.2.1) && (decide (x.2.2.1 = y.2.2.1) && (decide (x.2.2.2.1 = y.2.2.2.1) && decide (x.2.2.2.2 = y.2.2.2.2))))) = decide (x = y)
  obtain ⟨a, b, c, d, e⟩ := x
  obtain ⟨a', b', c', d', e'⟩ := y
  simp only [Prod.mk.injEq, Bool.decide_and]
theorem list_eq {α : Type} [DecidableEq α] (d : α) {l m : List α} (h : l.length = m.length) : decide (l = m) = (List.range l.length).all fun i => decide (l.getD i d = m.getD i d) := by
  rw [Bool.eq_iff_iff, decide_eq_true_eq, List.all_eq_true]
  constructor
  · intro h i _
    rw [h]
    exact decide_eq_true rfl
  · intro hh
    refine List.ext_getElem h fun i h1 h2 => ?_
    have := of_decide_eq_true (hh i (List.mem_range.2 h1))
    rwa [getD_lt h1, getD_lt h2] at this
theorem neN (a b : Nat) : ((a : Int) != (b : Int)) = !decide (a = b) := by
  rw [ne_bif]
  congr 1
  rw [decide_eq_decide]
  omega
/-- One round of a search for what isn't the same. -/
theorem step_same {Y : Type} (x : Y) (i : Int) (c : Bool) : (bif !c then some (Sum.inr (Sum.inl x)) else some (Sum.inl i) : Option (Int ⊕ (Y ⊕ Unit))) = some (stepOut i (bif c then none else some (Sum.inl x))) := by cases c <;> rfl
def sameS (s u : Sg) : Bool := decide (s.1 = u.1) && decide (s.2.1.length = u.2.1.length) && decide (s.2.2.length = u.2.2.length) && (List.range s.2.1.length).all (fun i => decide (s.2.1.getD i (0, 0) = u.2.1.getD i (0, 0))) && (List.range s.2.2.length).all (fun i => decide (s.2.2.getD i 0 = u.2.2.getD i 0))
theorem sameS_eq (s u : Sg) : sameS s u = decide (s = u) := by
  obtain ⟨a, p, w⟩ := s
  obtain ⟨b, q, v⟩ := u
  unfold sameS
  simp only []
  by_cases h1 : p.length = q.length
  · by_cases h2 : w.length = v.length
    · rw [← list_eq ((0 : Int), (0 : Int)) h1, ← list_eq (0 : Int) h2, decide_eq_true h1, decide_eq_true h2]
      simp only [Prod.mk.injEq, Bool.decide_and, Bool.and_true]
      cases decide (a = b) <;> cases decide (p = q) <;> cases decide (w = v) <;> rfl
    · have : ¬ (a, p, w) = (b, q, v) := by rintro ⟨⟩; exact h2 rfl
      rw [decide_eq_false h2, decide_eq_false this]
      simp
  · have : ¬ (a, p, w) = (b, q, v) := by rintro ⟨⟩; exact h1 rfl
    rw [decide_eq_false h1, decide_eq_false this]
    simp
theorem f_same (a b : Tk) (ha : a.1.length ≤ big ∧ a.2.length ≤ big ∧ ∀ s ∈ a.1, s.2.1.length ≤ big ∧ s.2.2.length ≤ big) : F_law12_same a b = some (decide (a = b)) := by
  obtain ⟨h1, h2, h3⟩ := ha
  unfold big at h1 h2 h3
  unfold F_law12_same
  simp only []
  rw [neN, neN]
  by_cases e1 : a.1.length = b.1.length
  · by_cases e2 : a.2.length = b.2.length
    · rw [decide_eq_true e1, decide_eq_true e2]
      simp only [Bool.not_true, cond_false]
      rw [loop_find a.1.length (fun i => bif sameS (a.1.getD i sg0) (b.1.getD i sg0) then none else some (.inl false)) (.inr ())]
      · rw [all_find]
        have hl1 : (List.range a.1.length).all (fun i => sameS (a.1.getD i sg0) (b.1.getD i sg0)) = decide (a.1 = b.1) := by
          rw [list_eq sg0 e1]
          congr 1
          funext i
          rw [sameS_eq]
        rw [hl1]
        by_cases hq : a.1 = b.1
        · rw [decide_eq_true hq]
          simp only [cond_true, Option.bind_some]
          rw [loop_find a.2.length (fun i => bif decide (a.2.getD i gp0 = b.2.getD i gp0) then none else some (.inl false)) (.inr ())]
          · rw [all_find, ← list_eq gp0 e2]
            have : decide (a = b) = decide (a.2 = b.2) := by
              rw [decide_eq_decide]
              constructor
              · intro h; rw [h]
              · intro h; exact Prod.ext hq h
            rw [this]
            cases decide (a.2 = b.2) <;> rfl
          · intro i hi
            rw [decide_eq_true (show (i : Int) < (a.2.length : Int) by omega), decide_eq_true (show (i : Int) < (b.2.length : Int) by omega), decide_eq_true (show (0 : Int) ≤ (i : Int) by omega), Int.toNat_natCast, wrap_ok (n := (i : Int) + 1) (by omega)]
            simp only [cond_true, Bool.and_self, chk_yes]
            rw [eqP5]
            exact step_same false ((i : Int) + 1) _
          · rw [decide_eq_false (by omega)]
            rfl
        · rw [decide_eq_false hq]
          have : ¬ a = b := fun h => hq (by rw [h])
          rw [decide_eq_false this]
          rfl
      · intro i hi
        have hm : a.1.getD i sg0 ∈ a.1 := by rw [getD_lt hi]; exact List.getElem_mem hi
        have hw := h3 _ hm
        rw [decide_eq_true (show (i : Int) < (a.1.length : Int) by omega), decide_eq_true (show (i : Int) < (b.1.length : Int) by omega), decide_eq_true (show (0 : Int) ≤ (i : Int) by omega), Int.toNat_natCast, wrap_ok (n := (i : Int) + 1) (by omega)]
        simp only [cond_true, Bool.and_self, chk_yes]
        have hd1 : a.1.getD i ((0 : Int), ([], [])) = a.1.getD i sg0 := rfl
        have hd2 : b.1.getD i ((0 : Int), ([], [])) = b.1.getD i sg0 := rfl
        rw [hd1, hd2]
        generalize a.1.getD i sg0 = s at *
        generalize b.1.getD i sg0 = u at *
        unfold sameS
        rw [ne_bif, neN, neN]
        by_cases q1 : s.1 = u.1
        · by_cases q2 : s.2.1.length = u.2.1.length
          · by_cases q3 : s.2.2.length = u.2.2.length
            · rw [decide_eq_true q1, decide_eq_true q2, decide_eq_true q3]
              simp only [Bool.not_true, cond_false, Bool.true_and]
              rw [loop_find s.2.1.length (fun i => bif decide (s.2.1.getD i (0, 0) = u.2.1.getD i (0, 0)) then none else some (.inl false)) (.inr ())]
              · rw [all_find]
                cases (List.range s.2.1.length).all fun i => decide (s.2.1.getD i (0, 0) = u.2.1.getD i (0, 0)) with
                | false => rfl
                | true =>
                  simp only [cond_true, Option.bind_some, Bool.true_and]
                  rw [loop_find s.2.2.length (fun i => bif decide (s.2.2.getD i 0 = u.2.2.getD i 0) then none else some (.inl false)) (.inr ())]
                  · rw [all_find]
                    cases (List.range s.2.2.length).all fun i => decide (s.2.2.getD i 0 = u.2.2.getD i 0) <;> rfl
                  · intro j hj
                    rw [decide_eq_true (show (j : Int) < (s.2.2.length : Int) by omega), decide_eq_true (show (j : Int) < (u.2.2.length : Int) by omega), decide_eq_true (show (0 : Int) ≤ (j : Int) by omega), Int.toNat_natCast, wrap_ok (n := (j : Int) + 1) (by omega)]
                    simp only [cond_true, Bool.and_self, chk_yes]
                    rw [ne_bif]
                    exact step_same false ((j : Int) + 1) _
                  · rw [decide_eq_false (by omega)]
                    rfl
              · intro j hj
                rw [decide_eq_true (show (j : Int) < (s.2.1.length : Int) by omega), decide_eq_true (show (j : Int) < (u.2.1.length : Int) by omega), decide_eq_true (show (0 : Int) ≤ (j : Int) by omega), Int.toNat_natCast, wrap_ok (n := (j : Int) + 1) (by omega)]
                simp only [cond_true, Bool.and_self, chk_yes]
                rw [eqP2]
                exact step_same false ((j : Int) + 1) _
              · rw [decide_eq_false (by omega)]
                rfl
            · rw [decide_eq_false q3]
              cases decide (s.1 = u.1) <;> cases decide (s.2.1.length = u.2.1.length) <;> rfl
          · rw [decide_eq_false q2]
            cases decide (s.1 = u.1) <;> rfl
        · rw [decide_eq_false q1]
          rfl
      · rw [decide_eq_false (by omega)]
        rfl
    · have : ¬ a = b := fun h => e2 (by rw [h])
      rw [decide_eq_false e2, decide_eq_false this]
      cases decide (a.1.length = b.1.length) <;> rfl
  · have : ¬ a = b := fun h => e1 (by rw [h])
    rw [decide_eq_false e1, decide_eq_false this]
    rfl
theorem few_big {t : Tk} (h : Few t) : t.1.length ≤ big ∧ t.2.length ≤ big ∧ ∀ s ∈ t.1, s.2.1.length ≤ big ∧ s.2.2.length ≤ big := by
  obtain ⟨h1, h2, h3⟩ := h
  unfold big
  exact ⟨by omega, by omega, fun s hs => by have := h3 s hs; omega⟩
def tinyT : Tk := ([(1, [(0, 0)], [])], [])
theorem tiny_check : checkI tinyT = (0, 0) := by decide
theorem tiny_nums : Nums tinyT := by
  constructor
  · intro s hs
    simp only [tinyT, List.mem_singleton] at hs
    subst hs
    refine ⟨⟨by decide, by decide⟩, fun p hp => ?_⟩
    simp only [List.mem_singleton] at hp
    subst hp
    exact ⟨⟨by decide, by decide⟩, ⟨by decide, by decide⟩⟩
  · intro g hg
    simp only [tinyT] at hg
    cases hg
theorem tiny_len : (imgP tinyT).length = 30 := by
  unfold imgP bodyP segP pieceP tinyT magicL
  simp [putL_length]
theorem pack_ok {t : Tk} (h : (checkI t).1 = 0) : packI t = (sealP (imgP t), 0) := by
  unfold packI
  rw [if_neg (not_not_intro h)]
theorem pack_no {t : Tk} (h : (checkI t).1 ≠ 0) : packI t = ([], 51) := by
  unfold packI
  rw [if_pos h]
theorem f_anchor12 : F_law12_anchor () = some true := by
  unfold F_law12_anchor
  simp only []
  have h0 : (checkI tinyT).1 = 0 := by rw [tiny_check]
  have hf := check_few h0
  rw [show ((([((1 : Int), (([((0 : Int), (0 : Int))] : List (Int × Int)), ([] : List Int)))] : List Sg), ([] : List Gp)) : Tk) = tinyT from rfl]
  rw [f_pack tinyT (fun _ => (few_big hf).2.2), pack_ok h0, Option.bind_some, f_openI _ (sealP_by (imgP_by tinyT)), open_pack tinyT h0 tiny_nums, Option.bind_some]
  simp only [sealP_len, tiny_len]
  rw [f_same tinyT tinyT (few_big hf), decide_eq_true rfl]
  rfl
theorem byL_fits {b : List Int} (h : Fits (.slice (.int .u8)) b) : ByL b := by
  intro c hc
  have h2 := h.2 c hc
  have h3 : fits .u8 c = true := h2
  unfold fits at h3
  simp [IntKind.signed, IntKind.bits] at h3
  omega
theorem nums_fits {t : Tk} (h : Fits (.agg (.pair (.slice (.agg (.pair (.int .i64) (.pair (.slice (.agg (.pair (.int .i64) (.int .i64)))) (.slice (.int .i64)))))) (.slice (.agg (.pair (.int .i64) (.pair (.int .i64) (.pair (.int .i64) (.pair (.int .i64) (.int .i64))))))))) t) : Nums t :=
  ⟨fun s hs => ⟨i64_fits (h.1.2 s hs).1, fun p hp => ⟨i64_fits ((h.1.2 s hs).2.1.2 p hp).1, i64_fits ((h.1.2 s hs).2.1.2 p hp).2⟩⟩,
   fun g hg => ⟨i64_fits (h.2.2 g hg).1, i64_fits (h.2.2 g hg).2.2.1, i64_fits (h.2.2 g hg).2.2.2.1, i64_fits (h.2.2 g hg).2.2.2.2⟩⟩
end Go.Proofs.Ytomkodhihiloiaa
