/- Images: what is put together, on both sides. -/
import Derived.Test.YtomkodhihiloiaaImgK
set_option linter.unusedSimpArgs false
set_option linter.unusedVariables false
namespace Go.Proofs.Ytomkodhihiloiaa
open Go.RowKit
def pieceP (p : Int × Int) : List Int := putL p.1 8 ++ putL p.2 4
def segP (s : Sg) : List Int := putL s.1 8 ++ putL (s.2.1.length : Int) 1 ++ s.2.1.flatMap pieceP ++ putL (s.2.2.length : Int) 1 ++ s.2.2.flatMap (putL · 1)
def grpP (g : Gp) : List Int := putL g.1 2 ++ putL g.2.1 1 ++ putL g.2.2.1 8 ++ putL g.2.2.2.1 4 ++ putL g.2.2.2.2 4
def bodyP (t : Tk) : List Int := putL (t.1.length : Int) 2 ++ t.1.flatMap segP ++ putL (t.2.length : Int) 2 ++ t.2.flatMap grpP
/-- The image ahead of its sum. -/
def imgP (t : Tk) : List Int := magicL ++ bodyP t
/-- With its sum. -/
def sealP (b : List Int) : List Int := b ++ [crcI b / 256, crcI b % 256]
def packI (t : Tk) : List Int × Int := if (checkI t).1 ≠ 0 then ([], 51) else (sealP (imgP t), 0)
theorem crcI_range (b : List Int) : 0 ≤ crcI b ∧ crcI b ≤ 65535 := by
  have := (crcS b b.length).isLt
  unfold crcI
  omega
theorem sealP_by {b : List Int} (hb : ByL b) : ByL (sealP b) := by
  have := crcI_range b
  refine byL_app hb fun c hc => ?_
  simp at hc
  omega
theorem flat_by {α : Type} {f : α → List Int} (hf : ∀ a, ByL (f a)) (l : List α) : ByL (l.flatMap f) := by
  intro c hc
  obtain ⟨a, _, h⟩ := List.mem_flatMap.1 hc
  exact hf a c h
theorem pieceP_by (p : Int × Int) : ByL (pieceP p) := byL_app (putL_by _ _) (putL_by _ _)
theorem segP_by (s : Sg) : ByL (segP s) := byL_app (byL_app (byL_app (byL_app (putL_by _ _) (putL_by _ _)) (flat_by pieceP_by _)) (putL_by _ _)) (flat_by (fun n => putL_by 1 n) _)
theorem grpP_by (g : Gp) : ByL (grpP g) := byL_app (byL_app (byL_app (byL_app (putL_by _ _) (putL_by _ _)) (putL_by _ _)) (putL_by _ _)) (putL_by _ _)
theorem bodyP_by (t : Tk) : ByL (bodyP t) := byL_app (byL_app (byL_app (putL_by _ _) (flat_by segP_by _)) (putL_by _ _)) (flat_by grpP_by _)
theorem imgP_by (t : Tk) : ByL (imgP t) := byL_app magic_by (bodyP_by t)
theorem flat_len {α : Type} {f : α → List Int} (n : Nat) : ∀ (l : List α), (∀ a ∈ l, (f a).length ≤ n) → (l.flatMap f).length ≤ l.length * n
  | [], _ => by simp
  | a :: l, h => by
    rw [List.flatMap_cons, List.length_append, List.length_cons, Nat.succ_mul]
    have h1 := h a (by simp)
    have h2 := flat_len n l fun b hb => h b (by simp [hb])
    omega
theorem pieceP_len (p : Int × Int) : (pieceP p).length = 12 := by simp [pieceP, putL_length]
theorem grpP_len (g : Gp) : (grpP g).length = 19 := by simp [grpP, putL_length]
theorem segP_len (s : Sg) (h1 : s.2.1.length ≤ 64) (h2 : s.2.2.length ≤ 2) : (segP s).length ≤ 780 := by
  have e1 := flat_len (f := pieceP) 12 s.2.1 fun p _ => by rw [pieceP_len]; exact Nat.le_refl _
  have e2 := flat_len (f := (putL · 1)) 1 s.2.2 fun p _ => by rw [putL_length]; exact Nat.le_refl _
  unfold segP
  simp only [List.length_append, putL_length]
  omega
/-- A track with few rows. -/
def Few (t : Tk) : Prop := t.1.length ≤ 200 ∧ t.2.length ≤ 400 ∧ ∀ s ∈ t.1, s.2.1.length ≤ 64 ∧ s.2.2.length ≤ 2
theorem flat_take_len {α : Type} {f : α → List Int} (n k : Nat) (l : List α) (h : ∀ a ∈ l, (f a).length ≤ n) : ((l.take k).flatMap f).length ≤ l.length * n := by
  have h1 := flat_len n (l.take k) fun a ha => h a (List.mem_of_mem_take ha)
  have h2 : (l.take k).length * n ≤ l.length * n := Nat.mul_le_mul_right n (by rw [List.length_take]; omega)
  omega
theorem imgP_len {t : Tk} (h : Few t) : (imgP t).length ≤ 200000 := by
  obtain ⟨h1, h2, h3⟩ := h
  have e1 := flat_len (f := segP) 780 t.1 fun s hs => segP_len s (h3 s hs).1 (h3 s hs).2
  have e2 := flat_len (f := grpP) 19 t.2 fun g _ => by rw [grpP_len]; exact Nat.le_refl _
  unfold imgP bodyP magicL
  simp only [List.length_append, putL_length, List.length_cons, List.length_nil]
  omega
theorem flat_next {α : Type} (f : α → List Int) {l : List α} {k : Nat} (d : α) (h : k < l.length) : (l.take (k + 1)).flatMap f = (l.take k).flatMap f ++ f (l.getD k d) := by
  rw [← take_succ_getD (d := d) h, List.flatMap_append]
  simp
theorem check_ok12 {t : Tk} (h : (checkI t).1 = 0) : 1 ≤ t.1.length ∧ t.1.length ≤ 200 ∧ t.2.length ≤ 400 ∧ (∀ i, i < t.1.length → segB t.1.length (t.1.getD i sg0) = true) ∧ ∀ i, i < t.2.length → grpB t i (t.2.getD i gp0) = true := by
  unfold checkI at h
  by_cases h1 : t.1.length = 0 ∨ 200 < t.1.length ∨ 400 < t.2.length
  · rw [if_pos h1] at h; exact absurd h (by decide)
  · rw [if_neg h1] at h
    cases h2 : firstN (fun i => segB t.1.length (t.1.getD i sg0)) t.1.length with
    | some i => rw [h2] at h; have h' : (11 : Int) = 0 := h; omega
    | none =>
      rw [h2] at h
      cases h3 : firstN (fun i => grpB t i (t.2.getD i gp0)) t.2.length with
      | some i => rw [h3] at h; have h' : (16 : Int) = 0 := h; omega
      | none => exact ⟨by omega, by omega, by omega, firstN_none.1 h2, firstN_none.1 h3⟩
theorem check_segs {t : Tk} (h : (checkI t).1 = 0) : ∀ s ∈ t.1, segB t.1.length s = true := by
  intro s hs
  obtain ⟨i, hi, rfl⟩ := List.mem_iff_getElem.1 hs
  have := (check_ok12 h).2.2.2.1 i hi
  rwa [getD_lt hi] at this
theorem check_grps {t : Tk} (h : (checkI t).1 = 0) : ∀ g ∈ t.2, ∃ i, grpB t i g = true := by
  intro s hs
  obtain ⟨i, hi, rfl⟩ := List.mem_iff_getElem.1 hs
  have := (check_ok12 h).2.2.2.2 i hi
  rw [getD_lt hi] at this
  exact ⟨i, this⟩
theorem check_few {t : Tk} (h : (checkI t).1 = 0) : Few t := by
  obtain ⟨_, h1, h2, _, _⟩ := check_ok12 h
  refine ⟨h1, h2, fun s hs => ?_⟩
  have := check_segs h s hs
  unfold segB gradeB at this
  simp only [Bool.and_eq_true, decide_eq_true_eq] at this
  omega
/-- A loop that puts one after the other. -/
theorem f_pack (t : Tk) (hbig : t.1.length ≤ 200 → ∀ s ∈ t.1, s.2.1.length ≤ big ∧ s.2.2.length ≤ big) : F_image_Pack t = some (packI t) := by
  unfold F_image_Pack packI
  rw [f_Check t hbig, Option.bind_some]
  by_cases h0 : (checkI t).1 = 0
  · obtain ⟨w1, w2, w3⟩ := check_few h0
    rw [if_neg (not_not_intro h0), ne_bif, decide_eq_true h0]
    simp only [Bool.not_true, cond_false]
    have hm : ([(79 : Int), (68 : Int), (79 : Int), (49 : Int)] : List Int) = magicL := rfl
    have lseg := fun k => flat_take_len (f := segP) 780 k t.1 fun s hs => segP_len s (w3 s hs).1 (w3 s hs).2
    have lgrp := fun k => flat_take_len (f := grpP) 19 k t.2 fun g _ => by rw [grpP_len]; exact Nat.le_refl _
    rw [hm, show (2 : Int) = ((2 : Nat) : Int) from rfl, f_put magicL _ 2 (by decide) (by decide), Option.bind_some]
    have hlm : magicL.length = 4 := rfl
    obtain ⟨A, hA⟩ : ∃ A, magicL ++ putL (t.1.length : Int) 2 = A := ⟨_, rfl⟩
    have hAl : A.length = 6 := by rw [← hA, List.length_append, putL_length]; rfl
    rw [hA, show (((0 : Int), A) : Int × List Int) = (((0 : Nat) : Int), A ++ (t.1.take 0).flatMap segP) by simp]
    rw [loop_run (n := t.1.length) (st := fun k => ((k : Int), A ++ (t.1.take k).flatMap segP)) (x := A ++ t.1.flatMap segP)]
    · have lall := lseg t.1.length
      rw [List.take_length] at lall
      simp only [Option.bind_some]
      rw [f_put _ _ 2 (by decide) (by rw [List.length_append]; omega), Option.bind_some]
      obtain ⟨C, hC⟩ : ∃ C, A ++ t.1.flatMap segP ++ putL (t.2.length : Int) 2 = C := ⟨_, rfl⟩
      have hCl : C.length ≤ 160000 := by rw [← hC, List.length_append, List.length_append, putL_length]; omega
      rw [hC, show (((0 : Int), C) : Int × List Int) = (((0 : Nat) : Int), C ++ (t.2.take 0).flatMap grpP) by simp]
      rw [loop_run (n := t.2.length) (st := fun k => ((k : Int), C ++ (t.2.take k).flatMap grpP)) (x := C ++ t.2.flatMap grpP)]
      · simp only [Option.bind_some]
        have hi : C ++ t.2.flatMap grpP = imgP t := by
          rw [← hC, ← hA]; unfold imgP bodyP; simp only [List.append_assoc]
        have hby := imgP_by t
        have hil := imgP_len ⟨w1, w2, w3⟩
        have hi4 : 4 ≤ (imgP t).length := by unfold imgP magicL; simp
        rw [hi]
        generalize imgP t = b at *
        unfold F_crc_Seal
        rw [f_Sum b (byL_bytes hby) (by omega), Option.bind_some]
        have hcr := crcI_range b
        simp only []
        rw [wrap_ok (n := (b.length : Int) + 2) (by omega), decide_eq_true (show (0 : Int) ≤ (b.length : Int) by omega), decide_eq_true (show (b.length : Int) ≤ (b.length : Int) + 2 by omega), decide_eq_true (show ((b.length : Int) + 2) * 1 ≤ 140737488355328 by omega), decide_eq_true (show ((b.length : Int) + 2) ≤ 140737488355328 by omega), Int.toNat_natCast, List.length_replicate, decide_eq_true (show 0 < b.length by omega), List.take_length, List.drop_eq_nil_of_le (by rw [List.length_replicate]; exact Nat.le_refl _), List.append_nil]
        simp only [Bool.and_self, chk_yes]
        rw [decide_eq_true (by simp; omega)]
        simp only [chk_yes, Option.bind_some]
        unfold sealP
        have e1 : IntKind.u8.wrap ((crcI b).fdiv (2 ^ 8)) = crcI b / 256 := by
          rw [Int.fdiv_eq_ediv_of_nonneg _ (by decide)]
          simp [IntKind.wrap, IntKind.signed, IntKind.bits]
          omega
        have e2 : IntKind.u8.wrap (crcI b) = crcI b % 256 := by simp [IntKind.wrap, IntKind.signed, IntKind.bits]
        rw [e1, e2]
        first | rfl | skip
      · intro k hk
        simp only []
        have hlk := lgrp k
        rw [decide_eq_true (show (k : Int) < (t.2.length : Int) by omega), decide_eq_true (show (0 : Int) ≤ (k : Int) by omega), Int.toNat_natCast, wrap_ok (n := (k : Int) + 1) (by omega)]
        simp only [cond_true, Bool.and_self, chk_yes]
        have hg : t.2.getD k ((0 : Int), ((0 : Int), ((0 : Int), ((0 : Int), (0 : Int))))) = t.2.getD k gp0 := rfl
        rw [hg, flat_next grpP gp0 hk]
        generalize t.2.getD k gp0 = g
        generalize (t.2.take k).flatMap grpP = G at *
        rw [f_put _ _ 2 (by decide) (by simp only [List.length_append]; omega), Option.bind_some]
        rw [show (1 : Int) = ((1 : Nat) : Int) from rfl, f_put _ _ 1 (by decide) (by simp only [List.length_append, putL_length]; omega), Option.bind_some]
        rw [show (8 : Int) = ((8 : Nat) : Int) from rfl, f_put _ _ 8 (by decide) (by simp only [List.length_append, putL_length]; omega), Option.bind_some]
        rw [show (4 : Int) = ((4 : Nat) : Int) from rfl, f_put _ _ 4 (by decide) (by simp only [List.length_append, putL_length]; omega), Option.bind_some]
        rw [f_put _ _ 4 (by decide) (by simp only [List.length_append, putL_length]; omega), Option.bind_some]
        unfold grpP
        simp only [List.append_assoc]
        rfl
      · simp only []
        rw [decide_eq_false (by omega), List.take_length]
        rfl
    · intro k hk
      simp only []
      have hlk := lseg k
      rw [decide_eq_true (show (k : Int) < (t.1.length : Int) by omega), decide_eq_true (show (0 : Int) ≤ (k : Int) by omega), Int.toNat_natCast, wrap_ok (n := (k : Int) + 1) (by omega)]
      simp only [cond_true, Bool.and_self, chk_yes]
      have hg : t.1.getD k ((0 : Int), ([], [])) = t.1.getD k sg0 := rfl
      have hmem : t.1.getD k sg0 ∈ t.1 := by rw [getD_lt hk]; exact List.getElem_mem hk
      have hw := w3 _ hmem
      rw [hg, flat_next segP sg0 hk]
      generalize t.1.getD k sg0 = s at *
      generalize (t.1.take k).flatMap segP = G at *
      have lp := fun j => flat_take_len (f := pieceP) 12 j s.2.1 fun p _ => by rw [pieceP_len]; exact Nat.le_refl _
      have ln := fun j => flat_take_len (f := (putL · 1)) 1 j s.2.2 fun p _ => by rw [putL_length]; exact Nat.le_refl _
      rw [show (8 : Int) = ((8 : Nat) : Int) from rfl, f_put _ _ 8 (by decide) (by simp only [List.length_append]; omega), Option.bind_some]
      rw [show (1 : Int) = ((1 : Nat) : Int) from rfl, f_put _ _ 1 (by decide) (by simp only [List.length_append, putL_length]; omega), Option.bind_some]
      obtain ⟨D, hD⟩ : ∃ D, A ++ G ++ putL s.1 8 ++ putL (s.2.1.length : Int) 1 = D := ⟨_, rfl⟩
      have hDl : D.length ≤ 157000 := by rw [← hD]; simp only [List.length_append, putL_length]; omega
      rw [hD, show (((0 : Int), D) : Int × List Int) = (((0 : Nat) : Int), D ++ (s.2.1.take 0).flatMap pieceP) by simp]
      rw [loop_run (n := s.2.1.length) (st := fun k => ((k : Int), D ++ (s.2.1.take k).flatMap pieceP)) (x := D ++ s.2.1.flatMap pieceP)]
      · have lall := lp s.2.1.length
        rw [List.take_length] at lall
        simp only [Option.bind_some]
        rw [f_put _ _ 1 (by decide) (by rw [List.length_append]; omega), Option.bind_some]
        obtain ⟨E, hE⟩ : ∃ E, D ++ s.2.1.flatMap pieceP ++ putL (s.2.2.length : Int) 1 = E := ⟨_, rfl⟩
        have hEl : E.length ≤ 160000 := by rw [← hE, List.length_append, List.length_append, putL_length]; omega
        rw [hE, show ((E, (0 : Int)) : List Int × Int) = (E ++ (s.2.2.take 0).flatMap (putL · 1), ((0 : Nat) : Int)) by simp]
        rw [loop_run (n := s.2.2.length) (st := fun k => (E ++ (s.2.2.take k).flatMap (putL · 1), (k : Int))) (x := E ++ s.2.2.flatMap (putL · 1))]
        · simp only [Option.bind_some]
          rw [← hE, ← hD]
          unfold segP
          simp only [List.append_assoc]
          rfl
        · intro j hj
          simp only []
          have hlj := ln j
          rw [decide_eq_true (show (j : Int) < (s.2.2.length : Int) by omega), decide_eq_true (show (0 : Int) ≤ (j : Int) by omega), Int.toNat_natCast, wrap_ok (n := (j : Int) + ((1 : Nat) : Int)) (by omega)]
          simp only [cond_true, Bool.and_self, chk_yes]
          rw [flat_next (putL · 1) 0 hj, f_put _ _ 1 (by decide) (by simp only [List.length_append]; omega), Option.bind_some, List.append_assoc]
          rfl
        · simp only []
          rw [decide_eq_false (by omega), List.take_length]
          rfl
      · intro j hj
        simp only []
        have hlj := lp j
        rw [decide_eq_true (show (j : Int) < (s.2.1.length : Int) by omega), decide_eq_true (show (0 : Int) ≤ (j : Int) by omega), Int.toNat_natCast, wrap_ok (n := (j : Int) + ((1 : Nat) : Int)) (by omega)]
        simp only [cond_true, Bool.and_self, chk_yes]
        rw [flat_next pieceP ((0 : Int), (0 : Int)) hj, f_put _ _ 8 (by decide) (by simp only [List.length_append]; omega), Option.bind_some]
        rw [show (4 : Int) = ((4 : Nat) : Int) from rfl, f_put _ _ 4 (by decide) (by simp only [List.length_append, putL_length]; omega), Option.bind_some]
        unfold pieceP
        simp only [List.append_assoc]
        rfl
      · simp only []
        rw [decide_eq_false (by omega), List.take_length]
        rfl
    · simp only []
      rw [decide_eq_false (by omega), List.take_length]
      rfl
  · rw [if_pos h0, ne_bif, decide_eq_false h0]
    rfl
end Go.Proofs.Ytomkodhihiloiaa
