/- Images: what the document puts together. -/
import Derived.Test.YtdiebciejcmmhaaImgL
set_option linter.unusedSimpArgs false
set_option linter.unusedVariables false
namespace Go.Proofs.Ytdiebciejcmmhaa
open Go.RowKit
theorem rep_set : ∀ (k : Nat) (X : List Int) (a : Int), (List.replicate (k + 1) (0 : Int) ++ X).set k a = List.replicate k 0 ++ a :: X
  | 0, X, a => rfl
  | k + 1, X, a => by
    rw [List.replicate_succ, List.cons_append, List.set_cons_succ, rep_set k X a]
    rfl
theorem putL_drop (v : Int) (n j : Nat) (h : j < n) : (putL v n).drop j = v / 256 ^ (n - 1 - j) % 256 :: (putL v n).drop (j + 1) := by
  have hl : j < (putL v n).length := by rw [putL_length]; exact h
  rw [List.drop_eq_getElem_cons hl]
  simp [putL]
theorem neg_div (v m : Int) (hm : 0 < m) : (-1 - v) / m = -1 - v / m := by
  have h1 := Int.emod_nonneg v (Int.ne_of_gt hm)
  have h2 := Int.emod_lt_of_pos v hm
  have h3 := Int.mul_ediv_add_emod v m
  have e : -1 - v = m * (-1 - v / m) + (m - 1 - v % m) := by rw [Int.mul_sub]; omega
  rw [e, Int.add_comm, Int.add_mul_ediv_left _ _ (Int.ne_of_gt hm), Int.ediv_eq_zero_of_lt (by omega) (by omega), Int.zero_add]
theorem div_step (v : Int) (k : Nat) : v / 256 ^ k / 256 = v / 256 ^ (k + 1) := by
  rw [Int.pow_succ, Int.ediv_ediv_of_nonneg (Int.le_of_lt (Int.pow_pos (by decide)))]
theorem div_le_self {w m : Int} (hw : 0 ≤ w) (hm : 0 < m) : 0 ≤ w / m ∧ w / m ≤ w :=
  ⟨Int.ediv_nonneg hw (by omega), Int.ediv_le_self m hw⟩
theorem f_refPut (v : Int) (hv : I64 v) (n : Nat) (hn : n ≤ 8) : F_ref12_Put v (n : Int) = some (putL v n) := by
  obtain ⟨v1, v2⟩ := hv
  unfold F_ref12_Put
  rw [decide_eq_true (show (0 : Int) ≤ (n : Int) by omega), decide_eq_true (show (n : Int) ≤ (n : Int) by omega), decide_eq_true (show (n : Int) * 1 ≤ 140737488355328 by omega), decide_eq_true (show (n : Int) ≤ 140737488355328 by omega)]
  simp only [Bool.and_self, chk_yes]
  rw [wrap_ok (n := (n : Int) - 1) (by omega), Int.toNat_natCast]
  have hend : List.replicate (n - n) (0 : Int) ++ (putL v n).drop (n - n) = putL v n := by simp
  by_cases hneg : v < 0
  · rw [decide_eq_true hneg, wrap_ok (n := -1 - v) (by omega)]
    simp only [cond_true]
    obtain ⟨w, hw⟩ : ∃ w, -1 - v = w := ⟨_, rfl⟩
    have hw0 : 0 ≤ w := by omega
    have hw1 : w ≤ 9223372036854775807 := by omega
    rw [hw, show (((n : Int) - 1, List.replicate n (0 : Int), w) : Int × List Int × Int) = ((n : Int) - 1 - ((0 : Nat) : Int), List.replicate (n - 0) (0 : Int) ++ (putL v n).drop (n - 0), w / 256 ^ 0) by
      simp [putL_length]]
    rw [loop_run (n := n) (st := fun k => ((n : Int) - 1 - (k : Int), List.replicate (n - k) (0 : Int) ++ (putL v n).drop (n - k), w / 256 ^ k)) (x := List.replicate (n - n) (0 : Int) ++ (putL v n).drop (n - n))]
    · rw [hend]; rfl
    · intro k hk
      simp only []
      have hp : (0 : Int) < 256 ^ k := Int.pow_pos (by decide)
      have hq := div_le_self hw0 hp
      have hcell : 255 - w / 256 ^ k % 256 = v / 256 ^ k % 256 := by
        rw [← hw, neg_div v _ hp]
        omega
      rw [decide_eq_true (show (0 : Int) ≤ (n : Int) - 1 - (k : Int) by omega)]
      rw [Int.tmod_eq_emod_of_nonneg hq.1, Int.tdiv_eq_ediv_of_nonneg hq.1, hcell, div_step]
      have hq2 := div_le_self hw0 (show (0 : Int) < 256 ^ (k + 1) from Int.pow_pos (by decide))
      rw [wrap_ok (n := v / 256 ^ k % 256) (by omega), wrap_ok (n := w / 256 ^ (k + 1)) (by omega), wrap_ok (n := (n : Int) - 1 - (k : Int) - 1) (by omega)]
      have hu : IntKind.u8.wrap (v / 256 ^ k % 256) = v / 256 ^ k % 256 := by
        simp [IntKind.wrap, IntKind.signed, IntKind.bits]
      rw [hu]
      have hll : (List.replicate (n - k) (0 : Int) ++ (putL v n).drop (n - k)).length = n := by
        rw [List.length_append, List.length_replicate, List.length_drop, putL_length]; omega
      rw [hll, decide_eq_true (show (n : Int) - 1 - (k : Int) < (n : Int) by omega), show ((n : Int) - 1 - (k : Int)).toNat = n - 1 - k by omega]
      simp only [cond_true, Bool.and_self, chk_yes]
      rw [show n - k = (n - 1 - k) + 1 by omega, rep_set, show n - (k + 1) = n - 1 - k by omega, putL_drop v n (n - 1 - k) (by omega), show n - 1 - (n - 1 - k) = k by omega]
      refine congrArg some (congrArg Sum.inl ?_)
      simp only [Prod.mk.injEq, and_true]
      omega
    · simp only []
      rw [decide_eq_false (by omega)]
      rfl
  · rw [decide_eq_false hneg]
    simp only [cond_false]
    have hw0 : 0 ≤ v := by omega
    rw [show ((List.replicate n (0 : Int), (n : Int) - 1, v) : List Int × Int × Int) = (List.replicate (n - 0) (0 : Int) ++ (putL v n).drop (n - 0), (n : Int) - 1 - ((0 : Nat) : Int), v / 256 ^ 0) by
      simp [putL_length]]
    rw [loop_run (n := n) (st := fun k => (List.replicate (n - k) (0 : Int) ++ (putL v n).drop (n - k), (n : Int) - 1 - (k : Int), v / 256 ^ k)) (x := List.replicate (n - n) (0 : Int) ++ (putL v n).drop (n - n))]
    · rw [hend]; rfl
    · intro k hk
      simp only []
      have hp : (0 : Int) < 256 ^ k := Int.pow_pos (by decide)
      have hq := div_le_self hw0 hp
      rw [decide_eq_true (show (0 : Int) ≤ (n : Int) - 1 - (k : Int) by omega)]
      rw [Int.tmod_eq_emod_of_nonneg hq.1, Int.tdiv_eq_ediv_of_nonneg hq.1, div_step]
      have hq2 := div_le_self hw0 (show (0 : Int) < 256 ^ (k + 1) from Int.pow_pos (by decide))
      rw [wrap_ok (n := v / 256 ^ (k + 1)) (by omega), wrap_ok (n := (n : Int) - 1 - (k : Int) - 1) (by omega)]
      have hu : IntKind.u8.wrap (v / 256 ^ k % 256) = v / 256 ^ k % 256 := by
        simp [IntKind.wrap, IntKind.signed, IntKind.bits]
      rw [hu]
      have hll : (List.replicate (n - k) (0 : Int) ++ (putL v n).drop (n - k)).length = n := by
        rw [List.length_append, List.length_replicate, List.length_drop, putL_length]; omega
      rw [hll, decide_eq_true (show (n : Int) - 1 - (k : Int) < (n : Int) by omega), show ((n : Int) - 1 - (k : Int)).toNat = n - 1 - k by omega]
      simp only [cond_true, Bool.and_self, chk_yes]
      rw [show n - k = (n - 1 - k) + 1 by omega, rep_set, show n - (k + 1) = n - 1 - k by omega, putL_drop v n (n - 1 - k) (by omega), show n - 1 - (n - 1 - k) = k by omega]
      refine congrArg some (congrArg Sum.inl ?_)
      simp only [Prod.mk.injEq, and_true, true_and]
      omega
    · simp only []
      rw [decide_eq_false (by omega)]
      rfl
theorem putL_one (v : Int) : putL v 1 = [v % 256] := by simp [putL]
theorem wrap_u8 (v : Int) : [IntKind.u8.wrap v] = putL v 1 := by
  rw [putL_one]
  simp [IntKind.wrap, IntKind.signed, IntKind.bits]
/-- All numbers of a track. -/
def Nums (t : Tk) : Prop := (∀ s ∈ t.1, I64 s.1 ∧ ∀ p ∈ s.2.1, I64 p.1 ∧ I64 p.2) ∧ ∀ g ∈ t.2, I64 g.1 ∧ I64 g.2.2.1 ∧ I64 g.2.2.2.1 ∧ I64 g.2.2.2.2
theorem f_refPack (t : Tk) (hf : Few t) (hN : Nums t) : F_ref12_Pack t = some (sealP (imgP t)) := by
  obtain ⟨w1, w2, w3⟩ := hf
  obtain ⟨n1, n2⟩ := hN
  have hf : Few t := ⟨w1, w2, w3⟩
  unfold F_ref12_Pack
  have hm : ([(79 : Int), (68 : Int), (79 : Int), (49 : Int)] : List Int) = magicL := rfl
  have lseg := fun k => flat_take_len (f := segP) 780 k t.1 fun s hs => segP_len s (w3 s hs).1 (w3 s hs).2
  have lgrp := fun k => flat_take_len (f := grpP) 19 k t.2 fun g _ => by rw [grpP_len]; exact Nat.le_refl _
  have hlm : magicL.length = 4 := rfl
  rw [hm, show (2 : Int) = ((2 : Nat) : Int) from rfl, f_refPut _ ⟨by omega, by omega⟩ 2 (by decide), Option.bind_some, putL_length, hlm, decide_eq_true (show (4 + 2) * 1 ≤ 140737488355328 by decide)]
  simp only [chk_yes]
  obtain ⟨A, hA⟩ : ∃ A, magicL ++ putL (t.1.length : Int) 2 = A := ⟨_, rfl⟩
  have hAl : A.length = 6 := by rw [← hA, List.length_append, putL_length]; rfl
  rw [hA, show (((0 : Int), A) : Int × List Int) = (((0 : Nat) : Int), A ++ (t.1.take 0).flatMap segP) by simp]
  rw [loop_run (n := t.1.length) (st := fun k => ((k : Int), A ++ (t.1.take k).flatMap segP)) (x := A ++ t.1.flatMap segP)]
  · have lall := lseg t.1.length
    rw [List.take_length] at lall
    simp only [Option.bind_some]
    rw [f_refPut _ ⟨by omega, by omega⟩ 2 (by decide), Option.bind_some, putL_length, decide_eq_true (by rw [List.length_append]; omega)]
    simp only [chk_yes]
    obtain ⟨C, hC⟩ : ∃ C, A ++ t.1.flatMap segP ++ putL (t.2.length : Int) 2 = C := ⟨_, rfl⟩
    have hCl : C.length ≤ 160000 := by rw [← hC, List.length_append, List.length_append, putL_length]; omega
    rw [hC, show (((0 : Int), C) : Int × List Int) = (((0 : Nat) : Int), C ++ (t.2.take 0).flatMap grpP) by simp]
    rw [loop_run (n := t.2.length) (st := fun k => ((k : Int), C ++ (t.2.take k).flatMap grpP)) (x := C ++ t.2.flatMap grpP)]
    · simp only [Option.bind_some]
      have hi : C ++ t.2.flatMap grpP = imgP t := by
        rw [← hC, ← hA]; unfold imgP bodyP; simp only [List.append_assoc]
      have hby := imgP_by t
      have hil := imgP_len hf
      rw [hi]
      generalize imgP t = b at *
      rw [f_refSum b (byL_bytes hby) (by omega), Option.bind_some]
      have hcr := crcI_range b
      rw [Int.tdiv_eq_ediv_of_nonneg hcr.1, Int.tmod_eq_emod_of_nonneg hcr.1, wrap_ok (n := crcI b / 256) (by omega)]
      have e1 : IntKind.u8.wrap (crcI b / 256) = crcI b / 256 := by
        simp [IntKind.wrap, IntKind.signed, IntKind.bits]
        omega
      have e2 : IntKind.u8.wrap (crcI b % 256) = crcI b % 256 := by simp [IntKind.wrap, IntKind.signed, IntKind.bits]
      rw [e1, e2, decide_eq_true (by simp; omega)]
      rfl
    · intro k hk
      simp only []
      have hlk := lgrp k
      rw [decide_eq_true (show (k : Int) < (t.2.length : Int) by omega), decide_eq_true (show (0 : Int) ≤ (k : Int) by omega), Int.toNat_natCast, wrap_ok (n := (k : Int) + 1) (by omega)]
      simp only [cond_true, Bool.and_self, chk_yes]
      have hg : t.2.getD k ((0 : Int), ((0 : Int), ((0 : Int), ((0 : Int), (0 : Int))))) = t.2.getD k gp0 := rfl
      have hmem : t.2.getD k gp0 ∈ t.2 := by rw [getD_lt hk]; exact List.getElem_mem hk
      have hn := n2 _ hmem
      rw [hg, flat_next grpP gp0 hk]
      generalize t.2.getD k gp0 = g at *
      generalize (t.2.take k).flatMap grpP = G at *
      have hG : (C ++ G).length ≤ 200000 := by rw [List.length_append]; omega
      rw [← List.append_assoc]
      generalize C ++ G = H at *
      rw [f_refPut _ hn.1 2 (by decide), Option.bind_some, putL_length, decide_eq_true (by omega)]
      simp only [chk_yes]
      rw [wrap_u8, putL_length, decide_eq_true (by simp only [List.length_append, putL_length]; omega)]
      simp only [chk_yes]
      rw [show (8 : Int) = ((8 : Nat) : Int) from rfl, f_refPut _ hn.2.1 8 (by decide), Option.bind_some, putL_length, decide_eq_true (by simp only [List.length_append, putL_length]; omega)]
      simp only [chk_yes]
      rw [show (4 : Int) = ((4 : Nat) : Int) from rfl, f_refPut _ hn.2.2.1 4 (by decide), Option.bind_some, putL_length, decide_eq_true (by simp only [List.length_append, putL_length]; omega)]
      simp only [chk_yes]
      rw [f_refPut _ hn.2.2.2 4 (by decide), Option.bind_some, putL_length, decide_eq_true (by simp only [List.length_append, putL_length]; omega)]
      simp only [chk_yes]
      unfold grpP
      simp only [List.append_assoc]
      rfl
    · simp only []
      rw [decide_eq_false (by omega), List.take_length]
      rfl
  · intro k hk
    simp only []
    have hlk := lseg k
    rw [decide_eq_true (show (k : Int) < (t.1.length : Int) by omega), decide_eq_true (show (0 : Int) ≤ (k : Int) by omega), Int.toNat_natCast, wrap_ok (n := (k : Int) + 1) (by omega)]
    simp only [cond_true, Bool.and_self, chk_yes]
    have hg : t.1.getD k ((0 : Int), ([], [])) = t.1.getD k sg0 := rfl
    have hmem : t.1.getD k sg0 ∈ t.1 := by rw [getD_lt hk]; exact List.getElem_mem hk
    have hw := w3 _ hmem
    have hn := n1 _ hmem
    rw [hg, flat_next segP sg0 hk]
    generalize t.1.getD k sg0 = s at *
    generalize (t.1.take k).flatMap segP = G at *
    have hG : (A ++ G).length ≤ 156100 := by rw [List.length_append]; omega
    rw [← List.append_assoc]
    generalize A ++ G = H at *
    have lp := fun j => flat_take_len (f := pieceP) 12 j s.2.1 fun p _ => by rw [pieceP_len]; exact Nat.le_refl _
    have ln := fun j => flat_take_len (f := (putL · 1)) 1 j s.2.2 fun p _ => by rw [putL_length]; exact Nat.le_refl _
    rw [show (8 : Int) = ((8 : Nat) : Int) from rfl, f_refPut _ hn.1 8 (by decide), Option.bind_some, putL_length, decide_eq_true (by omega)]
    simp only [chk_yes]
    rw [wrap_u8, putL_length, decide_eq_true (by simp only [List.length_append, putL_length]; omega)]
    simp only [chk_yes]
    obtain ⟨D, hD⟩ : ∃ D, H ++ putL s.1 8 ++ putL (s.2.1.length : Int) 1 = D := ⟨_, rfl⟩
    have hDl : D.length ≤ 157000 := by rw [← hD]; simp only [List.length_append, putL_length]; omega
    rw [hD, show ((D, (0 : Int)) : List Int × Int) = (D ++ (s.2.1.take 0).flatMap pieceP, ((0 : Nat) : Int)) by simp]
    rw [loop_run (n := s.2.1.length) (st := fun k => (D ++ (s.2.1.take k).flatMap pieceP, (k : Int))) (x := D ++ s.2.1.flatMap pieceP)]
    · have lall := lp s.2.1.length
      rw [List.take_length] at lall
      simp only [Option.bind_some]
      rw [wrap_u8, putL_length, decide_eq_true (by rw [List.length_append]; omega)]
      simp only [chk_yes]
      obtain ⟨E, hE⟩ : ∃ E, D ++ s.2.1.flatMap pieceP ++ putL (s.2.2.length : Int) 1 = E := ⟨_, rfl⟩
      have hEl : E.length ≤ 160000 := by rw [← hE, List.length_append, List.length_append, putL_length]; omega
      rw [hE, show (((0 : Int), E) : Int × List Int) = (((0 : Nat) : Int), E ++ (s.2.2.take 0).flatMap (putL · 1)) by simp]
      rw [loop_run (n := s.2.2.length) (st := fun k => ((k : Int), E ++ (s.2.2.take k).flatMap (putL · 1))) (x := E ++ s.2.2.flatMap (putL · 1))]
      · simp only [Option.bind_some]
        rw [← hE, ← hD]
        unfold segP
        simp only [List.append_assoc]
        rfl
      · intro j hj
        simp only []
        have hlj := ln j
        rw [decide_eq_true (show (j : Int) < (s.2.2.length : Int) by omega), decide_eq_true (show (0 : Int) ≤ (j : Int) by omega), Int.toNat_natCast, wrap_ok (n := (j : Int) + 1) (by omega)]
        simp only [cond_true, Bool.and_self, chk_yes]
        rw [flat_next (putL · 1) 0 hj, wrap_u8, putL_length, decide_eq_true (by simp only [List.length_append]; omega), List.append_assoc]
        rfl
      · simp only []
        rw [decide_eq_false (by omega), List.take_length]
        rfl
    · intro j hj
      simp only []
      have hlj := lp j
      have hpm : s.2.1.getD j ((0 : Int), (0 : Int)) ∈ s.2.1 := by rw [getD_lt hj]; exact List.getElem_mem hj
      have hpn := hn.2 _ hpm
      rw [decide_eq_true (show (j : Int) < (s.2.1.length : Int) by omega), decide_eq_true (show (0 : Int) ≤ (j : Int) by omega), Int.toNat_natCast, wrap_ok (n := (j : Int) + 1) (by omega)]
      simp only [cond_true, Bool.and_self, chk_yes]
      rw [flat_next pieceP ((0 : Int), (0 : Int)) hj, f_refPut _ hpn.1 8 (by decide), Option.bind_some, putL_length, decide_eq_true (by simp only [List.length_append]; omega)]
      simp only [chk_yes]
      rw [show (4 : Int) = ((4 : Nat) : Int) from rfl, f_refPut _ hpn.2 4 (by decide), Option.bind_some, putL_length, decide_eq_true (by simp only [List.length_append, putL_length]; omega)]
      simp only [chk_yes]
      unfold pieceP
      simp only [List.append_assoc]
      rfl
    · simp only []
      rw [decide_eq_false (by omega), List.take_length]
      rfl
  · simp only []
    rw [decide_eq_false (by omega), List.take_length]
    rfl
end Go.Proofs.Ytdiebciejcmmhaa
