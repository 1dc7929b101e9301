/- Images: what the document's readers say. -/
import Derived.Test.YtdiebciejcmmhaaImgI
set_option linter.unusedSimpArgs false
set_option linter.unusedVariables false
namespace Go.Proofs.Ytdiebciejcmmhaa
open Go.RowKit
/-- The document's place in bytes. -/
def refS (B : List Int) (x : Rs) : List Int × (Int × Bool) := (B, ((B.length : Int) - (x.1.length : Int), x.2))
theorem sgn_succ (i : Nat) (hi : 0 < i) (u c : Int) (hc : 0 ≤ c ∧ c ≤ 255) : sgn (i + 1) (256 * u + c) = 256 * sgn i u + c := by
  obtain ⟨k, rfl⟩ : ∃ k, i = k + 1 := ⟨i - 1, by omega⟩
  unfold sgn
  simp only [Nat.add_sub_cancel, Int.pow_succ]
  generalize (256 : Int) ^ k = p
  by_cases h : 128 * p ≤ u
  · rw [if_pos h, if_pos (by omega)]; omega
  · rw [if_neg h, if_neg (by omega)]
theorem sgn_one (c : Int) : sgn 1 c = if 128 ≤ c then c - 256 else c := rfl
/-- The number up to its first i bytes. -/
def valI (s : Bool) (l : List Int) (i : Nat) : Int := bif s then sgn i (numU (l.take i)) else numU (l.take i)
theorem valI_zero (s : Bool) (l : List Int) : valI s l 0 = 0 := by cases s <;> rfl
theorem valI_step (s : Bool) (l : List Int) (i : Nat) (hi : i < l.length) (hb : ByL l) :
    valI s l (i + 1) = 256 * valI s l i + (bif ((i : Int) == 0) && s && decide (128 ≤ l.getD i 0) then l.getD i 0 - 256 else l.getD i 0) := by
  have hc := byL_bytes hb i
  unfold valI
  rw [numU_take hi]
  cases s with
  | false => simp only [cond_false, Bool.and_false, Bool.false_and]
  | true =>
    simp only [cond_true, Bool.and_true]
    by_cases h0 : i = 0
    · subst h0
      rw [show numU (l.take 0) = 0 from rfl, show sgn 0 0 = 0 from rfl, Int.mul_zero, Int.zero_add, Int.zero_add, Nat.zero_add, sgn_one]
      by_cases h : 128 ≤ l.getD 0 0
      · rw [if_pos h, decide_eq_true h]; rfl
      · rw [if_neg h, decide_eq_false h]; rfl
    · have e : ((i : Int) == 0) = false := beq_false_of_ne (by omega)
      rw [sgn_succ i (by omega) _ _ hc, e]
      rfl
theorem valI_range (s : Bool) (l : List Int) (hb : ByL l) (i : Nat) (hi : i ≤ l.length) (h : i ≤ 6 ∨ (s = true ∧ i ≤ 7)) : -36028797018963968 ≤ valI s l i ∧ valI s l i ≤ 36028797018963967 := by
  have hr := numU_range (byL_take hb i)
  rw [List.length_take, Nat.min_eq_left hi] at hr
  unfold valI
  have p6 : (256 : Int) ^ 6 = 281474976710656 := by decide
  have p7 : (256 : Int) ^ 7 = 72057594037927936 := by decide
  rcases h with h | ⟨h, h7⟩
  · have hp := pow_le_256 h
    rw [p6] at hp
    cases s with
    | false => simp only [cond_false]; omega
    | true =>
      simp only [cond_true]
      unfold sgn
      split <;> omega
  · subst h
    simp only [cond_true]
    unfold sgn
    cases i with
    | zero => simp at hr ⊢; split <;> omega
    | succ i =>
      have hp := pow_le_256 (show i ≤ 6 by omega)
      rw [p6] at hp
      rw [Int.pow_succ] at hr ⊢
      rw [Nat.add_sub_cancel]
      have hp0 : (0 : Int) < 256 ^ i := Int.pow_pos (by decide)
      generalize (256 : Int) ^ i = p at *
      split <;> omega
theorem suf_getD {l B : List Int} (h : l <:+ B) (i : Nat) (hi : i < l.length) : B.getD (B.length - l.length + i) 0 = l.getD i 0 := by
  obtain ⟨p, rfl⟩ := h
  rw [List.length_append, Nat.add_sub_cancel, List.getD_eq_getElem?_getD, List.getElem?_append_right (by omega), Nat.add_sub_cancel_left, ← List.getD_eq_getElem?_getD]
/-- The document's reader of numbers. -/
theorem f_refNum (B : List Int) (hB : ByL B) (hl : B.length ≤ 140737488355328) (x : Rs) (hx : x.1 <:+ B) (n : Nat) (s : Bool) (h : n ≤ 7 ∨ (s = true ∧ n ≤ 8)) :
    F_ref12_Num (refS B x) (n : Int) s = some (refS B (numR n s x).2, (numR n s x).1) := by
  obtain ⟨x, sh⟩ := x
  have hlx := hx.length_le
  unfold F_ref12_Num numR
  unfold refS
  simp only [] at hx hlx ⊢
  rw [wrap_ok (n := (B.length : Int) - ((B.length : Int) - (x.length : Int))) (by omega), show (B.length : Int) - ((B.length : Int) - (x.length : Int)) = (x.length : Int) by omega]
  by_cases hc : sh = true ∨ x.length < n
  · rw [if_pos hc]
    have e : (bif sh then true else decide ((x.length : Int) < (n : Int))) = true := by
      rcases hc with hc | hc
      · rw [hc]; rfl
      · rw [decide_eq_true (by omega)]; cases sh <;> rfl
    rw [e]
    rfl
  · rw [if_neg hc]
    have hs : sh = false := by cases sh with | false => rfl | true => exact absurd (.inl rfl) hc
    have hn : n ≤ x.length := Nat.le_of_not_lt fun h => hc (.inr h)
    subst hs
    rw [decide_eq_false (show ¬ (x.length : Int) < (n : Int) by omega)]
    simp only [cond_false]
    have hbx := byL_suf hB hx
    rw [show (((0 : Int), (0 : Int)) : Int × Int) = (valI s (x.take n) 0, ((0 : Nat) : Int)) by rw [valI_zero]; rfl]
    have hlen : (x.take n).length = n := by rw [List.length_take]; omega
    have hbm : ByL (x.take n) := byL_take hbx n
    rw [loop_run (n := n) (st := fun i => (valI s (x.take n) i, (i : Int))) (x := valI s (x.take n) n)]
    · simp only [Option.bind_some]
      rw [wrap_ok (n := (B.length : Int) - (x.length : Int) + (n : Int)) (by omega)]
      refine congrArg some ?_
      have e1 : valI s (x.take n) n = (bif s then sgn n (numU (x.take n)) else numU (x.take n)) := by
        unfold valI
        rw [List.take_of_length_le (by omega)]
      rw [e1]
      have e2 : (B.length : Int) - (x.length : Int) + (n : Int) = (B.length : Int) - ((x.drop n).length : Int) := by rw [List.length_drop]; omega
      rw [e2]
    · intro i hi
      simp only []
      have hd := suf_getD hx i (by omega)
      have hg : (x.take n).getD i 0 = x.getD i 0 := by rw [List.getD_eq_getElem?_getD, List.getD_eq_getElem?_getD, List.getElem?_take, if_pos hi]
      rw [decide_eq_true (show (i : Int) < (n : Int) by omega), wrap_ok (n := (B.length : Int) - (x.length : Int) + (i : Int)) (by omega), decide_eq_true (show (0 : Int) ≤ (B.length : Int) - (x.length : Int) + (i : Int) by omega), decide_eq_true (show (B.length : Int) - (x.length : Int) + (i : Int) < (B.length : Int) by omega)]
      rw [show ((B.length : Int) - (x.length : Int) + (i : Int)).toNat = B.length - x.length + i by omega, hd, ← hg]
      have hcb := byL_bytes hbm i
      have hv := valI_range s (x.take n) hbm i (by omega) (h.elim (fun h => .inl (by omega)) fun h => .inr ⟨h.1, by omega⟩)
      have hz : i = 0 → valI s (x.take n) i = 0 := fun h => by subst h; exact valI_zero _ _
      rw [wrap_ok (n := (x.take n).getD i 0) (by omega), wrap_ok (n := (i : Int) + 1) (by omega), valI_step s (x.take n) i (by omega) hbm]
      generalize valI s (x.take n) i = v at *
      generalize (x.take n).getD i 0 = c at *
      simp only [cond_true, Bool.and_self, chk_yes]
      rw [wrap_ok (n := 256 * v) (by omega)]
      have e : (bif (bif ((i : Int) == 0) then s else false) then decide (128 ≤ c) else false) = (((i : Int) == 0) && s && decide (128 ≤ c)) := by
        cases ((i : Int) == 0) <;> cases s <;> rfl
      rw [e]
      cases hcc : (((i : Int) == 0) && s && decide (128 ≤ c)) with
      | false =>
        simp only [cond_false, Option.bind_some]
        rw [wrap_ok (by omega)]
        rfl
      | true =>
        have hi0 : i = 0 := by
          simp only [Bool.and_eq_true, beq_iff_eq] at hcc
          omega
        have hv0 := hz hi0
        simp only [cond_true, Option.bind_some]
        rw [wrap_ok (n := c - 256) (by omega), wrap_ok (by omega)]
        rfl
    · simp only []
      rw [decide_eq_false (by omega)]
      rfl
theorem f_refCount (B : List Int) (hB : ByL B) (hl : B.length ≤ 140737488355328) (x : Rs) (hx : x.1 <:+ B) (n : Nat) (h : n ≤ 7) (most : Int) :
    F_ref12_Count (refS B x) (n : Int) most = some (refS B (countR n most x).2, (countR n most x).1) := by
  unfold F_ref12_Count countR
  rw [f_refNum B hB hl x hx n false (.inl h), Option.bind_some]
  by_cases h : most < (numR n false x).1
  · rw [if_pos h]
    simp only []
    rw [decide_eq_true h]
    rfl
  · rw [if_neg h]
    simp only []
    rw [decide_eq_false h]
    rfl
theorem refS_back (B : List Int) (x : Rs) : (B, ((B.length : Int) - (x.1.length : Int), x.2)) = refS B x := rfl
theorem f_refSegment (B : List Int) (hB : ByL B) (hl : B.length ≤ 140737488355328) (x : Rs) (hx : x.1 <:+ B) : F_ref12_Segment (refS B x) = some (refS B (segR x).2, (segR x).1) := by
  unfold F_ref12_Segment segR
  rw [show (8 : Int) = ((8 : Nat) : Int) from rfl, f_refNum B hB hl x hx 8 true (.inr ⟨rfl, by decide⟩), Option.bind_some]
  have hs := (numR_suf 8 true x).trans hx
  generalize numR 8 true x = a at *
  clear hx x
  simp only []
  rw [show (1 : Int) = ((1 : Nat) : Int) from rfl, f_refCount B hB hl a.2 hs 1 (by decide) 64, Option.bind_some]
  have hr := countR_range 1 64 (by decide) a.2 (byL_suf hB hs)
  replace hs := (countR_suf 1 64 a.2).trans hs
  generalize countR 1 64 a.2 = c at *
  obtain ⟨k, hk⟩ : ∃ k : Nat, c.1 = k := ⟨c.1.toNat, by omega⟩
  simp only []
  rw [hk, Int.toNat_natCast]
  rw [show ((refS B c.2).2.2, (refS B c.2).1, ([] : List (Int × Int)), (refS B c.2).2.1, (0 : Int)) = ((manyR pieceR 0 c.2).2.2, B, (manyR pieceR 0 c.2).1, (B.length : Int) - ((manyR pieceR 0 c.2).2.1.length : Int), ((0 : Nat) : Int)) from rfl]
  rw [loop_run (n := k) (st := fun i => ((manyR pieceR i c.2).2.2, B, (manyR pieceR i c.2).1, (B.length : Int) - ((manyR pieceR i c.2).2.1.length : Int), (i : Int))) (x := ((manyR pieceR k c.2).2.2, B, (manyR pieceR k c.2).1, (B.length : Int) - ((manyR pieceR k c.2).2.1.length : Int)))]
  · simp only [Option.bind_some]
    replace hs := (manyR_suf pieceR pieceR_suf c.2 k).trans hs
    generalize manyR pieceR k c.2 = p at *
    clear hr
    rw [refS_back B p.2, f_refCount B hB hl p.2 hs 1 (by decide) 2, Option.bind_some]
    have hr := countR_range 1 2 (by decide) p.2 (byL_suf hB hs)
    replace hs := (countR_suf 1 2 p.2).trans hs
    generalize countR 1 2 p.2 = d at *
    obtain ⟨m, hm⟩ : ∃ m : Nat, d.1 = m := ⟨d.1.toNat, by omega⟩
    simp only []
    rw [hm, Int.toNat_natCast]
    rw [show ((refS B d.2).2.2, (refS B d.2).1, (refS B d.2).2.1, (0 : Int), ([] : List Int)) = ((manyR nextR 0 d.2).2.2, B, (B.length : Int) - ((manyR nextR 0 d.2).2.1.length : Int), ((0 : Nat) : Int), (manyR nextR 0 d.2).1) from rfl]
    rw [loop_run (n := m) (st := fun i => ((manyR nextR i d.2).2.2, B, (B.length : Int) - ((manyR nextR i d.2).2.1.length : Int), (i : Int), (manyR nextR i d.2).1)) (x := ((manyR nextR m d.2).2.2, B, (B.length : Int) - ((manyR nextR m d.2).2.1.length : Int), (manyR nextR m d.2).1))]
    · rfl
    · intro i hi
      simp only []
      have hs' := (manyR_suf nextR nextR_suf d.2 i).trans hs
      rw [decide_eq_true (show (i : Int) < (m : Int) by omega), refS_back, f_refNum B hB hl _ hs' 1 false (.inl (by decide)), Option.bind_some, wrap_ok (n := (i : Int) + ((1 : Nat) : Int)) (by omega)]
      simp only [cond_true]
      rw [decide_eq_true (by rw [manyR_length, List.length_singleton]; omega), chk_yes rfl]
      rfl
    · simp only []
      rw [decide_eq_false (by omega)]
      rfl
  · intro i hi
    simp only []
    have hs' := (manyR_suf pieceR pieceR_suf c.2 i).trans hs
    rw [decide_eq_true (show (i : Int) < (k : Int) by omega), refS_back, f_refNum B hB hl _ hs' 8 true (.inr ⟨rfl, by decide⟩)]
    simp only [cond_true, Option.bind_some]
    rw [show (4 : Int) = ((4 : Nat) : Int) from rfl, f_refNum B hB hl _ ((numR_suf 8 true _).trans hs') 4 true (.inl (by decide))]
    simp only [cond_true, Option.bind_some]
    rw [decide_eq_true (by rw [manyR_length, List.length_singleton]; omega), chk_yes rfl, wrap_ok (n := (i : Int) + ((1 : Nat) : Int)) (by omega)]
    rfl
  · simp only []
    rw [decide_eq_false (by omega)]
    rfl
theorem f_refGroup (B : List Int) (hB : ByL B) (hl : B.length ≤ 140737488355328) (x : Rs) (hx : x.1 <:+ B) : F_ref12_Group (refS B x) = some (refS B (grpR x).2, (grpR x).1) := by
  unfold F_ref12_Group grpR
  rw [show (2 : Int) = ((2 : Nat) : Int) from rfl, f_refNum B hB hl x hx 2 false (.inl (by decide)), Option.bind_some]
  replace hx := (numR_suf 2 false x).trans hx
  generalize numR 2 false x = a at *
  simp only []
  rw [show (1 : Int) = ((1 : Nat) : Int) from rfl, f_refNum B hB hl a.2 hx 1 false (.inl (by decide)), Option.bind_some]
  replace hx := (numR_suf 1 false a.2).trans hx
  generalize numR 1 false a.2 = b at *
  simp only []
  rw [show (8 : Int) = ((8 : Nat) : Int) from rfl, f_refNum B hB hl b.2 hx 8 true (.inr ⟨rfl, by decide⟩), Option.bind_some]
  replace hx := (numR_suf 8 true b.2).trans hx
  generalize numR 8 true b.2 = c at *
  simp only []
  rw [show (4 : Int) = ((4 : Nat) : Int) from rfl, f_refNum B hB hl c.2 hx 4 false (.inl (by decide)), Option.bind_some]
  replace hx := (numR_suf 4 false c.2).trans hx
  generalize numR 4 false c.2 = d at *
  simp only []
  rw [f_refNum B hB hl d.2 hx 4 false (.inl (by decide)), Option.bind_some]
end Go.Proofs.Ytdiebciejcmmhaa
