/- Images: what the document opens. -/
import Derived.Test.YtdiebciejcmmhaaImgJ
set_option linter.unusedSimpArgs false
set_option linter.unusedVariables false
namespace Go.Proofs.Ytdiebciejcmmhaa
open Go.RowKit
theorem take4 {b : List Int} (h : 4 ≤ b.length) : b.take 4 = [b.getD 0 0, b.getD 1 0, b.getD 2 0, b.getD 3 0] := by
  match b, h with
  | a :: b :: c :: d :: l, _ => rfl
theorem ne_bif (a b : Int) : (a != b) = !decide (a = b) := by
  by_cases h : a = b
  · subst h; simp
  · simp [h]
theorem f_openR (b : List Int) (hb : ByL b) : F_ref12_Open b = some (openI b) := by
  unfold F_ref12_Open openI
  by_cases h1 : 1048576 < b.length
  · rw [if_pos h1, decide_eq_true (show (1048576 : Int) < (b.length : Int) by omega)]
    rfl
  rw [if_neg h1, decide_eq_false (show ¬ (1048576 : Int) < (b.length : Int) by omega)]
  simp only [cond_false]
  by_cases h2 : b.length < 6
  · rw [if_pos (.inl h2), decide_eq_true (show (b.length : Int) < 6 by omega)]
    simp only [Bool.not_true, Bool.not_false, Bool.or_true, chk_yes, cond_true]
  rw [decide_eq_false (show ¬ (b.length : Int) < 6 by omega), decide_eq_true (show (0 : Int) < (b.length : Int) by omega), decide_eq_true (show (1 : Int) < (b.length : Int) by omega), decide_eq_true (show (2 : Int) < (b.length : Int) by omega), decide_eq_true (show (3 : Int) < (b.length : Int) by omega)]
  simp only [Bool.and_self, Bool.true_or, chk_yes, cond_false]
  rw [show (0 : Int).toNat = 0 from rfl, show (1 : Int).toNat = 1 from rfl, show (2 : Int).toNat = 2 from rfl, show (3 : Int).toNat = 3 from rfl]
  have hm : (bif (bif (bif (b.getD 0 0 != 79) then true else (b.getD 1 0 != 68)) then true else (b.getD 2 0 != 79)) then true else (b.getD 3 0 != 49)) = !decide (b.take 4 = magicL) := by
    rw [take4 (by omega)]
    unfold magicL
    rw [ne_bif, ne_bif, ne_bif, ne_bif]
    simp only [List.cons.injEq, and_true]
    generalize b.getD 0 0 = x0
    generalize b.getD 1 0 = x1
    generalize b.getD 2 0 = x2
    generalize b.getD 3 0 = x3
    by_cases a0 : x0 = 79 <;> by_cases a1 : x1 = 68 <;> by_cases a2 : x2 = 79 <;> by_cases a3 : x3 = 49 <;> simp [a0, a1, a2, a3]
  rw [hm]
  by_cases h3 : b.take 4 = magicL
  · rw [if_neg (by rintro (h | h); · exact h2 h
                   · exact h h3), decide_eq_true h3]
    simp only [Bool.not_true, cond_false]
    rw [wrap_ok (n := (b.length : Int) - 2) (by omega), decide_eq_true (show (0 : Int) ≤ (b.length : Int) - 2 by omega), decide_eq_true (show (b.length : Int) - 2 ≤ (b.length : Int) by omega), decide_eq_true (show (b.length : Int) - 2 < (b.length : Int) by omega), wrap_ok (n := (b.length : Int) - 2 + 1) (by omega), decide_eq_true (show (0 : Int) ≤ (b.length : Int) - 2 + 1 by omega), decide_eq_true (show (b.length : Int) - 2 + 1 < (b.length : Int) by omega)]
    simp only [Bool.and_self, chk_yes]
    rw [show ((b.length : Int) - 2).toNat = b.length - 2 by omega, show ((b.length : Int) - 2 + 1).toNat = b.length - 2 + 1 by omega, List.drop_zero]
    have hBl : (b.take (b.length - 2)).length = b.length - 2 := by rw [List.length_take]; omega
    rw [f_refSum _ (byL_bytes (byL_take hb _)) (by omega), Option.bind_some]
    have c1 := byL_bytes hb (b.length - 2)
    have c2 := byL_bytes hb (b.length - 2 + 1)
    have hck := crc_check (byL_bytes hb) (n := b.length - 2) (by omega)
    rw [wrap_ok (n := b.getD (b.length - 2) 0) (by omega), wrap_ok (n := b.getD (b.length - 2 + 1) 0) (by omega), wrap_ok (n := b.getD (b.length - 2) 0 * 256) (by omega), wrap_ok (by omega)]
    by_cases h4 : crcI b = 0
    · rw [if_neg (not_not_intro h4), ← hck.1 h4]
      simp only [bne_self_eq_false, cond_false]
      have hB : ByL (b.take (b.length - 2)) := byL_take hb _
      have hln : (b.take (b.length - 2)).length ≤ 140737488355328 := by omega
      have h4B : 4 ≤ (b.take (b.length - 2)).length := by omega
      have hN : (b.length : Int) - 2 = ((b.take (b.length - 2)).length : Int) := by omega
      rw [hN]
      clear hN hBl
      generalize b.take (b.length - 2) = B at *
      have hp0 : ((B, ((4 : Int), false)) : List Int × (Int × Bool)) = refS B (B.drop 4, false) := by
        unfold refS
        simp only [List.length_drop]
        rw [show (B.length : Int) - ((B.length - 4 : Nat) : Int) = 4 by omega]
      rw [hp0]
      have hs : ((B.drop 4, false) : Rs).1 <:+ B := List.drop_suffix _ _
      generalize ((B.drop 4, false) : Rs) = x at *
      unfold bodyR
      rw [show (2 : Int) = ((2 : Nat) : Int) from rfl, f_refCount B hB hln x hs 2 (by decide) 200, Option.bind_some]
      have hr := countR_range 2 200 (by decide) x (byL_suf hB hs)
      replace hs := (countR_suf 2 200 x).trans hs
      generalize countR 2 200 x = c at *
      obtain ⟨k, hk⟩ : ∃ k : Nat, c.1 = k := ⟨c.1.toNat, by omega⟩
      simp only []
      rw [hk, Int.toNat_natCast]
      rw [show ((refS B c.2).2.1, (refS B c.2).2.2, (0 : Int), ([] : List Sg), (refS B c.2).1) = ((B.length : Int) - ((manyR segR 0 c.2).2.1.length : Int), (manyR segR 0 c.2).2.2, ((0 : Nat) : Int), (manyR segR 0 c.2).1, B) from rfl]
      rw [loop_run (n := k) (st := fun i => ((B.length : Int) - ((manyR segR i c.2).2.1.length : Int), (manyR segR i c.2).2.2, (i : Int), (manyR segR i c.2).1, B)) (x := ((B.length : Int) - ((manyR segR k c.2).2.1.length : Int), (manyR segR k c.2).2.2, (manyR segR k c.2).1, B))]
      · simp only [Option.bind_some]
        have hfew : ∀ s ∈ (manyR segR k c.2).1, s.2.1.length ≤ big ∧ s.2.2.length ≤ big := manyR_all _ segR segR_suf (fun x hx => by
          have := segR_few x hx
          unfold big
          omega) c.2 (byL_suf hB hs) k
        replace hs := (manyR_suf segR segR_suf c.2 k).trans hs
        generalize manyR segR k c.2 = p at *
        clear hr
        rw [refS_back B p.2, f_refCount B hB hln p.2 hs 2 (by decide) 400, Option.bind_some]
        have hr := countR_range 2 400 (by decide) p.2 (byL_suf hB hs)
        replace hs := (countR_suf 2 400 p.2).trans hs
        generalize countR 2 400 p.2 = d at *
        obtain ⟨m, hm⟩ : ∃ m : Nat, d.1 = m := ⟨d.1.toNat, by omega⟩
        simp only []
        rw [hm, Int.toNat_natCast]
        rw [show ((refS B d.2).2.1, (refS B d.2).1, ([] : List Gp), (refS B d.2).2.2, (0 : Int)) = ((B.length : Int) - ((manyR grpR 0 d.2).2.1.length : Int), B, (manyR grpR 0 d.2).1, (manyR grpR 0 d.2).2.2, ((0 : Nat) : Int)) from rfl]
        rw [loop_run (n := m) (st := fun i => ((B.length : Int) - ((manyR grpR i d.2).2.1.length : Int), B, (manyR grpR i d.2).1, (manyR grpR i d.2).2.2, (i : Int))) (x := ((B.length : Int) - ((manyR grpR m d.2).2.1.length : Int), B, (manyR grpR m d.2).1, (manyR grpR m d.2).2.2))]
        · simp only [Option.bind_some]
          replace hs := (manyR_suf grpR grpR_suf d.2 m).trans hs
          generalize manyR grpR m d.2 = g at *
          have hgl := hs.length_le
          by_cases h5 : g.2.2 = true ∨ g.2.1 ≠ []
          · rw [if_pos h5]
            have e : (bif g.2.2 then true else ((B.length : Int) - (g.2.1.length : Int) != (B.length : Int))) = true := by
              rcases h5 with h5 | h5
              · rw [h5]; rfl
              · have := List.length_pos_iff.2 h5
                rw [ne_bif, decide_eq_false (by omega)]; cases g.2.2 <;> rfl
            rw [e]
            rfl
          · rw [if_neg h5]
            have e : (bif g.2.2 then true else ((B.length : Int) - (g.2.1.length : Int) != (B.length : Int))) = false := by
              have h6 : ¬ g.2.2 = true := fun h => h5 (.inl h)
              have h7 : g.2.1 = [] := Classical.byContradiction fun h => h5 (.inr h)
              rw [h7, show g.2.2 = false by simpa using h6, ne_bif, decide_eq_true (by simp)]
              rfl
            rw [e]
            simp only [cond_false]
            rw [f_CheckR (p.1, g.1) (fun _ s hs => hfew s hs), Option.bind_some]
            by_cases h8 : (checkI (p.1, g.1)).1 = 0
            · have e : ((checkI (p.1, g.1)).1 != 0) = false := by simp [h8]
              rw [if_neg (not_not_intro h8), e]
              rfl
            · have e : ((checkI (p.1, g.1)).1 != 0) = true := by simp [h8]
              rw [if_pos h8, e]
              rfl
        · intro i hi
          simp only []
          have hs' := (manyR_suf grpR grpR_suf d.2 i).trans hs
          rw [decide_eq_true (show (i : Int) < (m : Int) by omega), refS_back, f_refGroup B hB hln _ hs']
          simp only [cond_true, Option.bind_some]
          rw [decide_eq_true (by rw [manyR_length, List.length_singleton]; omega), chk_yes rfl, wrap_ok (n := (i : Int) + 1) (by omega)]
          rfl
        · simp only []
          rw [decide_eq_false (by omega)]
          rfl
      · intro i hi
        simp only []
        have hs' := (manyR_suf segR segR_suf c.2 i).trans hs
        rw [decide_eq_true (show (i : Int) < (k : Int) by omega), refS_back, f_refSegment B hB hln _ hs']
        simp only [cond_true, Option.bind_some]
        rw [decide_eq_true (by rw [manyR_length, List.length_singleton]; omega), chk_yes rfl, wrap_ok (n := (i : Int) + 1) (by omega)]
        rfl
      · simp only []
        rw [decide_eq_false (by omega)]
        rfl
    · rw [if_pos h4, ne_bif, decide_eq_false (fun h => h4 (hck.2 h))]
      rfl
  · rw [if_pos (.inr h3), decide_eq_false h3]
    rfl
end Go.Proofs.Ytdiebciejcmmhaa
