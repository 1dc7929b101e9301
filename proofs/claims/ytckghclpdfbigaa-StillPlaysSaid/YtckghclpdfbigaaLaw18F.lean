/- The laws of chapter 18: what their readings say is true. -/
import Derived.Test.YtckghclpdfbigaaConfF
set_option linter.unusedSimpArgs false
set_option linter.unusedVariables false
namespace Go.Proofs.Ytckghclpdfbigaa
open Go.RowKit
def slowB (ss : Int) (s : Int × Int) : Bool := decide (s.2 < s.1 ∨ (-ss ≤ s.1 ∧ s.2 ≤ ss))
theorem f_Slow (p lo hi rb rp ae ms ma an st ss ro ti br : Int) (s : Int × Int) (h : 0 ≤ ss ∧ ss ≤ 16777216) : F_still_Slow (p, lo, hi, rb, rp, ae, ms, ma, an, st, ss, ro, ti, br) s = some (slowB ss s) := by
  unfold F_still_Slow F_span_Span_In F_span_Span_Right slowB
  simp only [Int.zero_sub, wrap_ok (n := -ss) (by omega), Option.bind_some]
  refine congrArg some ?_
  rw [Bool.eq_iff_iff]
  simp only [Bool.cond_true_left, Bool.cond_false_right, Bool.or_eq_true, Bool.and_eq_true, Bool.not_eq_true', decide_eq_false_iff_not, decide_eq_true_eq, Int.not_le]
/-- Still, a cycle on. -/
def nextI (st ss : Int) (s : Int × Bool) (v : Int × Int) (fit : Int) : Int × Bool :=
  if fit < 1 ∨ slowB ss v = false then (0, false) else
    let n := if st < s.1 + 1 then st else s.1 + 1
    (n, decide (st ≤ n))
theorem f_Next (p lo hi rb rp ae ms ma an st ss ro ti br : Int) (s : Int × Bool) (v : Int × Int) (fit : Int) (h : 0 ≤ ss ∧ ss ≤ 16777216) (hs : -1000000 ≤ s.1 ∧ s.1 ≤ 1000000) :
    F_still_Still_Next s (p, lo, hi, rb, rp, ae, ms, ma, an, st, ss, ro, ti, br) v fit = some (nextI st ss s v fit) := by
  unfold F_still_Still_Next nextI
  rw [f_Slow _ _ _ _ _ _ _ _ _ _ _ _ _ _ _ h]
  by_cases h1 : fit < 1
  · simp [h1]
  · cases hb : slowB ss v with
    | false => simp [h1]
    | true => simp only [decide_eq_false h1, Bool.not_false, cond_true, cond_false, Option.bind_some, Bool.not_true, wrap_ok (n := s.1 + 1) (by omega)]; simp [h1]
theorem f_anchor18 : F_law18_anchor () = some true := by
  unfold F_law18_anchor F_law18_usual
  simp only [Option.bind_some]
  rw [f_Next _ _ _ _ _ _ _ _ _ _ _ _ _ _ _ _ _ (by omega) (by decide), Option.bind_some, f_Next _ _ _ _ _ _ _ _ _ _ _ _ _ _ _ _ _ (by omega) (by decide), Option.bind_some]
  rw [f_Next _ _ _ _ _ _ _ _ _ _ _ _ _ _ _ _ _ (by omega) (by decide)]
  decide +kernel
theorem f_StillTrue (c : Cf) (s : Int × Bool) (x : (Int × Int) × Int) (v : Int) : F_law18_StillTrue c s x v = some true := by
  unfold F_law18_StillTrue
  rw [f_anchor18, Option.bind_some, f_Wrong, Option.bind_some]
  obtain ⟨p, lo, hi, rb, rp, ae, ms, ma, an, st, ss, ro, ti, br⟩ := c
  by_cases hw : wrongC (p, lo, hi, rb, rp, ae, ms, ma, an, st, ss, ro, ti, br) = 0
  · have R := right_iff.1 hw
    have hst := R.hst
    have hss := R.hss
    have hrb := R.hrb
    rw [hw]
    simp only [Bool.not_true, cond_false, bne_self_eq_false]
    by_cases g1 : s.1 < 0
    · rw [decide_eq_true g1]; rfl
    by_cases g2 : st < s.1
    · rw [decide_eq_false g1, decide_eq_true g2]; rfl
    rw [decide_eq_false g1, decide_eq_false g2, f_Next _ _ _ _ _ _ _ _ _ _ _ _ _ _ _ _ _ (by omega) (by omega)]
    unfold F_span_Span_Has
    simp only [cond_false, Bool.not_false, cond_true, Option.bind_some, wrap_ok (n := 0 - ss) (by omega)]
    by_cases k1 : x.1.1 ≤ v
    · by_cases k2 : v ≤ x.1.2
      · rw [decide_eq_true k1, decide_eq_true k2]
        simp only [cond_true, Bool.not_true, cond_false]
        refine congrArg some ?_
        unfold nextI
        by_cases q : x.2 < 1 ∨ slowB ss x.1 = false
        · rw [if_pos q]; rfl
        · rw [if_neg q]
          simp only [not_or, Bool.not_eq_false] at q
          have q2 := q.2
          unfold slowB at q2
          rw [decide_eq_true_eq] at q2
          simp only [decide_eq_true (show 0 - ss ≤ v by omega), decide_eq_true (show v ≤ ss by omega), decide_eq_true (show 1 ≤ x.2 by omega), cond_true]
          cases decide (st ≤ if st < s.1 + 1 then st else s.1 + 1) <;> rfl
      · rw [decide_eq_true k1, decide_eq_false k2]; rfl
    · rw [decide_eq_false k1]; rfl
  · have : (wrongC (p, lo, hi, rb, rp, ae, ms, ma, an, st, ss, ro, ti, br) != 0) = true := by simpa using hw
    rw [this]; rfl
theorem f_StillPlays (c : Cf) (l : List ((Int × Int) × Int)) : F_law18_StillPlays c l = some true := by
  unfold F_law18_StillPlays
  rw [f_anchor18, Option.bind_some, f_Wrong, Option.bind_some]
  obtain ⟨p, lo, hi, rb, rp, ae, ms, ma, an, st, ss, ro, ti, br⟩ := c
  by_cases hw : wrongC (p, lo, hi, rb, rp, ae, ms, ma, an, st, ss, ro, ti, br) = 0
  · have R := right_iff.1 hw
    have hst := R.hst
    have hss := R.hss
    have hrb := R.hrb
    rw [hw]
    simp only [Bool.not_true, cond_false, bne_self_eq_false]
    by_cases g1 : 3000 < (l.length : Int)
    · rw [decide_eq_true g1]; rfl
    rw [decide_eq_false g1]
    simp only [cond_false]
    refine bind_loop (fun s => (0 ≤ s.2.2.2 ∧ s.2.2.2 ≤ l.length) ∧ (0 ≤ s.2.1 ∧ s.2.1 ≤ s.2.2.2) ∧ s.1 = decide (st ≤ s.2.1) ∧ s.2.2.1 = if st < s.2.1 then st else s.2.1) (fun s => (l.length - s.2.2.2).toNat) (fun x => x = .inl true ∨ x = .inr ())
      ⟨⟨by simp, by simp⟩, ⟨by simp, by simp⟩, by simp only; rw [eq_comm, decide_eq_false_iff_not]; omega, by simp only; rw [if_neg (by omega)]⟩ ?_ ?_
    · rintro ⟨on, n, count, i⟩ ⟨⟨i1, i2⟩, ⟨i3, i4⟩, i5, i6⟩
      simp only at i1 i2 i3 i4 i5 i6 ⊢
      by_cases hlt : i < l.length
      · rw [decide_eq_true hlt, decide_eq_true i1]
        simp only [cond_true, Bool.and_self, chk_yes]
        generalize l.getD i.toNat (((0 : Int), (0 : Int)), (0 : Int)) = x
        by_cases g2 : x.1.2 < x.1.1
        · left; rw [decide_eq_true g2]; exact ⟨_, rfl, .inl rfl⟩
        · rw [decide_eq_false g2, f_Slow _ _ _ _ _ _ _ _ _ _ _ _ _ _ _ (by omega), f_Next _ _ _ _ _ _ _ _ _ _ _ _ _ _ _ _ _ (by omega) (by simp only; omega)]
          simp only [cond_false, Option.bind_some, wrap_ok (n := 0 - ss) (by omega), wrap_ok (n := n + 1) (by omega), wrap_ok (n := i + 1) (by omega)]
          have hs : (bif decide (0 - ss ≤ x.1.1) then decide (x.1.2 ≤ ss) else false) = slowB ss x.1 := by
            unfold slowB
            rw [Bool.eq_iff_iff]
            simp only [Bool.cond_false_right, Bool.and_eq_true, decide_eq_true_eq]
            omega
          rw [hs]
          right
          simp only [beq_self_eq_true, Bool.not_true, cond_false]
          unfold nextI
          by_cases q : x.2 < 1 ∨ slowB ss x.1 = false
          · have hq : (bif (!slowB ss x.1) then true else decide (x.2 < 1)) = true := by
              rcases q with q | q
              · simp [q]
              · simp [q]
            rw [hq, if_pos q]
            simp only [cond_true, Option.bind_some, if_neg (show ¬ st < 0 by omega), decide_eq_false (show ¬ st ≤ 0 by omega), beq_self_eq_true, Bool.not_true, cond_false, bne_self_eq_false]
            exact ⟨_, rfl, ⟨⟨by simp only; omega, by simp only; omega⟩, ⟨by simp only; omega, by simp only; omega⟩, by simp only; rw [eq_comm, decide_eq_false_iff_not]; omega, by simp only; rw [if_neg (by omega)]⟩, by simp only; omega⟩
          · have hq : (bif (!slowB ss x.1) then true else decide (x.2 < 1)) = false := by
              simp only [not_or, Bool.not_eq_false] at q
              simp [q.2]; omega
            have e1 : (if st < count + 1 then st else count + 1) = if st < n + 1 then st else n + 1 := by
              rw [i6]
              by_cases a : st < n
              · rw [if_pos a, if_pos (by omega), if_pos (by omega)]
              · rw [if_neg a]
            have e2 : decide (st ≤ if st < n + 1 then st else n + 1) = decide (st ≤ n + 1) := by
              rw [Bool.eq_iff_iff, decide_eq_true_eq, decide_eq_true_eq]; split <;> omega
            rw [hq, if_neg q]
            simp only [cond_false, Option.bind_some, e1, e2, beq_self_eq_true, Bool.not_true, bne_self_eq_false]
            exact ⟨_, rfl, ⟨⟨by simp only; omega, by simp only; omega⟩, ⟨by simp only; omega, by simp only; omega⟩, rfl, rfl⟩, by simp only; omega⟩
      · left; rw [decide_eq_false hlt]; exact ⟨_, rfl, .inr rfl⟩
    · rintro x (rfl | rfl) <;> rfl
  · have : (wrongC (p, lo, hi, rb, rp, ae, ms, ma, an, st, ss, ro, ti, br) != 0) = true := by simpa using hw
    rw [this]; rfl
theorem next_more (st ss : Int) (hst : 1 ≤ st) (s t : Int × Bool) (x y : (Int × Int) × Int) (h0 : 0 ≤ s.1) (h1 : s.1 ≤ t.1) (hx : x.1.1 ≤ x.1.2) (hy : y.1.1 ≤ y.1.2) (h2 : x.1.1 ≤ y.1.1) (h3 : y.1.2 ≤ x.1.2) (h4 : x.2 ≤ y.2) :
    0 ≤ (nextI st ss s x.1 x.2).1 ∧ (nextI st ss s x.1 x.2).1 ≤ (nextI st ss t y.1 y.2).1 ∧ (nextI st ss t y.1 y.2).1 ≤ st ∧ ((nextI st ss s x.1 x.2).2 = true → (nextI st ss t y.1 y.2).2 = true) := by
  unfold nextI
  by_cases q : x.2 < 1 ∨ slowB ss x.1 = false
  · rw [if_pos q]
    by_cases r : y.2 < 1 ∨ slowB ss y.1 = false
    · rw [if_pos r]; exact ⟨Int.le_refl _, Int.le_refl _, by simp only; omega, id⟩
    · rw [if_neg r]
      simp only
      refine ⟨Int.le_refl _, ?_, ?_, fun h => by cases h⟩ <;> split <;> omega
  · have r : ¬ (y.2 < 1 ∨ slowB ss y.1 = false) := by
      simp only [not_or, Bool.not_eq_false] at q ⊢
      obtain ⟨q1, q2⟩ := q
      refine ⟨by omega, ?_⟩
      unfold slowB at q2 ⊢
      rw [decide_eq_true_eq] at q2 ⊢
      omega
    rw [if_neg q, if_neg r]
    simp only [decide_eq_true_eq]
    refine ⟨?_, ?_, ?_, ?_⟩
    · split <;> omega
    · split <;> split <;> omega
    · split <;> omega
    · split <;> split <;> omega
theorem f_StillNarrow (c : Cf) (l m : List ((Int × Int) × Int)) : F_law18_StillNarrow c l m = some true := by
  unfold F_law18_StillNarrow
  rw [f_anchor18, Option.bind_some, f_Wrong, Option.bind_some]
  obtain ⟨p, lo, hi, rb, rp, ae, ms, ma, an, st, ss, ro, ti, br⟩ := c
  by_cases hw : wrongC (p, lo, hi, rb, rp, ae, ms, ma, an, st, ss, ro, ti, br) = 0
  · have R := right_iff.1 hw
    have hst := R.hst
    have hss := R.hss
    have hrb := R.hrb
    rw [hw]
    simp only [Bool.not_true, cond_false, bne_self_eq_false]
    by_cases g1 : 3000 < (l.length : Int)
    · rw [decide_eq_true g1]; rfl
    by_cases g2 : (l.length : Int) = m.length
    · rw [decide_eq_false g1, show ((l.length : Int) != (m.length : Int)) = false by simpa using g2]
      simp only [cond_false]
      refine bind_loop (fun s => (0 ≤ s.2.2.2.2 ∧ s.2.2.2.2 ≤ l.length) ∧ 0 ≤ s.2.2.2.1 ∧ s.2.2.2.1 ≤ s.1 ∧ s.1 ≤ st) (fun s => (l.length - s.2.2.2.2).toNat) (fun x => x = .inl true ∨ x = .inr ())
        ⟨⟨by simp, by simp⟩, by simp, by simp, by simp only; omega⟩ ?_ ?_
      · rintro ⟨b, on, bn, a, i⟩ ⟨⟨i1, i2⟩, i3, i4, i5⟩
        simp only at i1 i2 i3 i4 i5 ⊢
        by_cases hlt : i < l.length
        · rw [decide_eq_true hlt, decide_eq_true i1, decide_eq_true (show i < (m.length : Int) by omega)]
          simp only [cond_true, Bool.and_self, chk_yes]
          generalize l.getD i.toNat (((0 : Int), (0 : Int)), (0 : Int)) = x
          generalize m.getD i.toNat (((0 : Int), (0 : Int)), (0 : Int)) = y
          by_cases k1 : x.1.2 < x.1.1
          · left; rw [decide_eq_true k1]; exact ⟨_, rfl, .inl rfl⟩
          by_cases k2 : y.1.2 < y.1.1
          · left; rw [decide_eq_false k1, decide_eq_true k2]; exact ⟨_, rfl, .inl rfl⟩
          by_cases k3 : y.1.1 < x.1.1
          · left; rw [decide_eq_false k1, decide_eq_false k2, decide_eq_true k3]; exact ⟨_, rfl, .inl rfl⟩
          by_cases k4 : x.1.2 < y.1.2
          · left; rw [decide_eq_false k1, decide_eq_false k2, decide_eq_false k3, decide_eq_true k4]; exact ⟨_, rfl, .inl rfl⟩
          by_cases k5 : y.2 < x.2
          · left; rw [decide_eq_false k1, decide_eq_false k2, decide_eq_false k3, decide_eq_false k4, decide_eq_true k5]; exact ⟨_, rfl, .inl rfl⟩
          right
          obtain ⟨n1, n2, n3, n4⟩ := next_more st ss (by omega) (a, on) (b, bn) x y i3 i4 (by omega) (by omega) (by omega) (by omega) (by omega)
          rw [decide_eq_false k1, decide_eq_false k2, decide_eq_false k3, decide_eq_false k4, decide_eq_false k5, f_Next _ _ _ _ _ _ _ _ _ _ _ _ _ _ _ _ _ (by omega) (by simp only; omega), f_Next _ _ _ _ _ _ _ _ _ _ _ _ _ _ _ _ _ (by omega) (by simp only; omega)]
          simp only [cond_false, Option.bind_some]
          generalize nextI st ss (a, on) x.1 x.2 = S at *
          generalize nextI st ss (b, bn) y.1 y.2 = T at *
          have hb : (bif S.2 then !T.2 else false) = false := by
            cases h : S.2 with
            | false => rfl
            | true => rw [n4 h]; rfl
          rw [hb, decide_eq_false (show ¬ T.1 < S.1 by omega), wrap_ok (n := i + 1) (by omega)]
          exact ⟨_, rfl, ⟨⟨by simp only; omega, by simp only; omega⟩, by simp only; omega, by simp only; omega, by simp only; omega⟩, by simp only; omega⟩
        · left; rw [decide_eq_false hlt]; exact ⟨_, rfl, .inr rfl⟩
      · rintro x (rfl | rfl) <;> rfl
    · rw [decide_eq_false g1, show ((l.length : Int) != (m.length : Int)) = true by simpa using g2]; rfl
  · have : (wrongC (p, lo, hi, rb, rp, ae, ms, ma, an, st, ss, ro, ti, br) != 0) = true := by simpa using hw
    rw [this]; rfl
end Go.Proofs.Ytckghclpdfbigaa
