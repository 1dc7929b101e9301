/- What the readings of the judge of scripts say: all sensors, reads, junk. -/
import Derived.Test.YtlkcanjbgaeceaaGreatAdmitH
import Derived.Test.YtlkcanjbgaeceaaGreatFnsZ2
set_option linter.unusedSimpArgs false
set_option linter.unusedVariables false
namespace Go.Proofs.YtlkcanjbgaeceaaGreat
open Go.RowKit
noncomputable def commonV (l : List (Int × Int)) : Bool := ((F_vote_Common l).getD ((0, 0), false)).2
theorem f_Common (l : List (Int × Int)) (hl : l.length ≤ 1000) : ∃ s, F_vote_Common l = some (s, commonV l) := by
  obtain ⟨y, h, _⟩ := common_total l hl
  unfold commonV
  rw [h]
  exact ⟨_, rfl⟩
def wrongN (f0 w0 f1 w1 f2 w2 : Bool) : Int := (bif f0 && w0 then 1 else 0) + (bif f1 && w1 then 1 else 0) + (bif f2 && w2 then 1 else 0)
def saidL (f0 f1 f2 : Bool) (s0 s1 s2 : Int × Int) : List (Int × Int) := (bif f0 then [s0] else []) ++ (bif f1 then [s1] else []) ++ (bif f2 then [s2] else [])
noncomputable def sensB (f0 w0 f1 w1 f2 w2 : Bool) (s0 s1 s2 : Int × Int) : Bool :=
  bif wrongN f0 w0 f1 w1 f2 w2 == 0 then true else bif (bif wrongN f0 w0 f1 w1 f2 w2 == 1 then ((saidL f0 f1 f2 s0 s1 s2).length : Int) == 3 else false) then !commonV (saidL f0 f1 f2 s0 s1 s2) else false
noncomputable def sensK (c : Cf) (tk : List Tick) (k0 k1 : List Int) (k : Nat) : Bool :=
  sensB (fitB 0 tk k) ((tk.getD k tk0).2.1.1 != 0) (fitB 1 tk k) ((tk.getD k tk0).2.1.2 != 0) (fitB 2 tk k) (wrongR c (tk.getD k tk0))
    (tachoV c.2.1 c.2.2.1 c.1 (k0.getD (k - 1) 0) (k0.getD k 0)) (tachoV c.2.1 c.2.2.1 c.1 (k1.getD (k - 1) 0) (k1.getD k 0)) (radarV c (tk.getD k tk0))
theorem fit_pos {i : Nat} {tk : List Tick} {k : Nat} (hi : i ≠ 2) (h : fitB i tk k = true) : 0 < k := by
  unfold fitB at h
  rw [if_neg hi] at h
  simp only [Bool.and_eq_true, decide_eq_true_eq] at h
  exact h.1.1
end Go.Proofs.YtlkcanjbgaeceaaGreat
