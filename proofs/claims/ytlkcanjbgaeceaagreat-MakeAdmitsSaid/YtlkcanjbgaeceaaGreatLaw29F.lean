/- MakeSame, MakeAdmits: the anchor. -/
import Derived.Test.YtlkcanjbgaeceaaGreatMakeK
set_option linter.unusedSimpArgs false
set_option linter.unusedVariables false
namespace Go.Proofs.YtlkcanjbgaeceaaGreat
open Go.RowKit
def usual29 : Cf := (1024, 131072, 131072, 0, 0, 0, 1000, 100, 0, 1, 128, 0, 5, 2)
def track29 : Tk := ([(9000, [(0, 0)], [])], [])
theorem f_anchor29 : F_law29_anchor () = some true := by
  unfold F_law29_anchor
  have hs : track29.1.length ≤ 200 → ∀ s ∈ track29.1, s.2.1.length ≤ big ∧ s.2.2.length ≤ big := by
    intro _ s hs
    have : s = (9000, [(0, 0)], []) := by simpa [track29] using hs
    subst this
    unfold big
    exact ⟨by simp, by simp⟩
  obtain ⟨s, e1, h⟩ := f_Make usual29 track29 5 3 hs (by decide) (by decide) (by decide)
  obtain ⟨_, h1, _, ⟨h2, _⟩, _⟩ := h
  have e2 := f_Make_no (0, 0, 0, 0, 0, 0, 0, 0, 0, 0, 0, 0, 0, 0) track29 5 3 hs (.inl (by decide))
  unfold usual29 track29 at e1
  unfold track29 at e2
  simp only []
  rw [e1, Option.bind_some, e2, Option.bind_some]
  simp only [Bool.not_false, cond_true]
  rw [h1, decide_eq_true (show (0 : Int) < s.1.length by omega)]
  rfl
end Go.Proofs.YtlkcanjbgaeceaaGreat
