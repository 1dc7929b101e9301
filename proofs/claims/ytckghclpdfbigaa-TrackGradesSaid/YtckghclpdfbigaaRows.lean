/-
  No cell of these rows narrows 'for every input' (looked for: loops, veiled, ifaces, maps, wideKeys, modest, calm, conditions, laid).
  DERIVED. THE GIVEN ROWS OF THIS SEAT. 16 by the template 'for every input the law returns true; each argument reads behind the call as it read before'; 0 by the template 'total and deterministic' (their statements: YtckghclpdfbigaaTotals.lean).
  GIVEN WITH THE SEED: the statements are not yours to turn. If you find one false, say at which input.
  Laid BY PROGRAM, IN A SANDBOX (cutbox-rows.mjs): the forced cells as the released guide's own fill.sh prints them over the translation 610010fef2911eb0… (all of the seat's roots in one cut). By AI agents, Wed Nov 11 2026. No macro, syntax, notation, axiom, sorry.
-/
import Derived.Test.YtckghclpdfbigaaChecked
import GoSem.Claim
import GoSem.ClaimJoined
import GoSem.ClaimMapViews
import Derived.JoinedTies
import Derived.KernelRfl
namespace Go.Proofs.Ytckghclpdfbigaa
/- THE CELL 'sum', in the pinned program and in every row, IS THE sha256 OF THE DUMP (.gsa) THAT YtckghclpdfbigaaProg.lean LOADS. Nothing in Lean hashes anything: it is a label: what it is worth is what the hold of that sum in a sandbox is worth. -/
noncomputable def Try.pinned : Pinned := { name := "ytckghclpdfbigaa", sum := "610010fef2911eb01a5635660e55827b7cc2a3125cef859512a6b23420a6f71f", checked := Try.checked }
namespace Rows
def none {H : Type} : Left H := { results := [], args := [] }

/-- 'odographlaw18.StillPlays': WHATEVER THE INPUT: true; the input reads as it did. -/
def stillPlaysSpec : ChangeSpec := { name := "stillPlays", fn := fun _ => fun
  | [d1, d2] => { results := [.lit (.bool true)], args := [d1, d2] }
  | _ => none }
def stillPlaysRow : OpenClaim := { program := "ytckghclpdfbigaa", sum := "610010fef2911eb01a5635660e55827b7cc2a3125cef859512a6b23420a6f71f", func := "odograph/odographlaw18.StillPlays", spec := "stillPlays", apart := false }
def StillPlaysSaid : Prop := stillPlaysRow.holds Try.pinned (OpenSpec.ofChange stillPlaysSpec)

/-- ITS FALSE NEIGHBOUR: 'it returns false'. Refute it at one input. -/
def stillPlaysWrong : ChangeSpec := { name := "stillPlays", fn := fun _ => fun
  | [d1, d2] => { results := [.lit (.bool false)], args := [d1, d2] }
  | _ => none }
def StillPlaysWrongFalsely : Prop := stillPlaysRow.holds Try.pinned (OpenSpec.ofChange stillPlaysWrong)

/-- 'odographlaw18.StillNarrow': WHATEVER THE INPUT: true; the input reads as it did. -/
def stillNarrowSpec : ChangeSpec := { name := "stillNarrow", fn := fun _ => fun
  | [d1, d2, d3] => { results := [.lit (.bool true)], args := [d1, d2, d3] }
  | _ => none }
def stillNarrowRow : OpenClaim := { program := "ytckghclpdfbigaa", sum := "610010fef2911eb01a5635660e55827b7cc2a3125cef859512a6b23420a6f71f", func := "odograph/odographlaw18.StillNarrow", spec := "stillNarrow", apart := false }
def StillNarrowSaid : Prop := stillNarrowRow.holds Try.pinned (OpenSpec.ofChange stillNarrowSpec)

/-- ITS FALSE NEIGHBOUR: 'it returns false'. Refute it at one input. -/
def stillNarrowWrong : ChangeSpec := { name := "stillNarrow", fn := fun _ => fun
  | [d1, d2, d3] => { results := [.lit (.bool false)], args := [d1, d2, d3] }
  | _ => none }
def StillNarrowWrongFalsely : Prop := stillNarrowRow.holds Try.pinned (OpenSpec.ofChange stillNarrowWrong)

/-- 'odographlaw18.StillTrue': WHATEVER THE INPUT: true; the input reads as it did. -/
def stillTrueSpec : ChangeSpec := { name := "stillTrue", fn := fun _ => fun
  | [d1, d2, d3, d4] => { results := [.lit (.bool true)], args := [d1, d2, d3, d4] }
  | _ => none }
def stillTrueRow : OpenClaim := { program := "ytckghclpdfbigaa", sum := "610010fef2911eb01a5635660e55827b7cc2a3125cef859512a6b23420a6f71f", func := "odograph/odographlaw18.StillTrue", spec := "stillTrue", apart := false }
def StillTrueSaid : Prop := stillTrueRow.holds Try.pinned (OpenSpec.ofChange stillTrueSpec)

/-- ITS FALSE NEIGHBOUR: 'it returns false'. Refute it at one input. -/
def stillTrueWrong : ChangeSpec := { name := "stillTrue", fn := fun _ => fun
  | [d1, d2, d3, d4] => { results := [.lit (.bool false)], args := [d1, d2, d3, d4] }
  | _ => none }
def StillTrueWrongFalsely : Prop := stillTrueRow.holds Try.pinned (OpenSpec.ofChange stillTrueWrong)

/-- 'odographlaw10.GradeChecks': WHATEVER THE INPUT: true; the input reads as it did. -/
def gradeChecksSpec : ChangeSpec := { name := "gradeChecks", fn := fun _ => fun
  | [d1, d2] => { results := [.lit (.bool true)], args := [d1, d2] }
  | _ => none }
def gradeChecksRow : OpenClaim := { program := "ytckghclpdfbigaa", sum := "610010fef2911eb01a5635660e55827b7cc2a3125cef859512a6b23420a6f71f", func := "odograph/odographlaw10.GradeChecks", spec := "gradeChecks", unfollowed := true, recurses := true, apart := false }
def GradeChecksSaid : Prop := gradeChecksRow.holds Try.pinned (OpenSpec.ofChange gradeChecksSpec)

/-- ITS FALSE NEIGHBOUR: 'it returns false'. Refute it at one input. -/
def gradeChecksWrong : ChangeSpec := { name := "gradeChecks", fn := fun _ => fun
  | [d1, d2] => { results := [.lit (.bool false)], args := [d1, d2] }
  | _ => none }
def GradeChecksWrongFalsely : Prop := gradeChecksRow.holds Try.pinned (OpenSpec.ofChange gradeChecksWrong)

/-- 'odographlaw10.GradeBounds': WHATEVER THE INPUT: true; the input reads as it did. -/
def gradeBoundsSpec : ChangeSpec := { name := "gradeBounds", fn := fun _ => fun
  | [d1, d2] => { results := [.lit (.bool true)], args := [d1, d2] }
  | _ => none }
def gradeBoundsRow : OpenClaim := { program := "ytckghclpdfbigaa", sum := "610010fef2911eb01a5635660e55827b7cc2a3125cef859512a6b23420a6f71f", func := "odograph/odographlaw10.GradeBounds", spec := "gradeBounds", unfollowed := true, recurses := true, apart := false }
def GradeBoundsSaid : Prop := gradeBoundsRow.holds Try.pinned (OpenSpec.ofChange gradeBoundsSpec)

/-- ITS FALSE NEIGHBOUR: 'it returns false'. Refute it at one input. -/
def gradeBoundsWrong : ChangeSpec := { name := "gradeBounds", fn := fun _ => fun
  | [d1, d2] => { results := [.lit (.bool false)], args := [d1, d2] }
  | _ => none }
def GradeBoundsWrongFalsely : Prop := gradeBoundsRow.holds Try.pinned (OpenSpec.ofChange gradeBoundsWrong)

/-- 'odographlaw10.GradeAt': WHATEVER THE INPUT: true; the input reads as it did. -/
def gradeAtSpec : ChangeSpec := { name := "gradeAt", fn := fun _ => fun
  | [d1, d2, d3] => { results := [.lit (.bool true)], args := [d1, d2, d3] }
  | _ => none }
def gradeAtRow : OpenClaim := { program := "ytckghclpdfbigaa", sum := "610010fef2911eb01a5635660e55827b7cc2a3125cef859512a6b23420a6f71f", func := "odograph/odographlaw10.GradeAt", spec := "gradeAt", unfollowed := true, recurses := true, apart := false }
def GradeAtSaid : Prop := gradeAtRow.holds Try.pinned (OpenSpec.ofChange gradeAtSpec)

/-- ITS FALSE NEIGHBOUR: 'it returns false'. Refute it at one input. -/
def gradeAtWrong : ChangeSpec := { name := "gradeAt", fn := fun _ => fun
  | [d1, d2, d3] => { results := [.lit (.bool false)], args := [d1, d2, d3] }
  | _ => none }
def GradeAtWrongFalsely : Prop := gradeAtRow.holds Try.pinned (OpenSpec.ofChange gradeAtWrong)

/-- 'odographlaw10.GradeWiden': WHATEVER THE INPUT: true; the input reads as it did. -/
def gradeWidenSpec : ChangeSpec := { name := "gradeWiden", fn := fun _ => fun
  | [d1, d2, d3, d4] => { results := [.lit (.bool true)], args := [d1, d2, d3, d4] }
  | _ => none }
def gradeWidenRow : OpenClaim := { program := "ytckghclpdfbigaa", sum := "610010fef2911eb01a5635660e55827b7cc2a3125cef859512a6b23420a6f71f", func := "odograph/odographlaw10.GradeWiden", spec := "gradeWiden", unfollowed := true, recurses := true, apart := false }
def GradeWidenSaid : Prop := gradeWidenRow.holds Try.pinned (OpenSpec.ofChange gradeWidenSpec)

/-- ITS FALSE NEIGHBOUR: 'it returns false'. Refute it at one input. -/
def gradeWidenWrong : ChangeSpec := { name := "gradeWiden", fn := fun _ => fun
  | [d1, d2, d3, d4] => { results := [.lit (.bool false)], args := [d1, d2, d3, d4] }
  | _ => none }
def GradeWidenWrongFalsely : Prop := gradeWidenRow.holds Try.pinned (OpenSpec.ofChange gradeWidenWrong)

/-- 'odographlaw11.TrackChecks': WHATEVER THE INPUT: true; the input reads as it did. -/
def trackChecksSpec : ChangeSpec := { name := "trackChecks", fn := fun _ => fun
  | [d] => { results := [.lit (.bool true)], args := [d] }
  | _ => none }
def trackChecksRow : OpenClaim := { program := "ytckghclpdfbigaa", sum := "610010fef2911eb01a5635660e55827b7cc2a3125cef859512a6b23420a6f71f", func := "odograph/odographlaw11.TrackChecks", spec := "trackChecks", unfollowed := true, recurses := true, apart := false }
def TrackChecksSaid : Prop := trackChecksRow.holds Try.pinned (OpenSpec.ofChange trackChecksSpec)

/-- ITS FALSE NEIGHBOUR: 'it returns false'. Refute it at one input. -/
def trackChecksWrong : ChangeSpec := { name := "trackChecks", fn := fun _ => fun
  | [d] => { results := [.lit (.bool false)], args := [d] }
  | _ => none }
def TrackChecksWrongFalsely : Prop := trackChecksRow.holds Try.pinned (OpenSpec.ofChange trackChecksWrong)

/-- 'odographlaw11.TrackFinds': WHATEVER THE INPUT: true; the input reads as it did. -/
def trackFindsSpec : ChangeSpec := { name := "trackFinds", fn := fun _ => fun
  | [d1, d2] => { results := [.lit (.bool true)], args := [d1, d2] }
  | _ => none }
def trackFindsRow : OpenClaim := { program := "ytckghclpdfbigaa", sum := "610010fef2911eb01a5635660e55827b7cc2a3125cef859512a6b23420a6f71f", func := "odograph/odographlaw11.TrackFinds", spec := "trackFinds", unfollowed := true, recurses := true, apart := false }
def TrackFindsSaid : Prop := trackFindsRow.holds Try.pinned (OpenSpec.ofChange trackFindsSpec)

/-- ITS FALSE NEIGHBOUR: 'it returns false'. Refute it at one input. -/
def trackFindsWrong : ChangeSpec := { name := "trackFinds", fn := fun _ => fun
  | [d1, d2] => { results := [.lit (.bool false)], args := [d1, d2] }
  | _ => none }
def TrackFindsWrongFalsely : Prop := trackFindsRow.holds Try.pinned (OpenSpec.ofChange trackFindsWrong)

/-- 'odographlaw11.TrackLess': WHATEVER THE INPUT: true; the input reads as it did. -/
def trackLessSpec : ChangeSpec := { name := "trackLess", fn := fun _ => fun
  | [d] => { results := [.lit (.bool true)], args := [d] }
  | _ => none }
def trackLessRow : OpenClaim := { program := "ytckghclpdfbigaa", sum := "610010fef2911eb01a5635660e55827b7cc2a3125cef859512a6b23420a6f71f", func := "odograph/odographlaw11.TrackLess", spec := "trackLess", unfollowed := true, recurses := true, apart := false }
def TrackLessSaid : Prop := trackLessRow.holds Try.pinned (OpenSpec.ofChange trackLessSpec)

/-- ITS FALSE NEIGHBOUR: 'it returns false'. Refute it at one input. -/
def trackLessWrong : ChangeSpec := { name := "trackLess", fn := fun _ => fun
  | [d] => { results := [.lit (.bool false)], args := [d] }
  | _ => none }
def TrackLessWrongFalsely : Prop := trackLessRow.holds Try.pinned (OpenSpec.ofChange trackLessWrong)

/-- 'odographlaw36.ApartShares': WHATEVER THE INPUT: true; the input reads as it did. -/
def apartSharesSpec : ChangeSpec := { name := "apartShares", fn := fun _ => fun
  | [d1, d2] => { results := [.lit (.bool true)], args := [d1, d2] }
  | _ => none }
def apartSharesRow : OpenClaim := { program := "ytckghclpdfbigaa", sum := "610010fef2911eb01a5635660e55827b7cc2a3125cef859512a6b23420a6f71f", func := "odograph/odographlaw36.ApartShares", spec := "apartShares", unfollowed := true, recurses := true, apart := false }
def ApartSharesSaid : Prop := apartSharesRow.holds Try.pinned (OpenSpec.ofChange apartSharesSpec)

/-- ITS FALSE NEIGHBOUR: 'it returns false'. Refute it at one input. -/
def apartSharesWrong : ChangeSpec := { name := "apartShares", fn := fun _ => fun
  | [d1, d2] => { results := [.lit (.bool false)], args := [d1, d2] }
  | _ => none }
def ApartSharesWrongFalsely : Prop := apartSharesRow.holds Try.pinned (OpenSpec.ofChange apartSharesWrong)

/-- 'odographlaw36.ApartGaps': WHATEVER THE INPUT: true; the input reads as it did. -/
def apartGapsSpec : ChangeSpec := { name := "apartGaps", fn := fun _ => fun
  | [d1, d2] => { results := [.lit (.bool true)], args := [d1, d2] }
  | _ => none }
def apartGapsRow : OpenClaim := { program := "ytckghclpdfbigaa", sum := "610010fef2911eb01a5635660e55827b7cc2a3125cef859512a6b23420a6f71f", func := "odograph/odographlaw36.ApartGaps", spec := "apartGaps", unfollowed := true, recurses := true, apart := false }
def ApartGapsSaid : Prop := apartGapsRow.holds Try.pinned (OpenSpec.ofChange apartGapsSpec)

/-- ITS FALSE NEIGHBOUR: 'it returns false'. Refute it at one input. -/
def apartGapsWrong : ChangeSpec := { name := "apartGaps", fn := fun _ => fun
  | [d1, d2] => { results := [.lit (.bool false)], args := [d1, d2] }
  | _ => none }
def ApartGapsWrongFalsely : Prop := apartGapsRow.holds Try.pinned (OpenSpec.ofChange apartGapsWrong)

/-- 'odographlaw36.ApartTrue': WHATEVER THE INPUT: true; the input reads as it did. -/
def apartTrueSpec : ChangeSpec := { name := "apartTrue", fn := fun _ => fun
  | [d1, d2, d3, d4] => { results := [.lit (.bool true)], args := [d1, d2, d3, d4] }
  | _ => none }
def apartTrueRow : OpenClaim := { program := "ytckghclpdfbigaa", sum := "610010fef2911eb01a5635660e55827b7cc2a3125cef859512a6b23420a6f71f", func := "odograph/odographlaw36.ApartTrue", spec := "apartTrue", unfollowed := true, recurses := true, apart := false }
def ApartTrueSaid : Prop := apartTrueRow.holds Try.pinned (OpenSpec.ofChange apartTrueSpec)

/-- ITS FALSE NEIGHBOUR: 'it returns false'. Refute it at one input. -/
def apartTrueWrong : ChangeSpec := { name := "apartTrue", fn := fun _ => fun
  | [d1, d2, d3, d4] => { results := [.lit (.bool false)], args := [d1, d2, d3, d4] }
  | _ => none }
def ApartTrueWrongFalsely : Prop := apartTrueRow.holds Try.pinned (OpenSpec.ofChange apartTrueWrong)

/-- 'odographlaw11.TrackFollows': WHATEVER THE INPUT: true; the input reads as it did. -/
def trackFollowsSpec : ChangeSpec := { name := "trackFollows", fn := fun _ => fun
  | [d1, d2, d3] => { results := [.lit (.bool true)], args := [d1, d2, d3] }
  | _ => none }
def trackFollowsRow : OpenClaim := { program := "ytckghclpdfbigaa", sum := "610010fef2911eb01a5635660e55827b7cc2a3125cef859512a6b23420a6f71f", func := "odograph/odographlaw11.TrackFollows", spec := "trackFollows", unfollowed := true, recurses := true, apart := false }
def TrackFollowsSaid : Prop := trackFollowsRow.holds Try.pinned (OpenSpec.ofChange trackFollowsSpec)

/-- ITS FALSE NEIGHBOUR: 'it returns false'. Refute it at one input. -/
def trackFollowsWrong : ChangeSpec := { name := "trackFollows", fn := fun _ => fun
  | [d1, d2, d3] => { results := [.lit (.bool false)], args := [d1, d2, d3] }
  | _ => none }
def TrackFollowsWrongFalsely : Prop := trackFollowsRow.holds Try.pinned (OpenSpec.ofChange trackFollowsWrong)

/-- 'odographlaw11.TrackGrades': WHATEVER THE INPUT: true; the input reads as it did. -/
def trackGradesSpec : ChangeSpec := { name := "trackGrades", fn := fun _ => fun
  | [d] => { results := [.lit (.bool true)], args := [d] }
  | _ => none }
def trackGradesRow : OpenClaim := { program := "ytckghclpdfbigaa", sum := "610010fef2911eb01a5635660e55827b7cc2a3125cef859512a6b23420a6f71f", func := "odograph/odographlaw11.TrackGrades", spec := "trackGrades", unfollowed := true, recurses := true, apart := false }
def TrackGradesSaid : Prop := trackGradesRow.holds Try.pinned (OpenSpec.ofChange trackGradesSpec)

/-- ITS FALSE NEIGHBOUR: 'it returns false'. Refute it at one input. -/
def trackGradesWrong : ChangeSpec := { name := "trackGrades", fn := fun _ => fun
  | [d] => { results := [.lit (.bool false)], args := [d] }
  | _ => none }
def TrackGradesWrongFalsely : Prop := trackGradesRow.holds Try.pinned (OpenSpec.ofChange trackGradesWrong)

/-- 'odographlaw34.BitsRound': WHATEVER THE INPUT: true; the input reads as it did. -/
def bitsRoundSpec : ChangeSpec := { name := "bitsRound", fn := fun _ => fun
  | [d] => { results := [.lit (.bool true)], args := [d] }
  | _ => none }
def bitsRoundRow : OpenClaim := { program := "ytckghclpdfbigaa", sum := "610010fef2911eb01a5635660e55827b7cc2a3125cef859512a6b23420a6f71f", func := "odograph/odographlaw34.BitsRound", spec := "bitsRound", apart := false }
def BitsRoundSaid : Prop := bitsRoundRow.holds Try.pinned (OpenSpec.ofChange bitsRoundSpec)

/-- ITS FALSE NEIGHBOUR: 'it returns false'. Refute it at one input. -/
def bitsRoundWrong : ChangeSpec := { name := "bitsRound", fn := fun _ => fun
  | [d] => { results := [.lit (.bool false)], args := [d] }
  | _ => none }
def BitsRoundWrongFalsely : Prop := bitsRoundRow.holds Try.pinned (OpenSpec.ofChange bitsRoundWrong)

/- THE SECOND FORM. 'bulk': how many values and letters a reading holds, each counted each time it is reached (what is shared counts as often as it is met; a slice's spare places count too). A statement '..UptoSaid' is the law's where the arguments, and the package variables that the reading takes, are together of bulk at most 1048576: NARROWER than '..Said'. Prove '..Said' where nothing that the law and all that it calls make is longer than what came in: it says more and counts as full. Else prove '..UptoSaid'. A law counts once. -/
mutual
def uptoBulk {H : Type} : DataW H → Nat
  | .lit (.string bytes) => bytes.length + 1
  | .lit _ => 1
  | .nil => 1
  | .ptr d => uptoBulk d + 1
  | .slice elems spare => uptoBulkAll elems + uptoBulkAll spare + 1
  | .agg parts => uptoBulkAll parts + 1
  | .iface _ d => uptoBulk d + 1
  | .map entries => uptoBulkEntries entries + 1
  | .held _ => 1
def uptoBulkAll {H : Type} : List (DataW H) → Nat
  | [] => 0
  | d :: r => uptoBulk d + uptoBulkAll r
def uptoBulkEntries {H : Type} : List (Lit × DataW H) → Nat
  | [] => 0
  | x :: r => uptoBulkEntry x + uptoBulkEntries r
def uptoBulkEntry {H : Type} : Lit × DataW H → Nat
  | (.string bytes, d) => bytes.length + uptoBulk d + 1
  | (_, d) => uptoBulk d + 1
 end
def uptoSmall : (H : Type) → List (DataW H) → Bool := fun _ ds => decide (uptoBulkAll ds ≤ 1048576)
def OpenSpec.upto (s : _root_.Go.ChangeSpec) : _root_.Go.OpenSpec := { _root_.Go.OpenSpec.ofChange s with cond := some uptoSmall }

/-- 'odographlaw18.StillPlays', WHERE WHAT IT READS IS OF BULK AT MOST 1048576: true; the input reads as it did. -/
def stillPlaysUptoRow : OpenClaim := { program := "ytckghclpdfbigaa", sum := "610010fef2911eb01a5635660e55827b7cc2a3125cef859512a6b23420a6f71f", func := "odograph/odographlaw18.StillPlays", spec := "stillPlays", apart := false, narrowed := true }
def StillPlaysUptoSaid : Prop := stillPlaysUptoRow.holds Try.pinned (OpenSpec.upto stillPlaysSpec)

/-- 'odographlaw18.StillNarrow', WHERE WHAT IT READS IS OF BULK AT MOST 1048576: true; the input reads as it did. -/
def stillNarrowUptoRow : OpenClaim := { program := "ytckghclpdfbigaa", sum := "610010fef2911eb01a5635660e55827b7cc2a3125cef859512a6b23420a6f71f", func := "odograph/odographlaw18.StillNarrow", spec := "stillNarrow", apart := false, narrowed := true }
def StillNarrowUptoSaid : Prop := stillNarrowUptoRow.holds Try.pinned (OpenSpec.upto stillNarrowSpec)

/-- 'odographlaw18.StillTrue', WHERE WHAT IT READS IS OF BULK AT MOST 1048576: true; the input reads as it did. -/
def stillTrueUptoRow : OpenClaim := { program := "ytckghclpdfbigaa", sum := "610010fef2911eb01a5635660e55827b7cc2a3125cef859512a6b23420a6f71f", func := "odograph/odographlaw18.StillTrue", spec := "stillTrue", apart := false, narrowed := true }
def StillTrueUptoSaid : Prop := stillTrueUptoRow.holds Try.pinned (OpenSpec.upto stillTrueSpec)

/-- 'odographlaw10.GradeChecks', WHERE WHAT IT READS IS OF BULK AT MOST 1048576: true; the input reads as it did. -/
def gradeChecksUptoRow : OpenClaim := { program := "ytckghclpdfbigaa", sum := "610010fef2911eb01a5635660e55827b7cc2a3125cef859512a6b23420a6f71f", func := "odograph/odographlaw10.GradeChecks", spec := "gradeChecks", unfollowed := true, recurses := true, apart := false, narrowed := true }
def GradeChecksUptoSaid : Prop := gradeChecksUptoRow.holds Try.pinned (OpenSpec.upto gradeChecksSpec)

/-- 'odographlaw10.GradeBounds', WHERE WHAT IT READS IS OF BULK AT MOST 1048576: true; the input reads as it did. -/
def gradeBoundsUptoRow : OpenClaim := { program := "ytckghclpdfbigaa", sum := "610010fef2911eb01a5635660e55827b7cc2a3125cef859512a6b23420a6f71f", func := "odograph/odographlaw10.GradeBounds", spec := "gradeBounds", unfollowed := true, recurses := true, apart := false, narrowed := true }
def GradeBoundsUptoSaid : Prop := gradeBoundsUptoRow.holds Try.pinned (OpenSpec.upto gradeBoundsSpec)

/-- 'odographlaw10.GradeAt', WHERE WHAT IT READS IS OF BULK AT MOST 1048576: true; the input reads as it did. -/
def gradeAtUptoRow : OpenClaim := { program := "ytckghclpdfbigaa", sum := "610010fef2911eb01a5635660e55827b7cc2a3125cef859512a6b23420a6f71f", func := "odograph/odographlaw10.GradeAt", spec := "gradeAt", unfollowed := true, recurses := true, apart := false, narrowed := true }
def GradeAtUptoSaid : Prop := gradeAtUptoRow.holds Try.pinned (OpenSpec.upto gradeAtSpec)

/-- 'odographlaw10.GradeWiden', WHERE WHAT IT READS IS OF BULK AT MOST 1048576: true; the input reads as it did. -/
def gradeWidenUptoRow : OpenClaim := { program := "ytckghclpdfbigaa", sum := "610010fef2911eb01a5635660e55827b7cc2a3125cef859512a6b23420a6f71f", func := "odograph/odographlaw10.GradeWiden", spec := "gradeWiden", unfollowed := true, recurses := true, apart := false, narrowed := true }
def GradeWidenUptoSaid : Prop := gradeWidenUptoRow.holds Try.pinned (OpenSpec.upto gradeWidenSpec)

/-- 'odographlaw11.TrackChecks', WHERE WHAT IT READS IS OF BULK AT MOST 1048576: true; the input reads as it did. -/
def trackChecksUptoRow : OpenClaim := { program := "ytckghclpdfbigaa", sum := "610010fef2911eb01a5635660e55827b7cc2a3125cef859512a6b23420a6f71f", func := "odograph/odographlaw11.TrackChecks", spec := "trackChecks", unfollowed := true, recurses := true, apart := false, narrowed := true }
def TrackChecksUptoSaid : Prop := trackChecksUptoRow.holds Try.pinned (OpenSpec.upto trackChecksSpec)

/-- 'odographlaw11.TrackFinds', WHERE WHAT IT READS IS OF BULK AT MOST 1048576: true; the input reads as it did. -/
def trackFindsUptoRow : OpenClaim := { program := "ytckghclpdfbigaa", sum := "610010fef2911eb01a5635660e55827b7cc2a3125cef859512a6b23420a6f71f", func := "odograph/odographlaw11.TrackFinds", spec := "trackFinds", unfollowed := true, recurses := true, apart := false, narrowed := true }
def TrackFindsUptoSaid : Prop := trackFindsUptoRow.holds Try.pinned (OpenSpec.upto trackFindsSpec)

/-- 'odographlaw11.TrackLess', WHERE WHAT IT READS IS OF BULK AT MOST 1048576: true; the input reads as it did. -/
def trackLessUptoRow : OpenClaim := { program := "ytckghclpdfbigaa", sum := "610010fef2911eb01a5635660e55827b7cc2a3125cef859512a6b23420a6f71f", func := "odograph/odographlaw11.TrackLess", spec := "trackLess", unfollowed := true, recurses := true, apart := false, narrowed := true }
def TrackLessUptoSaid : Prop := trackLessUptoRow.holds Try.pinned (OpenSpec.upto trackLessSpec)

/-- 'odographlaw36.ApartShares', WHERE WHAT IT READS IS OF BULK AT MOST 1048576: true; the input reads as it did. -/
def apartSharesUptoRow : OpenClaim := { program := "ytckghclpdfbigaa", sum := "610010fef2911eb01a5635660e55827b7cc2a3125cef859512a6b23420a6f71f", func := "odograph/odographlaw36.ApartShares", spec := "apartShares", unfollowed := true, recurses := true, apart := false, narrowed := true }
def ApartSharesUptoSaid : Prop := apartSharesUptoRow.holds Try.pinned (OpenSpec.upto apartSharesSpec)

/-- 'odographlaw36.ApartGaps', WHERE WHAT IT READS IS OF BULK AT MOST 1048576: true; the input reads as it did. -/
def apartGapsUptoRow : OpenClaim := { program := "ytckghclpdfbigaa", sum := "610010fef2911eb01a5635660e55827b7cc2a3125cef859512a6b23420a6f71f", func := "odograph/odographlaw36.ApartGaps", spec := "apartGaps", unfollowed := true, recurses := true, apart := false, narrowed := true }
def ApartGapsUptoSaid : Prop := apartGapsUptoRow.holds Try.pinned (OpenSpec.upto apartGapsSpec)

/-- 'odographlaw36.ApartTrue', WHERE WHAT IT READS IS OF BULK AT MOST 1048576: true; the input reads as it did. -/
def apartTrueUptoRow : OpenClaim := { program := "ytckghclpdfbigaa", sum := "610010fef2911eb01a5635660e55827b7cc2a3125cef859512a6b23420a6f71f", func := "odograph/odographlaw36.ApartTrue", spec := "apartTrue", unfollowed := true, recurses := true, apart := false, narrowed := true }
def ApartTrueUptoSaid : Prop := apartTrueUptoRow.holds Try.pinned (OpenSpec.upto apartTrueSpec)

/-- 'odographlaw11.TrackFollows', WHERE WHAT IT READS IS OF BULK AT MOST 1048576: true; the input reads as it did. -/
def trackFollowsUptoRow : OpenClaim := { program := "ytckghclpdfbigaa", sum := "610010fef2911eb01a5635660e55827b7cc2a3125cef859512a6b23420a6f71f", func := "odograph/odographlaw11.TrackFollows", spec := "trackFollows", unfollowed := true, recurses := true, apart := false, narrowed := true }
def TrackFollowsUptoSaid : Prop := trackFollowsUptoRow.holds Try.pinned (OpenSpec.upto trackFollowsSpec)

/-- 'odographlaw11.TrackGrades', WHERE WHAT IT READS IS OF BULK AT MOST 1048576: true; the input reads as it did. -/
def trackGradesUptoRow : OpenClaim := { program := "ytckghclpdfbigaa", sum := "610010fef2911eb01a5635660e55827b7cc2a3125cef859512a6b23420a6f71f", func := "odograph/odographlaw11.TrackGrades", spec := "trackGrades", unfollowed := true, recurses := true, apart := false, narrowed := true }
def TrackGradesUptoSaid : Prop := trackGradesUptoRow.holds Try.pinned (OpenSpec.upto trackGradesSpec)

/-- 'odographlaw34.BitsRound', WHERE WHAT IT READS IS OF BULK AT MOST 1048576: true; the input reads as it did. -/
def bitsRoundUptoRow : OpenClaim := { program := "ytckghclpdfbigaa", sum := "610010fef2911eb01a5635660e55827b7cc2a3125cef859512a6b23420a6f71f", func := "odograph/odographlaw34.BitsRound", spec := "bitsRound", apart := false, narrowed := true }
def BitsRoundUptoSaid : Prop := bitsRoundUptoRow.holds Try.pinned (OpenSpec.upto bitsRoundSpec)

end Rows
end Go.Proofs.Ytckghclpdfbigaa
