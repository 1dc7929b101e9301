/-
  No cell of these rows narrows 'for every input' (looked for: loops, veiled, ifaces, maps, wideKeys, modest, calm, conditions, laid).
  DERIVED. THE GIVEN ROWS OF THIS SEAT. 14 by the template 'for every input the law returns true; each argument reads behind the call as it read before'; 0 by the template 'total and deterministic' (their statements: YtbgdgpdfaebniaaTotals.lean).
  GIVEN WITH THE SEED: the statements are not yours to turn. If you find one false, say at which input.
  Laid BY PROGRAM, IN A SANDBOX (cutbox-rows.mjs): the forced cells as the released guide's own fill.sh prints them over the translation 92edb099492b32d3… (all of the seat's roots in one cut). By AI agents, Wed Nov 11 2026. No macro, syntax, notation, axiom, sorry.
-/
import Derived.Test.YtbgdgpdfaebniaaChecked
import GoSem.Claim
import GoSem.ClaimJoined
import GoSem.ClaimMapViews
import Derived.JoinedTies
import Derived.KernelRfl
namespace Go.Proofs.Ytbgdgpdfaebniaa
/- THE CELL 'sum', in the pinned program and in every row, IS THE sha256 OF THE DUMP (.gsa) THAT YtbgdgpdfaebniaaProg.lean LOADS. Nothing in Lean hashes anything: it is a label: what it is worth is what the hold of that sum in a sandbox is worth. -/
noncomputable def Try.pinned : Pinned := { name := "ytbgdgpdfaebniaa", sum := "92edb099492b32d3f80303e39d5d751adf71370235864bdbdcf8add2792c2655", checked := Try.checked }
namespace Rows
def none {H : Type} : Left H := { results := [], args := [] }

/-- 'odographlaw13.ConfChecks': WHATEVER THE INPUT: true; the input reads as it did. -/
def confChecksSpec : ChangeSpec := { name := "confChecks", fn := fun _ => fun
  | [d] => { results := [.lit (.bool true)], args := [d] }
  | _ => none }
def confChecksRow : OpenClaim := { program := "ytbgdgpdfaebniaa", sum := "92edb099492b32d3f80303e39d5d751adf71370235864bdbdcf8add2792c2655", func := "odograph/odographlaw13.ConfChecks", spec := "confChecks", unfollowed := true, recurses := true, apart := false }
def ConfChecksSaid : Prop := confChecksRow.holds Try.pinned (OpenSpec.ofChange confChecksSpec)

/-- ITS FALSE NEIGHBOUR: 'it returns false'. Refute it at one input. -/
def confChecksWrong : ChangeSpec := { name := "confChecks", fn := fun _ => fun
  | [d] => { results := [.lit (.bool false)], args := [d] }
  | _ => none }
def ConfChecksWrongFalsely : Prop := confChecksRow.holds Try.pinned (OpenSpec.ofChange confChecksWrong)

/-- 'odographlaw13.ConfGrowth': WHATEVER THE INPUT: true; the input reads as it did. -/
def confGrowthSpec : ChangeSpec := { name := "confGrowth", fn := fun _ => fun
  | [d] => { results := [.lit (.bool true)], args := [d] }
  | _ => none }
def confGrowthRow : OpenClaim := { program := "ytbgdgpdfaebniaa", sum := "92edb099492b32d3f80303e39d5d751adf71370235864bdbdcf8add2792c2655", func := "odograph/odographlaw13.ConfGrowth", spec := "confGrowth", unfollowed := true, recurses := true, apart := false }
def ConfGrowthSaid : Prop := confGrowthRow.holds Try.pinned (OpenSpec.ofChange confGrowthSpec)

/-- ITS FALSE NEIGHBOUR: 'it returns false'. Refute it at one input. -/
def confGrowthWrong : ChangeSpec := { name := "confGrowth", fn := fun _ => fun
  | [d] => { results := [.lit (.bool false)], args := [d] }
  | _ => none }
def ConfGrowthWrongFalsely : Prop := confGrowthRow.holds Try.pinned (OpenSpec.ofChange confGrowthWrong)

/-- 'odographlaw13.ConfMore': WHATEVER THE INPUT: true; the input reads as it did. -/
def confMoreSpec : ChangeSpec := { name := "confMore", fn := fun _ => fun
  | [d1, d2, d3, d4] => { results := [.lit (.bool true)], args := [d1, d2, d3, d4] }
  | _ => none }
def confMoreRow : OpenClaim := { program := "ytbgdgpdfaebniaa", sum := "92edb099492b32d3f80303e39d5d751adf71370235864bdbdcf8add2792c2655", func := "odograph/odographlaw13.ConfMore", spec := "confMore", unfollowed := true, recurses := true, apart := false }
def ConfMoreSaid : Prop := confMoreRow.holds Try.pinned (OpenSpec.ofChange confMoreSpec)

/-- ITS FALSE NEIGHBOUR: 'it returns false'. Refute it at one input. -/
def confMoreWrong : ChangeSpec := { name := "confMore", fn := fun _ => fun
  | [d1, d2, d3, d4] => { results := [.lit (.bool false)], args := [d1, d2, d3, d4] }
  | _ => none }
def ConfMoreWrongFalsely : Prop := confMoreRow.holds Try.pinned (OpenSpec.ofChange confMoreWrong)

/-- 'odographlaw15.SenseTachos': WHATEVER THE INPUT: true; the input reads as it did. -/
def senseTachosSpec : ChangeSpec := { name := "senseTachos", fn := fun _ => fun
  | [d1, d2, d3] => { results := [.lit (.bool true)], args := [d1, d2, d3] }
  | _ => none }
def senseTachosRow : OpenClaim := { program := "ytbgdgpdfaebniaa", sum := "92edb099492b32d3f80303e39d5d751adf71370235864bdbdcf8add2792c2655", func := "odograph/odographlaw15.SenseTachos", spec := "senseTachos", apart := false }
def SenseTachosSaid : Prop := senseTachosRow.holds Try.pinned (OpenSpec.ofChange senseTachosSpec)

/-- ITS FALSE NEIGHBOUR: 'it returns false'. Refute it at one input. -/
def senseTachosWrong : ChangeSpec := { name := "senseTachos", fn := fun _ => fun
  | [d1, d2, d3] => { results := [.lit (.bool false)], args := [d1, d2, d3] }
  | _ => none }
def SenseTachosWrongFalsely : Prop := senseTachosRow.holds Try.pinned (OpenSpec.ofChange senseTachosWrong)

/-- 'odographlaw15.SenseNarrow': WHATEVER THE INPUT: true; the input reads as it did. -/
def senseNarrowSpec : ChangeSpec := { name := "senseNarrow", fn := fun _ => fun
  | [d1, d2, d3, d4] => { results := [.lit (.bool true)], args := [d1, d2, d3, d4] }
  | _ => none }
def senseNarrowRow : OpenClaim := { program := "ytbgdgpdfaebniaa", sum := "92edb099492b32d3f80303e39d5d751adf71370235864bdbdcf8add2792c2655", func := "odograph/odographlaw15.SenseNarrow", spec := "senseNarrow", apart := false }
def SenseNarrowSaid : Prop := senseNarrowRow.holds Try.pinned (OpenSpec.ofChange senseNarrowSpec)

/-- ITS FALSE NEIGHBOUR: 'it returns false'. Refute it at one input. -/
def senseNarrowWrong : ChangeSpec := { name := "senseNarrow", fn := fun _ => fun
  | [d1, d2, d3, d4] => { results := [.lit (.bool false)], args := [d1, d2, d3, d4] }
  | _ => none }
def SenseNarrowWrongFalsely : Prop := senseNarrowRow.holds Try.pinned (OpenSpec.ofChange senseNarrowWrong)

/-- 'odographlaw15.SenseTrue': WHATEVER THE INPUT: true; the input reads as it did. -/
def senseTrueSpec : ChangeSpec := { name := "senseTrue", fn := fun _ => fun
  | [d1, d2, d3, d4, d5] => { results := [.lit (.bool true)], args := [d1, d2, d3, d4, d5] }
  | _ => none }
def senseTrueRow : OpenClaim := { program := "ytbgdgpdfaebniaa", sum := "92edb099492b32d3f80303e39d5d751adf71370235864bdbdcf8add2792c2655", func := "odograph/odographlaw15.SenseTrue", spec := "senseTrue", apart := false }
def SenseTrueSaid : Prop := senseTrueRow.holds Try.pinned (OpenSpec.ofChange senseTrueSpec)

/-- ITS FALSE NEIGHBOUR: 'it returns false'. Refute it at one input. -/
def senseTrueWrong : ChangeSpec := { name := "senseTrue", fn := fun _ => fun
  | [d1, d2, d3, d4, d5] => { results := [.lit (.bool false)], args := [d1, d2, d3, d4, d5] }
  | _ => none }
def SenseTrueWrongFalsely : Prop := senseTrueRow.holds Try.pinned (OpenSpec.ofChange senseTrueWrong)

/-- 'odographlaw16.WheelLearns': WHATEVER THE INPUT: true; the input reads as it did. -/
def wheelLearnsSpec : ChangeSpec := { name := "wheelLearns", fn := fun _ => fun
  | [d1, d2, d3, d4] => { results := [.lit (.bool true)], args := [d1, d2, d3, d4] }
  | _ => none }
def wheelLearnsRow : OpenClaim := { program := "ytbgdgpdfaebniaa", sum := "92edb099492b32d3f80303e39d5d751adf71370235864bdbdcf8add2792c2655", func := "odograph/odographlaw16.WheelLearns", spec := "wheelLearns", apart := false }
def WheelLearnsSaid : Prop := wheelLearnsRow.holds Try.pinned (OpenSpec.ofChange wheelLearnsSpec)

/-- ITS FALSE NEIGHBOUR: 'it returns false'. Refute it at one input. -/
def wheelLearnsWrong : ChangeSpec := { name := "wheelLearns", fn := fun _ => fun
  | [d1, d2, d3, d4] => { results := [.lit (.bool false)], args := [d1, d2, d3, d4] }
  | _ => none }
def WheelLearnsWrongFalsely : Prop := wheelLearnsRow.holds Try.pinned (OpenSpec.ofChange wheelLearnsWrong)

/-- 'odographlaw16.WheelBack': WHATEVER THE INPUT: true; the input reads as it did. -/
def wheelBackSpec : ChangeSpec := { name := "wheelBack", fn := fun _ => fun
  | [d1, d2, d3, d4] => { results := [.lit (.bool true)], args := [d1, d2, d3, d4] }
  | _ => none }
def wheelBackRow : OpenClaim := { program := "ytbgdgpdfaebniaa", sum := "92edb099492b32d3f80303e39d5d751adf71370235864bdbdcf8add2792c2655", func := "odograph/odographlaw16.WheelBack", spec := "wheelBack", apart := false }
def WheelBackSaid : Prop := wheelBackRow.holds Try.pinned (OpenSpec.ofChange wheelBackSpec)

/-- ITS FALSE NEIGHBOUR: 'it returns false'. Refute it at one input. -/
def wheelBackWrong : ChangeSpec := { name := "wheelBack", fn := fun _ => fun
  | [d1, d2, d3, d4] => { results := [.lit (.bool false)], args := [d1, d2, d3, d4] }
  | _ => none }
def WheelBackWrongFalsely : Prop := wheelBackRow.holds Try.pinned (OpenSpec.ofChange wheelBackWrong)

/-- 'odographlaw16.WheelMore': WHATEVER THE INPUT: true; the input reads as it did. -/
def wheelMoreSpec : ChangeSpec := { name := "wheelMore", fn := fun _ => fun
  | [d1, d2, d3, d4, d5] => { results := [.lit (.bool true)], args := [d1, d2, d3, d4, d5] }
  | _ => none }
def wheelMoreRow : OpenClaim := { program := "ytbgdgpdfaebniaa", sum := "92edb099492b32d3f80303e39d5d751adf71370235864bdbdcf8add2792c2655", func := "odograph/odographlaw16.WheelMore", spec := "wheelMore", apart := false }
def WheelMoreSaid : Prop := wheelMoreRow.holds Try.pinned (OpenSpec.ofChange wheelMoreSpec)

/-- ITS FALSE NEIGHBOUR: 'it returns false'. Refute it at one input. -/
def wheelMoreWrong : ChangeSpec := { name := "wheelMore", fn := fun _ => fun
  | [d1, d2, d3, d4, d5] => { results := [.lit (.bool false)], args := [d1, d2, d3, d4, d5] }
  | _ => none }
def WheelMoreWrongFalsely : Prop := wheelMoreRow.holds Try.pinned (OpenSpec.ofChange wheelMoreWrong)

/-- 'odographlaw16.WheelTrue': WHATEVER THE INPUT: true; the input reads as it did. -/
def wheelTrueSpec : ChangeSpec := { name := "wheelTrue", fn := fun _ => fun
  | [d1, d2, d3, d4, d5, d6] => { results := [.lit (.bool true)], args := [d1, d2, d3, d4, d5, d6] }
  | _ => none }
def wheelTrueRow : OpenClaim := { program := "ytbgdgpdfaebniaa", sum := "92edb099492b32d3f80303e39d5d751adf71370235864bdbdcf8add2792c2655", func := "odograph/odographlaw16.WheelTrue", spec := "wheelTrue", apart := false }
def WheelTrueSaid : Prop := wheelTrueRow.holds Try.pinned (OpenSpec.ofChange wheelTrueSpec)

/-- ITS FALSE NEIGHBOUR: 'it returns false'. Refute it at one input. -/
def wheelTrueWrong : ChangeSpec := { name := "wheelTrue", fn := fun _ => fun
  | [d1, d2, d3, d4, d5, d6] => { results := [.lit (.bool false)], args := [d1, d2, d3, d4, d5, d6] }
  | _ => none }
def WheelTrueWrongFalsely : Prop := wheelTrueRow.holds Try.pinned (OpenSpec.ofChange wheelTrueWrong)

/-- 'odographlaw15.SensePrior': WHATEVER THE INPUT: true; the input reads as it did. -/
def sensePriorSpec : ChangeSpec := { name := "sensePrior", fn := fun _ => fun
  | [d1, d2, d3] => { results := [.lit (.bool true)], args := [d1, d2, d3] }
  | _ => none }
def sensePriorRow : OpenClaim := { program := "ytbgdgpdfaebniaa", sum := "92edb099492b32d3f80303e39d5d751adf71370235864bdbdcf8add2792c2655", func := "odograph/odographlaw15.SensePrior", spec := "sensePrior", apart := false }
def SensePriorSaid : Prop := sensePriorRow.holds Try.pinned (OpenSpec.ofChange sensePriorSpec)

/-- ITS FALSE NEIGHBOUR: 'it returns false'. Refute it at one input. -/
def sensePriorWrong : ChangeSpec := { name := "sensePrior", fn := fun _ => fun
  | [d1, d2, d3] => { results := [.lit (.bool false)], args := [d1, d2, d3] }
  | _ => none }
def SensePriorWrongFalsely : Prop := sensePriorRow.holds Try.pinned (OpenSpec.ofChange sensePriorWrong)

/-- 'odographlaw15.SenseRadar': WHATEVER THE INPUT: true; the input reads as it did. -/
def senseRadarSpec : ChangeSpec := { name := "senseRadar", fn := fun _ => fun
  | [d1, d2, d3] => { results := [.lit (.bool true)], args := [d1, d2, d3] }
  | _ => none }
def senseRadarRow : OpenClaim := { program := "ytbgdgpdfaebniaa", sum := "92edb099492b32d3f80303e39d5d751adf71370235864bdbdcf8add2792c2655", func := "odograph/odographlaw15.SenseRadar", spec := "senseRadar", apart := false }
def SenseRadarSaid : Prop := senseRadarRow.holds Try.pinned (OpenSpec.ofChange senseRadarSpec)

/-- ITS FALSE NEIGHBOUR: 'it returns false'. Refute it at one input. -/
def senseRadarWrong : ChangeSpec := { name := "senseRadar", fn := fun _ => fun
  | [d1, d2, d3] => { results := [.lit (.bool false)], args := [d1, d2, d3] }
  | _ => none }
def SenseRadarWrongFalsely : Prop := senseRadarRow.holds Try.pinned (OpenSpec.ofChange senseRadarWrong)

/-- 'odographlaw13.ConfFits': WHATEVER THE INPUT: true; the input reads as it did. -/
def confFitsSpec : ChangeSpec := { name := "confFits", fn := fun _ => fun
  | [d1, d2] => { results := [.lit (.bool true)], args := [d1, d2] }
  | _ => none }
def confFitsRow : OpenClaim := { program := "ytbgdgpdfaebniaa", sum := "92edb099492b32d3f80303e39d5d751adf71370235864bdbdcf8add2792c2655", func := "odograph/odographlaw13.ConfFits", spec := "confFits", unfollowed := true, recurses := true, apart := false }
def ConfFitsSaid : Prop := confFitsRow.holds Try.pinned (OpenSpec.ofChange confFitsSpec)

/-- ITS FALSE NEIGHBOUR: 'it returns false'. Refute it at one input. -/
def confFitsWrong : ChangeSpec := { name := "confFits", fn := fun _ => fun
  | [d1, d2] => { results := [.lit (.bool false)], args := [d1, d2] }
  | _ => none }
def ConfFitsWrongFalsely : Prop := confFitsRow.holds Try.pinned (OpenSpec.ofChange confFitsWrong)

/-- 'odographlaw15.SenseAccel': WHATEVER THE INPUT: true; the input reads as it did. -/
def senseAccelSpec : ChangeSpec := { name := "senseAccel", fn := fun _ => fun
  | [d1, d2, d3, d4, d5, d6, d7] => { results := [.lit (.bool true)], args := [d1, d2, d3, d4, d5, d6, d7] }
  | _ => none }
def senseAccelRow : OpenClaim := { program := "ytbgdgpdfaebniaa", sum := "92edb099492b32d3f80303e39d5d751adf71370235864bdbdcf8add2792c2655", func := "odograph/odographlaw15.SenseAccel", spec := "senseAccel", apart := false }
def SenseAccelSaid : Prop := senseAccelRow.holds Try.pinned (OpenSpec.ofChange senseAccelSpec)

/-- ITS FALSE NEIGHBOUR: 'it returns false'. Refute it at one input. -/
def senseAccelWrong : ChangeSpec := { name := "senseAccel", fn := fun _ => fun
  | [d1, d2, d3, d4, d5, d6, d7] => { results := [.lit (.bool false)], args := [d1, d2, d3, d4, d5, d6, d7] }
  | _ => none }
def SenseAccelWrongFalsely : Prop := senseAccelRow.holds Try.pinned (OpenSpec.ofChange senseAccelWrong)

/- THE SECOND FORM. 'bulk': how many values and letters a reading holds, each counted each time it is reached (what is shared counts as often as it is met; a slice's spare places count too). A statement '..UptoSaid' is the law's where the arguments, and the package variables that the reading takes, are together of bulk at most 1048576: NARROWER than '..Said'. Prove '..Said' where nothing that the law and all that it calls make is longer than what came in: it says more and counts as full. Else prove '..UptoSaid'. A law counts once. -/
mutual
def uptoBulk {H : Type} : DataW H → Nat
  | .lit (.string bytes) => bytes.length + 1
  | .lit _ => 1
  | .nil => 1
  | .ptr d => uptoBulk d + 1
  | .slice elems spare => uptoBulkAll elems + uptoBulkAll spare + 1
  | .agg parts => uptoBulkAll parts + 1
  | .iface _ d => uptoBulk d + 1
  | .map entries => uptoBulkEntries entries + 1
  | .held _ => 1
def uptoBulkAll {H : Type} : List (DataW H) → Nat
  | [] => 0
  | d :: r => uptoBulk d + uptoBulkAll r
def uptoBulkEntries {H : Type} : List (Lit × DataW H) → Nat
  | [] => 0
  | x :: r => uptoBulkEntry x + uptoBulkEntries r
def uptoBulkEntry {H : Type} : Lit × DataW H → Nat
  | (.string bytes, d) => bytes.length + uptoBulk d + 1
  | (_, d) => uptoBulk d + 1
 end
def uptoSmall : (H : Type) → List (DataW H) → Bool := fun _ ds => decide (uptoBulkAll ds ≤ 1048576)
def OpenSpec.upto (s : _root_.Go.ChangeSpec) : _root_.Go.OpenSpec := { _root_.Go.OpenSpec.ofChange s with cond := some uptoSmall }

/-- 'odographlaw13.ConfChecks', WHERE WHAT IT READS IS OF BULK AT MOST 1048576: true; the input reads as it did. -/
def confChecksUptoRow : OpenClaim := { program := "ytbgdgpdfaebniaa", sum := "92edb099492b32d3f80303e39d5d751adf71370235864bdbdcf8add2792c2655", func := "odograph/odographlaw13.ConfChecks", spec := "confChecks", unfollowed := true, recurses := true, apart := false, narrowed := true }
def ConfChecksUptoSaid : Prop := confChecksUptoRow.holds Try.pinned (OpenSpec.upto confChecksSpec)

/-- 'odographlaw13.ConfGrowth', WHERE WHAT IT READS IS OF BULK AT MOST 1048576: true; the input reads as it did. -/
def confGrowthUptoRow : OpenClaim := { program := "ytbgdgpdfaebniaa", sum := "92edb099492b32d3f80303e39d5d751adf71370235864bdbdcf8add2792c2655", func := "odograph/odographlaw13.ConfGrowth", spec := "confGrowth", unfollowed := true, recurses := true, apart := false, narrowed := true }
def ConfGrowthUptoSaid : Prop := confGrowthUptoRow.holds Try.pinned (OpenSpec.upto confGrowthSpec)

/-- 'odographlaw13.ConfMore', WHERE WHAT IT READS IS OF BULK AT MOST 1048576: true; the input reads as it did. -/
def confMoreUptoRow : OpenClaim := { program := "ytbgdgpdfaebniaa", sum := "92edb099492b32d3f80303e39d5d751adf71370235864bdbdcf8add2792c2655", func := "odograph/odographlaw13.ConfMore", spec := "confMore", unfollowed := true, recurses := true, apart := false, narrowed := true }
def ConfMoreUptoSaid : Prop := confMoreUptoRow.holds Try.pinned (OpenSpec.upto confMoreSpec)

/-- 'odographlaw15.SenseTachos', WHERE WHAT IT READS IS OF BULK AT MOST 1048576: true; the input reads as it did. -/
def senseTachosUptoRow : OpenClaim := { program := "ytbgdgpdfaebniaa", sum := "92edb099492b32d3f80303e39d5d751adf71370235864bdbdcf8add2792c2655", func := "odograph/odographlaw15.SenseTachos", spec := "senseTachos", apart := false, narrowed := true }
def SenseTachosUptoSaid : Prop := senseTachosUptoRow.holds Try.pinned (OpenSpec.upto senseTachosSpec)

/-- 'odographlaw15.SenseNarrow', WHERE WHAT IT READS IS OF BULK AT MOST 1048576: true; the input reads as it did. -/
def senseNarrowUptoRow : OpenClaim := { program := "ytbgdgpdfaebniaa", sum := "92edb099492b32d3f80303e39d5d751adf71370235864bdbdcf8add2792c2655", func := "odograph/odographlaw15.SenseNarrow", spec := "senseNarrow", apart := false, narrowed := true }
def SenseNarrowUptoSaid : Prop := senseNarrowUptoRow.holds Try.pinned (OpenSpec.upto senseNarrowSpec)

/-- 'odographlaw15.SenseTrue', WHERE WHAT IT READS IS OF BULK AT MOST 1048576: true; the input reads as it did. -/
def senseTrueUptoRow : OpenClaim := { program := "ytbgdgpdfaebniaa", sum := "92edb099492b32d3f80303e39d5d751adf71370235864bdbdcf8add2792c2655", func := "odograph/odographlaw15.SenseTrue", spec := "senseTrue", apart := false, narrowed := true }
def SenseTrueUptoSaid : Prop := senseTrueUptoRow.holds Try.pinned (OpenSpec.upto senseTrueSpec)

/-- 'odographlaw16.WheelLearns', WHERE WHAT IT READS IS OF BULK AT MOST 1048576: true; the input reads as it did. -/
def wheelLearnsUptoRow : OpenClaim := { program := "ytbgdgpdfaebniaa", sum := "92edb099492b32d3f80303e39d5d751adf71370235864bdbdcf8add2792c2655", func := "odograph/odographlaw16.WheelLearns", spec := "wheelLearns", apart := false, narrowed := true }
def WheelLearnsUptoSaid : Prop := wheelLearnsUptoRow.holds Try.pinned (OpenSpec.upto wheelLearnsSpec)

/-- 'odographlaw16.WheelBack', WHERE WHAT IT READS IS OF BULK AT MOST 1048576: true; the input reads as it did. -/
def wheelBackUptoRow : OpenClaim := { program := "ytbgdgpdfaebniaa", sum := "92edb099492b32d3f80303e39d5d751adf71370235864bdbdcf8add2792c2655", func := "odograph/odographlaw16.WheelBack", spec := "wheelBack", apart := false, narrowed := true }
def WheelBackUptoSaid : Prop := wheelBackUptoRow.holds Try.pinned (OpenSpec.upto wheelBackSpec)

/-- 'odographlaw16.WheelMore', WHERE WHAT IT READS IS OF BULK AT MOST 1048576: true; the input reads as it did. -/
def wheelMoreUptoRow : OpenClaim := { program := "ytbgdgpdfaebniaa", sum := "92edb099492b32d3f80303e39d5d751adf71370235864bdbdcf8add2792c2655", func := "odograph/odographlaw16.WheelMore", spec := "wheelMore", apart := false, narrowed := true }
def WheelMoreUptoSaid : Prop := wheelMoreUptoRow.holds Try.pinned (OpenSpec.upto wheelMoreSpec)

/-- 'odographlaw16.WheelTrue', WHERE WHAT IT READS IS OF BULK AT MOST 1048576: true; the input reads as it did. -/
def wheelTrueUptoRow : OpenClaim := { program := "ytbgdgpdfaebniaa", sum := "92edb099492b32d3f80303e39d5d751adf71370235864bdbdcf8add2792c2655", func := "odograph/odographlaw16.WheelTrue", spec := "wheelTrue", apart := false, narrowed := true }
def WheelTrueUptoSaid : Prop := wheelTrueUptoRow.holds Try.pinned (OpenSpec.upto wheelTrueSpec)

/-- 'odographlaw15.SensePrior', WHERE WHAT IT READS IS OF BULK AT MOST 1048576: true; the input reads as it did. -/
def sensePriorUptoRow : OpenClaim := { program := "ytbgdgpdfaebniaa", sum := "92edb099492b32d3f80303e39d5d751adf71370235864bdbdcf8add2792c2655", func := "odograph/odographlaw15.SensePrior", spec := "sensePrior", apart := false, narrowed := true }
def SensePriorUptoSaid : Prop := sensePriorUptoRow.holds Try.pinned (OpenSpec.upto sensePriorSpec)

/-- 'odographlaw15.SenseRadar', WHERE WHAT IT READS IS OF BULK AT MOST 1048576: true; the input reads as it did. -/
def senseRadarUptoRow : OpenClaim := { program := "ytbgdgpdfaebniaa", sum := "92edb099492b32d3f80303e39d5d751adf71370235864bdbdcf8add2792c2655", func := "odograph/odographlaw15.SenseRadar", spec := "senseRadar", apart := false, narrowed := true }
def SenseRadarUptoSaid : Prop := senseRadarUptoRow.holds Try.pinned (OpenSpec.upto senseRadarSpec)

/-- 'odographlaw13.ConfFits', WHERE WHAT IT READS IS OF BULK AT MOST 1048576: true; the input reads as it did. -/
def confFitsUptoRow : OpenClaim := { program := "ytbgdgpdfaebniaa", sum := "92edb099492b32d3f80303e39d5d751adf71370235864bdbdcf8add2792c2655", func := "odograph/odographlaw13.ConfFits", spec := "confFits", unfollowed := true, recurses := true, apart := false, narrowed := true }
def ConfFitsUptoSaid : Prop := confFitsUptoRow.holds Try.pinned (OpenSpec.upto confFitsSpec)

/-- 'odographlaw15.SenseAccel', WHERE WHAT IT READS IS OF BULK AT MOST 1048576: true; the input reads as it did. -/
def senseAccelUptoRow : OpenClaim := { program := "ytbgdgpdfaebniaa", sum := "92edb099492b32d3f80303e39d5d751adf71370235864bdbdcf8add2792c2655", func := "odograph/odographlaw15.SenseAccel", spec := "senseAccel", apart := false, narrowed := true }
def SenseAccelUptoSaid : Prop := senseAccelUptoRow.holds Try.pinned (OpenSpec.upto senseAccelSpec)

end Rows
end Go.Proofs.Ytbgdgpdfaebniaa
