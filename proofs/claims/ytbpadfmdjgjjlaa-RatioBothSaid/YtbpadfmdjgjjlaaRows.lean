/-
  No cell of these rows narrows 'for every input' (looked for: loops, veiled, ifaces, maps, wideKeys, modest, calm, conditions, laid).
  DERIVED. THE GIVEN ROWS OF THIS SEAT. 16 by the template 'for every input the law returns true; each argument reads behind the call as it read before'; 0 by the template 'total and deterministic' (their statements: YtbpadfmdjgjjlaaTotals.lean).
  GIVEN WITH THE SEED: the statements are not yours to turn. If you find one false, say at which input.
  Laid BY PROGRAM, IN A SANDBOX (cutbox-rows.mjs): the forced cells as the released guide's own fill.sh prints them over the translation 0c7dee8044a71ed9… (all of the seat's roots in one cut). By AI agents, Wed Nov 11 2026. No macro, syntax, notation, axiom, sorry.
-/
import Derived.Test.YtbpadfmdjgjjlaaChecked
import GoSem.Claim
import GoSem.ClaimJoined
import GoSem.ClaimMapViews
import Derived.JoinedTies
import Derived.KernelRfl
namespace Go.Proofs.Ytbpadfmdjgjjlaa
/- THE CELL 'sum', in the pinned program and in every row, IS THE sha256 OF THE DUMP (.gsa) THAT YtbpadfmdjgjjlaaProg.lean LOADS. Nothing in Lean hashes anything: it is a label: what it is worth is what the hold of that sum in a sandbox is worth. -/
noncomputable def Try.pinned : Pinned := { name := "ytbpadfmdjgjjlaa", sum := "0c7dee8044a71ed951cb6005dc1d4bfef228baad0ed6fe473b1ae0469f6c04a3", checked := Try.checked }
namespace Rows
def none {H : Type} : Left H := { results := [], args := [] }

/-- 'odographlaw02.WideProducts': WHATEVER THE INPUT: true; the input reads as it did. -/
def wideProductsSpec : ChangeSpec := { name := "wideProducts", fn := fun _ => fun
  | [d1, d2] => { results := [.lit (.bool true)], args := [d1, d2] }
  | _ => none }
def wideProductsRow : OpenClaim := { program := "ytbpadfmdjgjjlaa", sum := "0c7dee8044a71ed951cb6005dc1d4bfef228baad0ed6fe473b1ae0469f6c04a3", func := "odograph/odographlaw02.WideProducts", spec := "wideProducts", apart := false }
def WideProductsSaid : Prop := wideProductsRow.holds Try.pinned (OpenSpec.ofChange wideProductsSpec)

/-- ITS FALSE NEIGHBOUR: 'it returns false'. Refute it at one input. -/
def wideProductsWrong : ChangeSpec := { name := "wideProducts", fn := fun _ => fun
  | [d1, d2] => { results := [.lit (.bool false)], args := [d1, d2] }
  | _ => none }
def WideProductsWrongFalsely : Prop := wideProductsRow.holds Try.pinned (OpenSpec.ofChange wideProductsWrong)

/-- 'odographlaw02.WideDivides': WHATEVER THE INPUT: true; the input reads as it did. -/
def wideDividesSpec : ChangeSpec := { name := "wideDivides", fn := fun _ => fun
  | [d1, d2] => { results := [.lit (.bool true)], args := [d1, d2] }
  | _ => none }
def wideDividesRow : OpenClaim := { program := "ytbpadfmdjgjjlaa", sum := "0c7dee8044a71ed951cb6005dc1d4bfef228baad0ed6fe473b1ae0469f6c04a3", func := "odograph/odographlaw02.WideDivides", spec := "wideDivides", apart := false }
def WideDividesSaid : Prop := wideDividesRow.holds Try.pinned (OpenSpec.ofChange wideDividesSpec)

/-- ITS FALSE NEIGHBOUR: 'it returns false'. Refute it at one input. -/
def wideDividesWrong : ChangeSpec := { name := "wideDivides", fn := fun _ => fun
  | [d1, d2] => { results := [.lit (.bool false)], args := [d1, d2] }
  | _ => none }
def WideDividesWrongFalsely : Prop := wideDividesRow.holds Try.pinned (OpenSpec.ofChange wideDividesWrong)

/-- 'odographlaw02.WideRoots': WHATEVER THE INPUT: true; the input reads as it did. -/
def wideRootsSpec : ChangeSpec := { name := "wideRoots", fn := fun _ => fun
  | [d] => { results := [.lit (.bool true)], args := [d] }
  | _ => none }
def wideRootsRow : OpenClaim := { program := "ytbpadfmdjgjjlaa", sum := "0c7dee8044a71ed951cb6005dc1d4bfef228baad0ed6fe473b1ae0469f6c04a3", func := "odograph/odographlaw02.WideRoots", spec := "wideRoots", apart := false }
def WideRootsSaid : Prop := wideRootsRow.holds Try.pinned (OpenSpec.ofChange wideRootsSpec)

/-- ITS FALSE NEIGHBOUR: 'it returns false'. Refute it at one input. -/
def wideRootsWrong : ChangeSpec := { name := "wideRoots", fn := fun _ => fun
  | [d] => { results := [.lit (.bool false)], args := [d] }
  | _ => none }
def WideRootsWrongFalsely : Prop := wideRootsRow.holds Try.pinned (OpenSpec.ofChange wideRootsWrong)

/-- 'odographlaw02.WideBack': WHATEVER THE INPUT: true; the input reads as it did. -/
def wideBackSpec : ChangeSpec := { name := "wideBack", fn := fun _ => fun
  | [d1, d2] => { results := [.lit (.bool true)], args := [d1, d2] }
  | _ => none }
def wideBackRow : OpenClaim := { program := "ytbpadfmdjgjjlaa", sum := "0c7dee8044a71ed951cb6005dc1d4bfef228baad0ed6fe473b1ae0469f6c04a3", func := "odograph/odographlaw02.WideBack", spec := "wideBack", apart := false }
def WideBackSaid : Prop := wideBackRow.holds Try.pinned (OpenSpec.ofChange wideBackSpec)

/-- ITS FALSE NEIGHBOUR: 'it returns false'. Refute it at one input. -/
def wideBackWrong : ChangeSpec := { name := "wideBack", fn := fun _ => fun
  | [d1, d2] => { results := [.lit (.bool false)], args := [d1, d2] }
  | _ => none }
def WideBackWrongFalsely : Prop := wideBackRow.holds Try.pinned (OpenSpec.ofChange wideBackWrong)

/-- 'odographlaw02.WideShifts': WHATEVER THE INPUT: true; the input reads as it did. -/
def wideShiftsSpec : ChangeSpec := { name := "wideShifts", fn := fun _ => fun
  | [d1, d2] => { results := [.lit (.bool true)], args := [d1, d2] }
  | _ => none }
def wideShiftsRow : OpenClaim := { program := "ytbpadfmdjgjjlaa", sum := "0c7dee8044a71ed951cb6005dc1d4bfef228baad0ed6fe473b1ae0469f6c04a3", func := "odograph/odographlaw02.WideShifts", spec := "wideShifts", apart := false }
def WideShiftsSaid : Prop := wideShiftsRow.holds Try.pinned (OpenSpec.ofChange wideShiftsSpec)

/-- ITS FALSE NEIGHBOUR: 'it returns false'. Refute it at one input. -/
def wideShiftsWrong : ChangeSpec := { name := "wideShifts", fn := fun _ => fun
  | [d1, d2] => { results := [.lit (.bool false)], args := [d1, d2] }
  | _ => none }
def WideShiftsWrongFalsely : Prop := wideShiftsRow.holds Try.pinned (OpenSpec.ofChange wideShiftsWrong)

/-- 'odographlaw02.WideSums': WHATEVER THE INPUT: true; the input reads as it did. -/
def wideSumsSpec : ChangeSpec := { name := "wideSums", fn := fun _ => fun
  | [d1, d2] => { results := [.lit (.bool true)], args := [d1, d2] }
  | _ => none }
def wideSumsRow : OpenClaim := { program := "ytbpadfmdjgjjlaa", sum := "0c7dee8044a71ed951cb6005dc1d4bfef228baad0ed6fe473b1ae0469f6c04a3", func := "odograph/odographlaw02.WideSums", spec := "wideSums", apart := false }
def WideSumsSaid : Prop := wideSumsRow.holds Try.pinned (OpenSpec.ofChange wideSumsSpec)

/-- ITS FALSE NEIGHBOUR: 'it returns false'. Refute it at one input. -/
def wideSumsWrong : ChangeSpec := { name := "wideSums", fn := fun _ => fun
  | [d1, d2] => { results := [.lit (.bool false)], args := [d1, d2] }
  | _ => none }
def WideSumsWrongFalsely : Prop := wideSumsRow.holds Try.pinned (OpenSpec.ofChange wideSumsWrong)

/-- 'odographlaw03.RatioFloors': WHATEVER THE INPUT: true; the input reads as it did. -/
def ratioFloorsSpec : ChangeSpec := { name := "ratioFloors", fn := fun _ => fun
  | [d1, d2, d3] => { results := [.lit (.bool true)], args := [d1, d2, d3] }
  | _ => none }
def ratioFloorsRow : OpenClaim := { program := "ytbpadfmdjgjjlaa", sum := "0c7dee8044a71ed951cb6005dc1d4bfef228baad0ed6fe473b1ae0469f6c04a3", func := "odograph/odographlaw03.RatioFloors", spec := "ratioFloors", apart := false }
def RatioFloorsSaid : Prop := ratioFloorsRow.holds Try.pinned (OpenSpec.ofChange ratioFloorsSpec)

/-- ITS FALSE NEIGHBOUR: 'it returns false'. Refute it at one input. -/
def ratioFloorsWrong : ChangeSpec := { name := "ratioFloors", fn := fun _ => fun
  | [d1, d2, d3] => { results := [.lit (.bool false)], args := [d1, d2, d3] }
  | _ => none }
def RatioFloorsWrongFalsely : Prop := ratioFloorsRow.holds Try.pinned (OpenSpec.ofChange ratioFloorsWrong)

/-- 'odographlaw03.RatioCeils': WHATEVER THE INPUT: true; the input reads as it did. -/
def ratioCeilsSpec : ChangeSpec := { name := "ratioCeils", fn := fun _ => fun
  | [d1, d2, d3] => { results := [.lit (.bool true)], args := [d1, d2, d3] }
  | _ => none }
def ratioCeilsRow : OpenClaim := { program := "ytbpadfmdjgjjlaa", sum := "0c7dee8044a71ed951cb6005dc1d4bfef228baad0ed6fe473b1ae0469f6c04a3", func := "odograph/odographlaw03.RatioCeils", spec := "ratioCeils", apart := false }
def RatioCeilsSaid : Prop := ratioCeilsRow.holds Try.pinned (OpenSpec.ofChange ratioCeilsSpec)

/-- ITS FALSE NEIGHBOUR: 'it returns false'. Refute it at one input. -/
def ratioCeilsWrong : ChangeSpec := { name := "ratioCeils", fn := fun _ => fun
  | [d1, d2, d3] => { results := [.lit (.bool false)], args := [d1, d2, d3] }
  | _ => none }
def RatioCeilsWrongFalsely : Prop := ratioCeilsRow.holds Try.pinned (OpenSpec.ofChange ratioCeilsWrong)

/-- 'odographlaw03.RatioBoth': WHATEVER THE INPUT: true; the input reads as it did. -/
def ratioBothSpec : ChangeSpec := { name := "ratioBoth", fn := fun _ => fun
  | [d1, d2, d3] => { results := [.lit (.bool true)], args := [d1, d2, d3] }
  | _ => none }
def ratioBothRow : OpenClaim := { program := "ytbpadfmdjgjjlaa", sum := "0c7dee8044a71ed951cb6005dc1d4bfef228baad0ed6fe473b1ae0469f6c04a3", func := "odograph/odographlaw03.RatioBoth", spec := "ratioBoth", apart := false }
def RatioBothSaid : Prop := ratioBothRow.holds Try.pinned (OpenSpec.ofChange ratioBothSpec)

/-- ITS FALSE NEIGHBOUR: 'it returns false'. Refute it at one input. -/
def ratioBothWrong : ChangeSpec := { name := "ratioBoth", fn := fun _ => fun
  | [d1, d2, d3] => { results := [.lit (.bool false)], args := [d1, d2, d3] }
  | _ => none }
def RatioBothWrongFalsely : Prop := ratioBothRow.holds Try.pinned (OpenSpec.ofChange ratioBothWrong)

/-- 'odographlaw03.RatioOrder': WHATEVER THE INPUT: true; the input reads as it did. -/
def ratioOrderSpec : ChangeSpec := { name := "ratioOrder", fn := fun _ => fun
  | [d1, d2, d3, d4] => { results := [.lit (.bool true)], args := [d1, d2, d3, d4] }
  | _ => none }
def ratioOrderRow : OpenClaim := { program := "ytbpadfmdjgjjlaa", sum := "0c7dee8044a71ed951cb6005dc1d4bfef228baad0ed6fe473b1ae0469f6c04a3", func := "odograph/odographlaw03.RatioOrder", spec := "ratioOrder", apart := false }
def RatioOrderSaid : Prop := ratioOrderRow.holds Try.pinned (OpenSpec.ofChange ratioOrderSpec)

/-- ITS FALSE NEIGHBOUR: 'it returns false'. Refute it at one input. -/
def ratioOrderWrong : ChangeSpec := { name := "ratioOrder", fn := fun _ => fun
  | [d1, d2, d3, d4] => { results := [.lit (.bool false)], args := [d1, d2, d3, d4] }
  | _ => none }
def RatioOrderWrongFalsely : Prop := ratioOrderRow.holds Try.pinned (OpenSpec.ofChange ratioOrderWrong)

/-- 'odographlaw03.RatioRoots': WHATEVER THE INPUT: true; the input reads as it did. -/
def ratioRootsSpec : ChangeSpec := { name := "ratioRoots", fn := fun _ => fun
  | [d1, d2] => { results := [.lit (.bool true)], args := [d1, d2] }
  | _ => none }
def ratioRootsRow : OpenClaim := { program := "ytbpadfmdjgjjlaa", sum := "0c7dee8044a71ed951cb6005dc1d4bfef228baad0ed6fe473b1ae0469f6c04a3", func := "odograph/odographlaw03.RatioRoots", spec := "ratioRoots", apart := false }
def RatioRootsSaid : Prop := ratioRootsRow.holds Try.pinned (OpenSpec.ofChange ratioRootsSpec)

/-- ITS FALSE NEIGHBOUR: 'it returns false'. Refute it at one input. -/
def ratioRootsWrong : ChangeSpec := { name := "ratioRoots", fn := fun _ => fun
  | [d1, d2] => { results := [.lit (.bool false)], args := [d1, d2] }
  | _ => none }
def RatioRootsWrongFalsely : Prop := ratioRootsRow.holds Try.pinned (OpenSpec.ofChange ratioRootsWrong)

/-- 'odographlaw04.SpanTimes': WHATEVER THE INPUT: true; the input reads as it did. -/
def spanTimesSpec : ChangeSpec := { name := "spanTimes", fn := fun _ => fun
  | [d1, d2, d3] => { results := [.lit (.bool true)], args := [d1, d2, d3] }
  | _ => none }
def spanTimesRow : OpenClaim := { program := "ytbpadfmdjgjjlaa", sum := "0c7dee8044a71ed951cb6005dc1d4bfef228baad0ed6fe473b1ae0469f6c04a3", func := "odograph/odographlaw04.SpanTimes", spec := "spanTimes", apart := false }
def SpanTimesSaid : Prop := spanTimesRow.holds Try.pinned (OpenSpec.ofChange spanTimesSpec)

/-- ITS FALSE NEIGHBOUR: 'it returns false'. Refute it at one input. -/
def spanTimesWrong : ChangeSpec := { name := "spanTimes", fn := fun _ => fun
  | [d1, d2, d3] => { results := [.lit (.bool false)], args := [d1, d2, d3] }
  | _ => none }
def SpanTimesWrongFalsely : Prop := spanTimesRow.holds Try.pinned (OpenSpec.ofChange spanTimesWrong)

/-- 'odographlaw04.SpanLaws': WHATEVER THE INPUT: true; the input reads as it did. -/
def spanLawsSpec : ChangeSpec := { name := "spanLaws", fn := fun _ => fun
  | [d1, d2, d3] => { results := [.lit (.bool true)], args := [d1, d2, d3] }
  | _ => none }
def spanLawsRow : OpenClaim := { program := "ytbpadfmdjgjjlaa", sum := "0c7dee8044a71ed951cb6005dc1d4bfef228baad0ed6fe473b1ae0469f6c04a3", func := "odograph/odographlaw04.SpanLaws", spec := "spanLaws", apart := false }
def SpanLawsSaid : Prop := spanLawsRow.holds Try.pinned (OpenSpec.ofChange spanLawsSpec)

/-- ITS FALSE NEIGHBOUR: 'it returns false'. Refute it at one input. -/
def spanLawsWrong : ChangeSpec := { name := "spanLaws", fn := fun _ => fun
  | [d1, d2, d3] => { results := [.lit (.bool false)], args := [d1, d2, d3] }
  | _ => none }
def SpanLawsWrongFalsely : Prop := spanLawsRow.holds Try.pinned (OpenSpec.ofChange spanLawsWrong)

/-- 'odographlaw04.SpanWidths': WHATEVER THE INPUT: true; the input reads as it did. -/
def spanWidthsSpec : ChangeSpec := { name := "spanWidths", fn := fun _ => fun
  | [d] => { results := [.lit (.bool true)], args := [d] }
  | _ => none }
def spanWidthsRow : OpenClaim := { program := "ytbpadfmdjgjjlaa", sum := "0c7dee8044a71ed951cb6005dc1d4bfef228baad0ed6fe473b1ae0469f6c04a3", func := "odograph/odographlaw04.SpanWidths", spec := "spanWidths", apart := false }
def SpanWidthsSaid : Prop := spanWidthsRow.holds Try.pinned (OpenSpec.ofChange spanWidthsSpec)

/-- ITS FALSE NEIGHBOUR: 'it returns false'. Refute it at one input. -/
def spanWidthsWrong : ChangeSpec := { name := "spanWidths", fn := fun _ => fun
  | [d] => { results := [.lit (.bool false)], args := [d] }
  | _ => none }
def SpanWidthsWrongFalsely : Prop := spanWidthsRow.holds Try.pinned (OpenSpec.ofChange spanWidthsWrong)

/-- 'odographlaw04.SpanHas': WHATEVER THE INPUT: true; the input reads as it did. -/
def spanHasSpec : ChangeSpec := { name := "spanHas", fn := fun _ => fun
  | [d1, d2, d3] => { results := [.lit (.bool true)], args := [d1, d2, d3] }
  | _ => none }
def spanHasRow : OpenClaim := { program := "ytbpadfmdjgjjlaa", sum := "0c7dee8044a71ed951cb6005dc1d4bfef228baad0ed6fe473b1ae0469f6c04a3", func := "odograph/odographlaw04.SpanHas", spec := "spanHas", apart := false }
def SpanHasSaid : Prop := spanHasRow.holds Try.pinned (OpenSpec.ofChange spanHasSpec)

/-- ITS FALSE NEIGHBOUR: 'it returns false'. Refute it at one input. -/
def spanHasWrong : ChangeSpec := { name := "spanHas", fn := fun _ => fun
  | [d1, d2, d3] => { results := [.lit (.bool false)], args := [d1, d2, d3] }
  | _ => none }
def SpanHasWrongFalsely : Prop := spanHasRow.holds Try.pinned (OpenSpec.ofChange spanHasWrong)

/-- 'odographlaw04.SpanSums': WHATEVER THE INPUT: true; the input reads as it did. -/
def spanSumsSpec : ChangeSpec := { name := "spanSums", fn := fun _ => fun
  | [d1, d2, d3] => { results := [.lit (.bool true)], args := [d1, d2, d3] }
  | _ => none }
def spanSumsRow : OpenClaim := { program := "ytbpadfmdjgjjlaa", sum := "0c7dee8044a71ed951cb6005dc1d4bfef228baad0ed6fe473b1ae0469f6c04a3", func := "odograph/odographlaw04.SpanSums", spec := "spanSums", apart := false }
def SpanSumsSaid : Prop := spanSumsRow.holds Try.pinned (OpenSpec.ofChange spanSumsSpec)

/-- ITS FALSE NEIGHBOUR: 'it returns false'. Refute it at one input. -/
def spanSumsWrong : ChangeSpec := { name := "spanSums", fn := fun _ => fun
  | [d1, d2, d3] => { results := [.lit (.bool false)], args := [d1, d2, d3] }
  | _ => none }
def SpanSumsWrongFalsely : Prop := spanSumsRow.holds Try.pinned (OpenSpec.ofChange spanSumsWrong)

/- THE SECOND FORM. 'bulk': how many values and letters a reading holds, each counted each time it is reached (what is shared counts as often as it is met; a slice's spare places count too). A statement '..UptoSaid' is the law's where the arguments, and the package variables that the reading takes, are together of bulk at most 1048576: NARROWER than '..Said'. Prove '..Said' where nothing that the law and all that it calls make is longer than what came in: it says more and counts as full. Else prove '..UptoSaid'. A law counts once. -/
mutual
def uptoBulk {H : Type} : DataW H → Nat
  | .lit (.string bytes) => bytes.length + 1
  | .lit _ => 1
  | .nil => 1
  | .ptr d => uptoBulk d + 1
  | .slice elems spare => uptoBulkAll elems + uptoBulkAll spare + 1
  | .agg parts => uptoBulkAll parts + 1
  | .iface _ d => uptoBulk d + 1
  | .map entries => uptoBulkEntries entries + 1
  | .held _ => 1
def uptoBulkAll {H : Type} : List (DataW H) → Nat
  | [] => 0
  | d :: r => uptoBulk d + uptoBulkAll r
def uptoBulkEntries {H : Type} : List (Lit × DataW H) → Nat
  | [] => 0
  | x :: r => uptoBulkEntry x + uptoBulkEntries r
def uptoBulkEntry {H : Type} : Lit × DataW H → Nat
  | (.string bytes, d) => bytes.length + uptoBulk d + 1
  | (_, d) => uptoBulk d + 1
 end
def uptoSmall : (H : Type) → List (DataW H) → Bool := fun _ ds => decide (uptoBulkAll ds ≤ 1048576)
def OpenSpec.upto (s : _root_.Go.ChangeSpec) : _root_.Go.OpenSpec := { _root_.Go.OpenSpec.ofChange s with cond := some uptoSmall }

/-- 'odographlaw02.WideProducts', WHERE WHAT IT READS IS OF BULK AT MOST 1048576: true; the input reads as it did. -/
def wideProductsUptoRow : OpenClaim := { program := "ytbpadfmdjgjjlaa", sum := "0c7dee8044a71ed951cb6005dc1d4bfef228baad0ed6fe473b1ae0469f6c04a3", func := "odograph/odographlaw02.WideProducts", spec := "wideProducts", apart := false, narrowed := true }
def WideProductsUptoSaid : Prop := wideProductsUptoRow.holds Try.pinned (OpenSpec.upto wideProductsSpec)

/-- 'odographlaw02.WideDivides', WHERE WHAT IT READS IS OF BULK AT MOST 1048576: true; the input reads as it did. -/
def wideDividesUptoRow : OpenClaim := { program := "ytbpadfmdjgjjlaa", sum := "0c7dee8044a71ed951cb6005dc1d4bfef228baad0ed6fe473b1ae0469f6c04a3", func := "odograph/odographlaw02.WideDivides", spec := "wideDivides", apart := false, narrowed := true }
def WideDividesUptoSaid : Prop := wideDividesUptoRow.holds Try.pinned (OpenSpec.upto wideDividesSpec)

/-- 'odographlaw02.WideRoots', WHERE WHAT IT READS IS OF BULK AT MOST 1048576: true; the input reads as it did. -/
def wideRootsUptoRow : OpenClaim := { program := "ytbpadfmdjgjjlaa", sum := "0c7dee8044a71ed951cb6005dc1d4bfef228baad0ed6fe473b1ae0469f6c04a3", func := "odograph/odographlaw02.WideRoots", spec := "wideRoots", apart := false, narrowed := true }
def WideRootsUptoSaid : Prop := wideRootsUptoRow.holds Try.pinned (OpenSpec.upto wideRootsSpec)

/-- 'odographlaw02.WideBack', WHERE WHAT IT READS IS OF BULK AT MOST 1048576: true; the input reads as it did. -/
def wideBackUptoRow : OpenClaim := { program := "ytbpadfmdjgjjlaa", sum := "0c7dee8044a71ed951cb6005dc1d4bfef228baad0ed6fe473b1ae0469f6c04a3", func := "odograph/odographlaw02.WideBack", spec := "wideBack", apart := false, narrowed := true }
def WideBackUptoSaid : Prop := wideBackUptoRow.holds Try.pinned (OpenSpec.upto wideBackSpec)

/-- 'odographlaw02.WideShifts', WHERE WHAT IT READS IS OF BULK AT MOST 1048576: true; the input reads as it did. -/
def wideShiftsUptoRow : OpenClaim := { program := "ytbpadfmdjgjjlaa", sum := "0c7dee8044a71ed951cb6005dc1d4bfef228baad0ed6fe473b1ae0469f6c04a3", func := "odograph/odographlaw02.WideShifts", spec := "wideShifts", apart := false, narrowed := true }
def WideShiftsUptoSaid : Prop := wideShiftsUptoRow.holds Try.pinned (OpenSpec.upto wideShiftsSpec)

/-- 'odographlaw02.WideSums', WHERE WHAT IT READS IS OF BULK AT MOST 1048576: true; the input reads as it did. -/
def wideSumsUptoRow : OpenClaim := { program := "ytbpadfmdjgjjlaa", sum := "0c7dee8044a71ed951cb6005dc1d4bfef228baad0ed6fe473b1ae0469f6c04a3", func := "odograph/odographlaw02.WideSums", spec := "wideSums", apart := false, narrowed := true }
def WideSumsUptoSaid : Prop := wideSumsUptoRow.holds Try.pinned (OpenSpec.upto wideSumsSpec)

/-- 'odographlaw03.RatioFloors', WHERE WHAT IT READS IS OF BULK AT MOST 1048576: true; the input reads as it did. -/
def ratioFloorsUptoRow : OpenClaim := { program := "ytbpadfmdjgjjlaa", sum := "0c7dee8044a71ed951cb6005dc1d4bfef228baad0ed6fe473b1ae0469f6c04a3", func := "odograph/odographlaw03.RatioFloors", spec := "ratioFloors", apart := false, narrowed := true }
def RatioFloorsUptoSaid : Prop := ratioFloorsUptoRow.holds Try.pinned (OpenSpec.upto ratioFloorsSpec)

/-- 'odographlaw03.RatioCeils', WHERE WHAT IT READS IS OF BULK AT MOST 1048576: true; the input reads as it did. -/
def ratioCeilsUptoRow : OpenClaim := { program := "ytbpadfmdjgjjlaa", sum := "0c7dee8044a71ed951cb6005dc1d4bfef228baad0ed6fe473b1ae0469f6c04a3", func := "odograph/odographlaw03.RatioCeils", spec := "ratioCeils", apart := false, narrowed := true }
def RatioCeilsUptoSaid : Prop := ratioCeilsUptoRow.holds Try.pinned (OpenSpec.upto ratioCeilsSpec)

/-- 'odographlaw03.RatioBoth', WHERE WHAT IT READS IS OF BULK AT MOST 1048576: true; the input reads as it did. -/
def ratioBothUptoRow : OpenClaim := { program := "ytbpadfmdjgjjlaa", sum := "0c7dee8044a71ed951cb6005dc1d4bfef228baad0ed6fe473b1ae0469f6c04a3", func := "odograph/odographlaw03.RatioBoth", spec := "ratioBoth", apart := false, narrowed := true }
def RatioBothUptoSaid : Prop := ratioBothUptoRow.holds Try.pinned (OpenSpec.upto ratioBothSpec)

/-- 'odographlaw03.RatioOrder', WHERE WHAT IT READS IS OF BULK AT MOST 1048576: true; the input reads as it did. -/
def ratioOrderUptoRow : OpenClaim := { program := "ytbpadfmdjgjjlaa", sum := "0c7dee8044a71ed951cb6005dc1d4bfef228baad0ed6fe473b1ae0469f6c04a3", func := "odograph/odographlaw03.RatioOrder", spec := "ratioOrder", apart := false, narrowed := true }
def RatioOrderUptoSaid : Prop := ratioOrderUptoRow.holds Try.pinned (OpenSpec.upto ratioOrderSpec)

/-- 'odographlaw03.RatioRoots', WHERE WHAT IT READS IS OF BULK AT MOST 1048576: true; the input reads as it did. -/
def ratioRootsUptoRow : OpenClaim := { program := "ytbpadfmdjgjjlaa", sum := "0c7dee8044a71ed951cb6005dc1d4bfef228baad0ed6fe473b1ae0469f6c04a3", func := "odograph/odographlaw03.RatioRoots", spec := "ratioRoots", apart := false, narrowed := true }
def RatioRootsUptoSaid : Prop := ratioRootsUptoRow.holds Try.pinned (OpenSpec.upto ratioRootsSpec)

/-- 'odographlaw04.SpanTimes', WHERE WHAT IT READS IS OF BULK AT MOST 1048576: true; the input reads as it did. -/
def spanTimesUptoRow : OpenClaim := { program := "ytbpadfmdjgjjlaa", sum := "0c7dee8044a71ed951cb6005dc1d4bfef228baad0ed6fe473b1ae0469f6c04a3", func := "odograph/odographlaw04.SpanTimes", spec := "spanTimes", apart := false, narrowed := true }
def SpanTimesUptoSaid : Prop := spanTimesUptoRow.holds Try.pinned (OpenSpec.upto spanTimesSpec)

/-- 'odographlaw04.SpanLaws', WHERE WHAT IT READS IS OF BULK AT MOST 1048576: true; the input reads as it did. -/
def spanLawsUptoRow : OpenClaim := { program := "ytbpadfmdjgjjlaa", sum := "0c7dee8044a71ed951cb6005dc1d4bfef228baad0ed6fe473b1ae0469f6c04a3", func := "odograph/odographlaw04.SpanLaws", spec := "spanLaws", apart := false, narrowed := true }
def SpanLawsUptoSaid : Prop := spanLawsUptoRow.holds Try.pinned (OpenSpec.upto spanLawsSpec)

/-- 'odographlaw04.SpanWidths', WHERE WHAT IT READS IS OF BULK AT MOST 1048576: true; the input reads as it did. -/
def spanWidthsUptoRow : OpenClaim := { program := "ytbpadfmdjgjjlaa", sum := "0c7dee8044a71ed951cb6005dc1d4bfef228baad0ed6fe473b1ae0469f6c04a3", func := "odograph/odographlaw04.SpanWidths", spec := "spanWidths", apart := false, narrowed := true }
def SpanWidthsUptoSaid : Prop := spanWidthsUptoRow.holds Try.pinned (OpenSpec.upto spanWidthsSpec)

/-- 'odographlaw04.SpanHas', WHERE WHAT IT READS IS OF BULK AT MOST 1048576: true; the input reads as it did. -/
def spanHasUptoRow : OpenClaim := { program := "ytbpadfmdjgjjlaa", sum := "0c7dee8044a71ed951cb6005dc1d4bfef228baad0ed6fe473b1ae0469f6c04a3", func := "odograph/odographlaw04.SpanHas", spec := "spanHas", apart := false, narrowed := true }
def SpanHasUptoSaid : Prop := spanHasUptoRow.holds Try.pinned (OpenSpec.upto spanHasSpec)

/-- 'odographlaw04.SpanSums', WHERE WHAT IT READS IS OF BULK AT MOST 1048576: true; the input reads as it did. -/
def spanSumsUptoRow : OpenClaim := { program := "ytbpadfmdjgjjlaa", sum := "0c7dee8044a71ed951cb6005dc1d4bfef228baad0ed6fe473b1ae0469f6c04a3", func := "odograph/odographlaw04.SpanSums", spec := "spanSums", apart := false, narrowed := true }
def SpanSumsUptoSaid : Prop := spanSumsUptoRow.holds Try.pinned (OpenSpec.upto spanSumsSpec)

end Rows
end Go.Proofs.Ytbpadfmdjgjjlaa
