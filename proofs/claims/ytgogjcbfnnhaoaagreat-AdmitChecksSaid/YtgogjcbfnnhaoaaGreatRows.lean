/-
  No cell of these rows narrows 'for every input' (looked for: loops, veiled, ifaces, maps, wideKeys, modest, calm, conditions, laid).
  DERIVED. THE GIVEN ROWS OF THIS SEAT. 3 by the template 'for every input the law returns true; each argument reads behind the call as it read before'; 0 by the template 'total and deterministic' (their statements: YtgogjcbfnnhaoaaGreatTotals.lean).
  GIVEN WITH THE SEED: the statements are not yours to turn. If you find one false, say at which input.
  Laid BY PROGRAM, IN A SANDBOX (cutbox-rows.mjs): the forced cells as the released guide's own fill.sh prints them over the translation 40b1ca96cb3a6b49… (all of the seat's roots in one cut). By AI agents, Wed Nov 11 2026. No macro, syntax, notation, axiom, sorry.
-/
import Derived.Test.YtgogjcbfnnhaoaaGreatChecked
import GoSem.Claim
import GoSem.ClaimJoined
import GoSem.ClaimMapViews
import Derived.JoinedTies
import Derived.KernelRfl
namespace Go.Proofs.YtgogjcbfnnhaoaaGreat
/- THE CELL 'sum', in the pinned program and in every row, IS THE sha256 OF THE DUMP (.gsa) THAT YtgogjcbfnnhaoaaGreatProg.lean LOADS. Nothing in Lean hashes anything: it is a label: what it is worth is what the hold of that sum in a sandbox is worth. -/
noncomputable def Tryz.pinned : Pinned := { name := "ytgogjcbfnnhaoaagreat", sum := "40b1ca96cb3a6b499c488741e00cfb4abdba76ad8ccdcbc86e4b9df2aa81f0b4", checked := Tryz.checked }
namespace Rows
def none {H : Type} : Left H := { results := [], args := [] }

/-- 'odographlaw29.MakeAdmits': WHATEVER THE INPUT: true; the input reads as it did. -/
def makeAdmitsSpec : ChangeSpec := { name := "makeAdmits", fn := fun _ => fun
  | [d1, d2, d3, d4] => { results := [.lit (.bool true)], args := [d1, d2, d3, d4] }
  | _ => none }
def makeAdmitsRow : OpenClaim := { program := "ytgogjcbfnnhaoaagreat", sum := "40b1ca96cb3a6b499c488741e00cfb4abdba76ad8ccdcbc86e4b9df2aa81f0b4", func := "odograph/odographlaw29.MakeAdmits", spec := "makeAdmits", unfollowed := true, recurses := true, apart := false }
def MakeAdmitsSaid : Prop := makeAdmitsRow.holds Tryz.pinned (OpenSpec.ofChange makeAdmitsSpec)

/-- ITS FALSE NEIGHBOUR: 'it returns false'. Refute it at one input. -/
def makeAdmitsWrong : ChangeSpec := { name := "makeAdmits", fn := fun _ => fun
  | [d1, d2, d3, d4] => { results := [.lit (.bool false)], args := [d1, d2, d3, d4] }
  | _ => none }
def MakeAdmitsWrongFalsely : Prop := makeAdmitsRow.holds Tryz.pinned (OpenSpec.ofChange makeAdmitsWrong)

/-- 'odographlaw28.AdmitChecks': WHATEVER THE INPUT: true; the input reads as it did. -/
def admitChecksSpec : ChangeSpec := { name := "admitChecks", fn := fun _ => fun
  | [d1, d2, d3] => { results := [.lit (.bool true)], args := [d1, d2, d3] }
  | _ => none }
def admitChecksRow : OpenClaim := { program := "ytgogjcbfnnhaoaagreat", sum := "40b1ca96cb3a6b499c488741e00cfb4abdba76ad8ccdcbc86e4b9df2aa81f0b4", func := "odograph/odographlaw28.AdmitChecks", spec := "admitChecks", unfollowed := true, recurses := true, apart := false }
def AdmitChecksSaid : Prop := admitChecksRow.holds Tryz.pinned (OpenSpec.ofChange admitChecksSpec)

/-- ITS FALSE NEIGHBOUR: 'it returns false'. Refute it at one input. -/
def admitChecksWrong : ChangeSpec := { name := "admitChecks", fn := fun _ => fun
  | [d1, d2, d3] => { results := [.lit (.bool false)], args := [d1, d2, d3] }
  | _ => none }
def AdmitChecksWrongFalsely : Prop := admitChecksRow.holds Tryz.pinned (OpenSpec.ofChange admitChecksWrong)

/-- 'odographlaw28.AdmitTrue': WHATEVER THE INPUT: true; the input reads as it did. -/
def admitTrueSpec : ChangeSpec := { name := "admitTrue", fn := fun _ => fun
  | [d1, d2, d3] => { results := [.lit (.bool true)], args := [d1, d2, d3] }
  | _ => none }
def admitTrueRow : OpenClaim := { program := "ytgogjcbfnnhaoaagreat", sum := "40b1ca96cb3a6b499c488741e00cfb4abdba76ad8ccdcbc86e4b9df2aa81f0b4", func := "odograph/odographlaw28.AdmitTrue", spec := "admitTrue", unfollowed := true, recurses := true, apart := false }
def AdmitTrueSaid : Prop := admitTrueRow.holds Tryz.pinned (OpenSpec.ofChange admitTrueSpec)

/-- ITS FALSE NEIGHBOUR: 'it returns false'. Refute it at one input. -/
def admitTrueWrong : ChangeSpec := { name := "admitTrue", fn := fun _ => fun
  | [d1, d2, d3] => { results := [.lit (.bool false)], args := [d1, d2, d3] }
  | _ => none }
def AdmitTrueWrongFalsely : Prop := admitTrueRow.holds Tryz.pinned (OpenSpec.ofChange admitTrueWrong)

/- THE SECOND FORM. 'bulk': how many values and letters a reading holds, each counted each time it is reached (what is shared counts as often as it is met; a slice's spare places count too). A statement '..UptoSaid' is the law's where the arguments, and the package variables that the reading takes, are together of bulk at most 1048576: NARROWER than '..Said'. Prove '..Said' where nothing that the law and all that it calls make is longer than what came in: it says more and counts as full. Else prove '..UptoSaid'. A law counts once. -/
mutual
def uptoBulk {H : Type} : DataW H → Nat
  | .lit (.string bytes) => bytes.length + 1
  | .lit _ => 1
  | .nil => 1
  | .ptr d => uptoBulk d + 1
  | .slice elems spare => uptoBulkAll elems + uptoBulkAll spare + 1
  | .agg parts => uptoBulkAll parts + 1
  | .iface _ d => uptoBulk d + 1
  | .map entries => uptoBulkEntries entries + 1
  | .held _ => 1
def uptoBulkAll {H : Type} : List (DataW H) → Nat
  | [] => 0
  | d :: r => uptoBulk d + uptoBulkAll r
def uptoBulkEntries {H : Type} : List (Lit × DataW H) → Nat
  | [] => 0
  | x :: r => uptoBulkEntry x + uptoBulkEntries r
def uptoBulkEntry {H : Type} : Lit × DataW H → Nat
  | (.string bytes, d) => bytes.length + uptoBulk d + 1
  | (_, d) => uptoBulk d + 1
 end
def uptoSmall : (H : Type) → List (DataW H) → Bool := fun _ ds => decide (uptoBulkAll ds ≤ 1048576)
def OpenSpec.upto (s : _root_.Go.ChangeSpec) : _root_.Go.OpenSpec := { _root_.Go.OpenSpec.ofChange s with cond := some uptoSmall }

/-- 'odographlaw29.MakeAdmits', WHERE WHAT IT READS IS OF BULK AT MOST 1048576: true; the input reads as it did. -/
def makeAdmitsUptoRow : OpenClaim := { program := "ytgogjcbfnnhaoaagreat", sum := "40b1ca96cb3a6b499c488741e00cfb4abdba76ad8ccdcbc86e4b9df2aa81f0b4", func := "odograph/odographlaw29.MakeAdmits", spec := "makeAdmits", unfollowed := true, recurses := true, apart := false, narrowed := true }
def MakeAdmitsUptoSaid : Prop := makeAdmitsUptoRow.holds Tryz.pinned (OpenSpec.upto makeAdmitsSpec)

/-- 'odographlaw28.AdmitChecks', WHERE WHAT IT READS IS OF BULK AT MOST 1048576: true; the input reads as it did. -/
def admitChecksUptoRow : OpenClaim := { program := "ytgogjcbfnnhaoaagreat", sum := "40b1ca96cb3a6b499c488741e00cfb4abdba76ad8ccdcbc86e4b9df2aa81f0b4", func := "odograph/odographlaw28.AdmitChecks", spec := "admitChecks", unfollowed := true, recurses := true, apart := false, narrowed := true }
def AdmitChecksUptoSaid : Prop := admitChecksUptoRow.holds Tryz.pinned (OpenSpec.upto admitChecksSpec)

/-- 'odographlaw28.AdmitTrue', WHERE WHAT IT READS IS OF BULK AT MOST 1048576: true; the input reads as it did. -/
def admitTrueUptoRow : OpenClaim := { program := "ytgogjcbfnnhaoaagreat", sum := "40b1ca96cb3a6b499c488741e00cfb4abdba76ad8ccdcbc86e4b9df2aa81f0b4", func := "odograph/odographlaw28.AdmitTrue", spec := "admitTrue", unfollowed := true, recurses := true, apart := false, narrowed := true }
def AdmitTrueUptoSaid : Prop := admitTrueUptoRow.holds Tryz.pinned (OpenSpec.upto admitTrueSpec)

end Rows
end Go.Proofs.YtgogjcbfnnhaoaaGreat
