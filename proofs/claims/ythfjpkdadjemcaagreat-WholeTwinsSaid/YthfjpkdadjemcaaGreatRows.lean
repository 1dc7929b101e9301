/-
  No cell of these rows narrows 'for every input' (looked for: loops, veiled, ifaces, maps, wideKeys, modest, calm, conditions, laid).
  DERIVED. THE GIVEN ROWS OF THIS SEAT. 6 by the template 'for every input the law returns true; each argument reads behind the call as it read before'; 0 by the template 'total and deterministic' (their statements: YthfjpkdadjemcaaGreatTotals.lean).
  GIVEN WITH THE SEED: the statements are not yours to turn. If you find one false, say at which input.
  Laid BY PROGRAM, IN A SANDBOX (cutbox-rows.mjs): the forced cells as the released guide's own fill.sh prints them over the translation c12f2df32e8f45d8… (all of the seat's roots in one cut). By AI agents, Wed Nov 11 2026. No macro, syntax, notation, axiom, sorry.
-/
import Derived.Test.YthfjpkdadjemcaaGreatChecked
import GoSem.Claim
import GoSem.ClaimJoined
import GoSem.ClaimMapViews
import Derived.JoinedTies
import Derived.KernelRfl
namespace Go.Proofs.YthfjpkdadjemcaaGreat
/- THE CELL 'sum', in the pinned program and in every row, IS THE sha256 OF THE DUMP (.gsa) THAT YthfjpkdadjemcaaGreatProg.lean LOADS. Nothing in Lean hashes anything: it is a label: what it is worth is what the hold of that sum in a sandbox is worth. -/
noncomputable def Tryz.pinned : Pinned := { name := "ythfjpkdadjemcaagreat", sum := "c12f2df32e8f45d8a36b3fb50b236aba7618e10cd444dfe50279a47055283eae", checked := Tryz.checked }
namespace Rows
def none {H : Type} : Left H := { results := [], args := [] }

/-- 'odographtop.WholeStale': WHATEVER THE INPUT: true; the input reads as it did. -/
def wholeStaleSpec : ChangeSpec := { name := "wholeStale", fn := fun _ => fun
  | [d1, d2, d3, d4, d5, d6] => { results := [.lit (.bool true)], args := [d1, d2, d3, d4, d5, d6] }
  | _ => none }
def wholeStaleRow : OpenClaim := { program := "ythfjpkdadjemcaagreat", sum := "c12f2df32e8f45d8a36b3fb50b236aba7618e10cd444dfe50279a47055283eae", func := "odograph/odographtop.WholeStale", spec := "wholeStale", unfollowed := true, recurses := true, plainKeys := false, apart := false }
def WholeStaleSaid : Prop := wholeStaleRow.holds Tryz.pinned (OpenSpec.ofChange wholeStaleSpec)

/-- ITS FALSE NEIGHBOUR: 'it returns false'. Refute it at one input. -/
def wholeStaleWrong : ChangeSpec := { name := "wholeStale", fn := fun _ => fun
  | [d1, d2, d3, d4, d5, d6] => { results := [.lit (.bool false)], args := [d1, d2, d3, d4, d5, d6] }
  | _ => none }
def WholeStaleWrongFalsely : Prop := wholeStaleRow.holds Tryz.pinned (OpenSpec.ofChange wholeStaleWrong)

/-- 'odographtop.WholeOrder': WHATEVER THE INPUT: true; the input reads as it did. -/
def wholeOrderSpec : ChangeSpec := { name := "wholeOrder", fn := fun _ => fun
  | [d1, d2, d3] => { results := [.lit (.bool true)], args := [d1, d2, d3] }
  | _ => none }
def wholeOrderRow : OpenClaim := { program := "ythfjpkdadjemcaagreat", sum := "c12f2df32e8f45d8a36b3fb50b236aba7618e10cd444dfe50279a47055283eae", func := "odograph/odographtop.WholeOrder", spec := "wholeOrder", unfollowed := true, recurses := true, plainKeys := false, apart := false }
def WholeOrderSaid : Prop := wholeOrderRow.holds Tryz.pinned (OpenSpec.ofChange wholeOrderSpec)

/-- ITS FALSE NEIGHBOUR: 'it returns false'. Refute it at one input. -/
def wholeOrderWrong : ChangeSpec := { name := "wholeOrder", fn := fun _ => fun
  | [d1, d2, d3] => { results := [.lit (.bool false)], args := [d1, d2, d3] }
  | _ => none }
def WholeOrderWrongFalsely : Prop := wholeOrderRow.holds Tryz.pinned (OpenSpec.ofChange wholeOrderWrong)

/-- 'odographtop.WholeShift': WHATEVER THE INPUT: true; the input reads as it did. -/
def wholeShiftSpec : ChangeSpec := { name := "wholeShift", fn := fun _ => fun
  | [d1, d2, d3, d4] => { results := [.lit (.bool true)], args := [d1, d2, d3, d4] }
  | _ => none }
def wholeShiftRow : OpenClaim := { program := "ythfjpkdadjemcaagreat", sum := "c12f2df32e8f45d8a36b3fb50b236aba7618e10cd444dfe50279a47055283eae", func := "odograph/odographtop.WholeShift", spec := "wholeShift", unfollowed := true, recurses := true, plainKeys := false, apart := false }
def WholeShiftSaid : Prop := wholeShiftRow.holds Tryz.pinned (OpenSpec.ofChange wholeShiftSpec)

/-- ITS FALSE NEIGHBOUR: 'it returns false'. Refute it at one input. -/
def wholeShiftWrong : ChangeSpec := { name := "wholeShift", fn := fun _ => fun
  | [d1, d2, d3, d4] => { results := [.lit (.bool false)], args := [d1, d2, d3, d4] }
  | _ => none }
def WholeShiftWrongFalsely : Prop := wholeShiftRow.holds Tryz.pinned (OpenSpec.ofChange wholeShiftWrong)

/-- 'odographtop.WholeTwins': WHATEVER THE INPUT: true; the input reads as it did. -/
def wholeTwinsSpec : ChangeSpec := { name := "wholeTwins", fn := fun _ => fun
  | [d1, d2, d3] => { results := [.lit (.bool true)], args := [d1, d2, d3] }
  | _ => none }
def wholeTwinsRow : OpenClaim := { program := "ythfjpkdadjemcaagreat", sum := "c12f2df32e8f45d8a36b3fb50b236aba7618e10cd444dfe50279a47055283eae", func := "odograph/odographtop.WholeTwins", spec := "wholeTwins", unfollowed := true, recurses := true, plainKeys := false, apart := false }
def WholeTwinsSaid : Prop := wholeTwinsRow.holds Tryz.pinned (OpenSpec.ofChange wholeTwinsSpec)

/-- ITS FALSE NEIGHBOUR: 'it returns false'. Refute it at one input. -/
def wholeTwinsWrong : ChangeSpec := { name := "wholeTwins", fn := fun _ => fun
  | [d1, d2, d3] => { results := [.lit (.bool false)], args := [d1, d2, d3] }
  | _ => none }
def WholeTwinsWrongFalsely : Prop := wholeTwinsRow.holds Tryz.pinned (OpenSpec.ofChange wholeTwinsWrong)

/-- 'odographtop.WholeCut': WHATEVER THE INPUT: true; the input reads as it did. -/
def wholeCutSpec : ChangeSpec := { name := "wholeCut", fn := fun _ => fun
  | [d1, d2, d3, d4] => { results := [.lit (.bool true)], args := [d1, d2, d3, d4] }
  | _ => none }
def wholeCutRow : OpenClaim := { program := "ythfjpkdadjemcaagreat", sum := "c12f2df32e8f45d8a36b3fb50b236aba7618e10cd444dfe50279a47055283eae", func := "odograph/odographtop.WholeCut", spec := "wholeCut", unfollowed := true, recurses := true, plainKeys := false, apart := false }
def WholeCutSaid : Prop := wholeCutRow.holds Tryz.pinned (OpenSpec.ofChange wholeCutSpec)

/-- ITS FALSE NEIGHBOUR: 'it returns false'. Refute it at one input. -/
def wholeCutWrong : ChangeSpec := { name := "wholeCut", fn := fun _ => fun
  | [d1, d2, d3, d4] => { results := [.lit (.bool false)], args := [d1, d2, d3, d4] }
  | _ => none }
def WholeCutWrongFalsely : Prop := wholeCutRow.holds Tryz.pinned (OpenSpec.ofChange wholeCutWrong)

/-- 'odographtop.WholeWindow': WHATEVER THE INPUT: true; the input reads as it did. -/
def wholeWindowSpec : ChangeSpec := { name := "wholeWindow", fn := fun _ => fun
  | [d1, d2, d3] => { results := [.lit (.bool true)], args := [d1, d2, d3] }
  | _ => none }
def wholeWindowRow : OpenClaim := { program := "ythfjpkdadjemcaagreat", sum := "c12f2df32e8f45d8a36b3fb50b236aba7618e10cd444dfe50279a47055283eae", func := "odograph/odographtop.WholeWindow", spec := "wholeWindow", unfollowed := true, recurses := true, plainKeys := false, apart := false }
def WholeWindowSaid : Prop := wholeWindowRow.holds Tryz.pinned (OpenSpec.ofChange wholeWindowSpec)

/-- ITS FALSE NEIGHBOUR: 'it returns false'. Refute it at one input. -/
def wholeWindowWrong : ChangeSpec := { name := "wholeWindow", fn := fun _ => fun
  | [d1, d2, d3] => { results := [.lit (.bool false)], args := [d1, d2, d3] }
  | _ => none }
def WholeWindowWrongFalsely : Prop := wholeWindowRow.holds Tryz.pinned (OpenSpec.ofChange wholeWindowWrong)

/- THE SECOND FORM. 'bulk': how many values and letters a reading holds, each counted each time it is reached (what is shared counts as often as it is met; a slice's spare places count too). A statement '..UptoSaid' is the law's where the arguments, and the package variables that the reading takes, are together of bulk at most 1048576: NARROWER than '..Said'. Prove '..Said' where nothing that the law and all that it calls make is longer than what came in: it says more and counts as full. Else prove '..UptoSaid'. A law counts once. -/
mutual
def uptoBulk {H : Type} : DataW H → Nat
  | .lit (.string bytes) => bytes.length + 1
  | .lit _ => 1
  | .nil => 1
  | .ptr d => uptoBulk d + 1
  | .slice elems spare => uptoBulkAll elems + uptoBulkAll spare + 1
  | .agg parts => uptoBulkAll parts + 1
  | .iface _ d => uptoBulk d + 1
  | .map entries => uptoBulkEntries entries + 1
  | .held _ => 1
def uptoBulkAll {H : Type} : List (DataW H) → Nat
  | [] => 0
  | d :: r => uptoBulk d + uptoBulkAll r
def uptoBulkEntries {H : Type} : List (Lit × DataW H) → Nat
  | [] => 0
  | x :: r => uptoBulkEntry x + uptoBulkEntries r
def uptoBulkEntry {H : Type} : Lit × DataW H → Nat
  | (.string bytes, d) => bytes.length + uptoBulk d + 1
  | (_, d) => uptoBulk d + 1
 end
def uptoSmall : (H : Type) → List (DataW H) → Bool := fun _ ds => decide (uptoBulkAll ds ≤ 1048576)
def OpenSpec.upto (s : _root_.Go.ChangeSpec) : _root_.Go.OpenSpec := { _root_.Go.OpenSpec.ofChange s with cond := some uptoSmall }

/-- 'odographtop.WholeStale', WHERE WHAT IT READS IS OF BULK AT MOST 1048576: true; the input reads as it did. -/
def wholeStaleUptoRow : OpenClaim := { program := "ythfjpkdadjemcaagreat", sum := "c12f2df32e8f45d8a36b3fb50b236aba7618e10cd444dfe50279a47055283eae", func := "odograph/odographtop.WholeStale", spec := "wholeStale", unfollowed := true, recurses := true, plainKeys := false, apart := false, narrowed := true }
def WholeStaleUptoSaid : Prop := wholeStaleUptoRow.holds Tryz.pinned (OpenSpec.upto wholeStaleSpec)

/-- 'odographtop.WholeOrder', WHERE WHAT IT READS IS OF BULK AT MOST 1048576: true; the input reads as it did. -/
def wholeOrderUptoRow : OpenClaim := { program := "ythfjpkdadjemcaagreat", sum := "c12f2df32e8f45d8a36b3fb50b236aba7618e10cd444dfe50279a47055283eae", func := "odograph/odographtop.WholeOrder", spec := "wholeOrder", unfollowed := true, recurses := true, plainKeys := false, apart := false, narrowed := true }
def WholeOrderUptoSaid : Prop := wholeOrderUptoRow.holds Tryz.pinned (OpenSpec.upto wholeOrderSpec)

/-- 'odographtop.WholeShift', WHERE WHAT IT READS IS OF BULK AT MOST 1048576: true; the input reads as it did. -/
def wholeShiftUptoRow : OpenClaim := { program := "ythfjpkdadjemcaagreat", sum := "c12f2df32e8f45d8a36b3fb50b236aba7618e10cd444dfe50279a47055283eae", func := "odograph/odographtop.WholeShift", spec := "wholeShift", unfollowed := true, recurses := true, plainKeys := false, apart := false, narrowed := true }
def WholeShiftUptoSaid : Prop := wholeShiftUptoRow.holds Tryz.pinned (OpenSpec.upto wholeShiftSpec)

/-- 'odographtop.WholeTwins', WHERE WHAT IT READS IS OF BULK AT MOST 1048576: true; the input reads as it did. -/
def wholeTwinsUptoRow : OpenClaim := { program := "ythfjpkdadjemcaagreat", sum := "c12f2df32e8f45d8a36b3fb50b236aba7618e10cd444dfe50279a47055283eae", func := "odograph/odographtop.WholeTwins", spec := "wholeTwins", unfollowed := true, recurses := true, plainKeys := false, apart := false, narrowed := true }
def WholeTwinsUptoSaid : Prop := wholeTwinsUptoRow.holds Tryz.pinned (OpenSpec.upto wholeTwinsSpec)

/-- 'odographtop.WholeCut', WHERE WHAT IT READS IS OF BULK AT MOST 1048576: true; the input reads as it did. -/
def wholeCutUptoRow : OpenClaim := { program := "ythfjpkdadjemcaagreat", sum := "c12f2df32e8f45d8a36b3fb50b236aba7618e10cd444dfe50279a47055283eae", func := "odograph/odographtop.WholeCut", spec := "wholeCut", unfollowed := true, recurses := true, plainKeys := false, apart := false, narrowed := true }
def WholeCutUptoSaid : Prop := wholeCutUptoRow.holds Tryz.pinned (OpenSpec.upto wholeCutSpec)

/-- 'odographtop.WholeWindow', WHERE WHAT IT READS IS OF BULK AT MOST 1048576: true; the input reads as it did. -/
def wholeWindowUptoRow : OpenClaim := { program := "ythfjpkdadjemcaagreat", sum := "c12f2df32e8f45d8a36b3fb50b236aba7618e10cd444dfe50279a47055283eae", func := "odograph/odographtop.WholeWindow", spec := "wholeWindow", unfollowed := true, recurses := true, plainKeys := false, apart := false, narrowed := true }
def WholeWindowUptoSaid : Prop := wholeWindowUptoRow.holds Tryz.pinned (OpenSpec.upto wholeWindowSpec)

end Rows
end Go.Proofs.YthfjpkdadjemcaaGreat
