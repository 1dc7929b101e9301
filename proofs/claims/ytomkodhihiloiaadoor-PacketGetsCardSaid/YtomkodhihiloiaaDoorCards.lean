/-
  DERIVED. GIVEN WITH THE SEED: THE CARDS: each row of YtomkodhihiloiaaDoorRows.lean that lists a variable, with what it lists TIED to the program's text (the seventh form; the later family's looks); each row that meets fmt, with fmt's text TOLD by the authors' own Lean function (tested against real Go, not proved from fmt's source: count such statements apart). THE CARD IS WHAT COUNTS. Prove the row's statement (the work); the ties are given (YtomkodhihiloiaaDoorTie.lean); close each card by the builder's one call (the guide's Derived/Test/ToyasCard.lean, 'card_holds'). Laid BY PROGRAM, IN A SANDBOX (cutbox-door.mjs). By AI agents, Wed Nov 11 2026. No macro, syntax, notation, axiom, sorry.
-/
import Derived.Test.YtomkodhihiloiaaDoorRows
import GoSem.ClaimSeven
namespace Go.Proofs.YtomkodhihiloiaaDoor
namespace Rows

/-- THE TIED CARD OF 'odographlaw35.PacketPuts'. -/
def packetPutsCard : Claim7 := { stood := { row := packetPutsRow, standIns := [], harness := (true, "bfeb0521b0966737169402ce3c9a42136ef941c3067cda6cba87c8beb5beec83"), looks := false }, kinds := [], alts := [], laidByText := true, laidKinds := [.data], laidTests := true, laidLooks := .later }
def PacketPutsCardSaid : Prop := Claim7.holds Tryd.pinned (.plain (OpenSpec.ofChange packetPutsSpec)) packetPutsCard

/-- THE TIED CARD OF 'odographlaw35.PacketGets'. -/
def packetGetsCard : Claim7 := { stood := { row := packetGetsRow, standIns := [], harness := (true, "bfeb0521b0966737169402ce3c9a42136ef941c3067cda6cba87c8beb5beec83"), looks := false }, kinds := [], alts := [], laidByText := true, laidKinds := [.data], laidTests := true, laidLooks := .later }
def PacketGetsCardSaid : Prop := Claim7.holds Tryd.pinned (.plain (OpenSpec.ofChange packetGetsSpec)) packetGetsCard

/-- THE SECOND FORM's CARD OF 'odographlaw35.PacketPuts'. -/
def packetPutsUptoCard : Claim7 := { stood := { row := packetPutsUptoRow, standIns := [], harness := (true, "bfeb0521b0966737169402ce3c9a42136ef941c3067cda6cba87c8beb5beec83"), looks := false }, kinds := [], alts := [], laidByText := true, laidKinds := [.data], laidTests := true, laidLooks := .later }
def PacketPutsUptoCardSaid : Prop := Claim7.holds Tryd.pinned (.plain (OpenSpec.upto packetPutsSpec)) packetPutsUptoCard

/-- THE SECOND FORM's CARD OF 'odographlaw35.PacketGets'. -/
def packetGetsUptoCard : Claim7 := { stood := { row := packetGetsUptoRow, standIns := [], harness := (true, "bfeb0521b0966737169402ce3c9a42136ef941c3067cda6cba87c8beb5beec83"), looks := false }, kinds := [], alts := [], laidByText := true, laidKinds := [.data], laidTests := true, laidLooks := .later }
def PacketGetsUptoCardSaid : Prop := Claim7.holds Tryd.pinned (.plain (OpenSpec.upto packetGetsSpec)) packetGetsUptoCard
end Rows
end Go.Proofs.YtomkodhihiloiaaDoor
