/-
  DERIVED. GIVEN WITH THE SEED: THE CARDS: each row of YtdiebciejcmmhaaDoorRows.lean that lists a variable, with what it lists TIED to the program's text (the seventh form; the later family's looks); each row that meets fmt, with fmt's text TOLD by the authors' own Lean function (tested against real Go, not proved from fmt's source: count such statements apart). THE CARD IS WHAT COUNTS. Prove the row's statement (the work); the ties are given (YtdiebciejcmmhaaDoorTie.lean); close each card by the builder's one call (the guide's Derived/Test/ToyasCard.lean, 'card_holds'). Laid BY PROGRAM, IN A SANDBOX (cutbox-door.mjs). By AI agents, Wed Nov 11 2026. No macro, syntax, notation, axiom, sorry.
-/
import Derived.Test.YtdiebciejcmmhaaDoorRows
import GoSem.ClaimSeven
namespace Go.Proofs.YtdiebciejcmmhaaDoor
namespace Rows

/-- THE TIED CARD OF 'odographlaw35.PacketOf'. -/
def packetOfCard : Claim7 := { stood := { row := packetOfRow, standIns := [], harness := (true, "045342fc644f2a8036159cfc0acfb119f316a977acb6bcdfd0bc6d0d11d3b6f3"), looks := false }, kinds := [], alts := [], laidByText := true, laidKinds := [.data], laidTests := true, laidLooks := .later }
def PacketOfCardSaid : Prop := Claim7.holds Tryd.pinned (.plain (OpenSpec.ofChange packetOfSpec)) packetOfCard

/-- THE TIED CARD OF 'odographlaw35.PacketHolds'. -/
def packetHoldsCard : Claim7 := { stood := { row := packetHoldsRow, standIns := [], harness := (true, "045342fc644f2a8036159cfc0acfb119f316a977acb6bcdfd0bc6d0d11d3b6f3"), looks := false }, kinds := [], alts := [], laidByText := true, laidKinds := [.data], laidTests := true, laidLooks := .later }
def PacketHoldsCardSaid : Prop := Claim7.holds Tryd.pinned (.plain (OpenSpec.ofChange packetHoldsSpec)) packetHoldsCard

/-- THE TIED CARD OF 'odographlaw35.PacketPuts'. -/
def packetPutsCard : Claim7 := { stood := { row := packetPutsRow, standIns := [], harness := (true, "045342fc644f2a8036159cfc0acfb119f316a977acb6bcdfd0bc6d0d11d3b6f3"), looks := false }, kinds := [], alts := [], laidByText := true, laidKinds := [.data], laidTests := true, laidLooks := .later }
def PacketPutsCardSaid : Prop := Claim7.holds Tryd.pinned (.plain (OpenSpec.ofChange packetPutsSpec)) packetPutsCard

/-- THE TIED CARD OF 'odographlaw35.PacketGets'. -/
def packetGetsCard : Claim7 := { stood := { row := packetGetsRow, standIns := [], harness := (true, "045342fc644f2a8036159cfc0acfb119f316a977acb6bcdfd0bc6d0d11d3b6f3"), looks := false }, kinds := [], alts := [], laidByText := true, laidKinds := [.data], laidTests := true, laidLooks := .later }
def PacketGetsCardSaid : Prop := Claim7.holds Tryd.pinned (.plain (OpenSpec.ofChange packetGetsSpec)) packetGetsCard

/-- THE SECOND FORM's CARD OF 'odographlaw35.PacketOf'. -/
def packetOfUptoCard : Claim7 := { stood := { row := packetOfUptoRow, standIns := [], harness := (true, "045342fc644f2a8036159cfc0acfb119f316a977acb6bcdfd0bc6d0d11d3b6f3"), looks := false }, kinds := [], alts := [], laidByText := true, laidKinds := [.data], laidTests := true, laidLooks := .later }
def PacketOfUptoCardSaid : Prop := Claim7.holds Tryd.pinned (.plain (OpenSpec.upto packetOfSpec)) packetOfUptoCard

/-- THE SECOND FORM's CARD OF 'odographlaw35.PacketHolds'. -/
def packetHoldsUptoCard : Claim7 := { stood := { row := packetHoldsUptoRow, standIns := [], harness := (true, "045342fc644f2a8036159cfc0acfb119f316a977acb6bcdfd0bc6d0d11d3b6f3"), looks := false }, kinds := [], alts := [], laidByText := true, laidKinds := [.data], laidTests := true, laidLooks := .later }
def PacketHoldsUptoCardSaid : Prop := Claim7.holds Tryd.pinned (.plain (OpenSpec.upto packetHoldsSpec)) packetHoldsUptoCard

/-- THE SECOND FORM's CARD OF 'odographlaw35.PacketPuts'. -/
def packetPutsUptoCard : Claim7 := { stood := { row := packetPutsUptoRow, standIns := [], harness := (true, "045342fc644f2a8036159cfc0acfb119f316a977acb6bcdfd0bc6d0d11d3b6f3"), looks := false }, kinds := [], alts := [], laidByText := true, laidKinds := [.data], laidTests := true, laidLooks := .later }
def PacketPutsUptoCardSaid : Prop := Claim7.holds Tryd.pinned (.plain (OpenSpec.upto packetPutsSpec)) packetPutsUptoCard

/-- THE SECOND FORM's CARD OF 'odographlaw35.PacketGets'. -/
def packetGetsUptoCard : Claim7 := { stood := { row := packetGetsUptoRow, standIns := [], harness := (true, "045342fc644f2a8036159cfc0acfb119f316a977acb6bcdfd0bc6d0d11d3b6f3"), looks := false }, kinds := [], alts := [], laidByText := true, laidKinds := [.data], laidTests := true, laidLooks := .later }
def PacketGetsUptoCardSaid : Prop := Claim7.holds Tryd.pinned (.plain (OpenSpec.upto packetGetsSpec)) packetGetsUptoCard
end Rows
end Go.Proofs.YtdiebciejcmmhaaDoor
