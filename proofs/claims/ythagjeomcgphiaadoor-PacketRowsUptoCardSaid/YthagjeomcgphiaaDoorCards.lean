/-
  DERIVED. GIVEN WITH THE SEED: THE CARDS: each row of YthagjeomcgphiaaDoorRows.lean that lists a variable, with what it lists TIED to the program's text (the seventh form; the later family's looks); each row that meets fmt, with fmt's text TOLD by the authors' own Lean function (tested against real Go, not proved from fmt's source: count such statements apart). THE CARD IS WHAT COUNTS. Prove the row's statement (the work); the ties are given (YthagjeomcgphiaaDoorTie.lean); close each card by the builder's one call (the guide's Derived/Test/ToyasCard.lean, 'card_holds'). Laid BY PROGRAM, IN A SANDBOX (cutbox-door.mjs). By AI agents, Wed Nov 11 2026. No macro, syntax, notation, axiom, sorry.
-/
import Derived.Test.YthagjeomcgphiaaDoorRows
import GoSem.ClaimSeven
namespace Go.Proofs.YthagjeomcgphiaaDoor
namespace Rows

/-- THE TIED CARD OF 'rhynelaw08.PacketPuts'. -/
def packetPutsCard : Claim7 := { stood := { row := packetPutsRow, standIns := [], harness := (true, "31b4579b9a90722047fed50dd3918f2c0ec41ad60e4c07790264be938fa743c0"), looks := false }, kinds := [], alts := [], laidByText := true, laidKinds := [.data, .data], laidTests := true, laidLooks := .later }
def PacketPutsCardSaid : Prop := Claim7.holds Tryd.pinned (.plain (OpenSpec.ofChange packetPutsSpec)) packetPutsCard

/-- THE TIED CARD OF 'rhynelaw08.PacketNear'. -/
def packetNearCard : Claim7 := { stood := { row := packetNearRow, standIns := [], harness := (true, "31b4579b9a90722047fed50dd3918f2c0ec41ad60e4c07790264be938fa743c0"), looks := false }, kinds := [], alts := [], laidByText := true, laidKinds := [.data, .data], laidTests := true, laidLooks := .later }
def PacketNearCardSaid : Prop := Claim7.holds Tryd.pinned (.plain (OpenSpec.ofChange packetNearSpec)) packetNearCard

/-- THE TIED CARD OF 'rhynelaw08.PacketGets'. -/
def packetGetsCard : Claim7 := { stood := { row := packetGetsRow, standIns := [], harness := (true, "31b4579b9a90722047fed50dd3918f2c0ec41ad60e4c07790264be938fa743c0"), looks := false }, kinds := [], alts := [], laidByText := true, laidKinds := [.data, .data], laidTests := true, laidLooks := .later }
def PacketGetsCardSaid : Prop := Claim7.holds Tryd.pinned (.plain (OpenSpec.ofChange packetGetsSpec)) packetGetsCard

/-- THE TIED CARD OF 'rhynelaw08.PacketBack'. -/
def packetBackCard : Claim7 := { stood := { row := packetBackRow, standIns := [], harness := (true, "31b4579b9a90722047fed50dd3918f2c0ec41ad60e4c07790264be938fa743c0"), looks := false }, kinds := [], alts := [], laidByText := true, laidKinds := [.data, .data], laidTests := true, laidLooks := .later }
def PacketBackCardSaid : Prop := Claim7.holds Tryd.pinned (.plain (OpenSpec.ofChange packetBackSpec)) packetBackCard

/-- THE TIED CARD OF 'rhynelaw08.PacketRows'. -/
def packetRowsCard : Claim7 := { stood := { row := packetRowsRow, standIns := [], harness := (true, "31b4579b9a90722047fed50dd3918f2c0ec41ad60e4c07790264be938fa743c0"), looks := false }, kinds := [], alts := [], laidByText := true, laidKinds := [.data, .data], laidTests := true, laidLooks := .later }
def PacketRowsCardSaid : Prop := Claim7.holds Tryd.pinned (.plain (OpenSpec.ofChange packetRowsSpec)) packetRowsCard

/-- THE TIED CARD OF 'rhynelaw09.FramesAcks'. -/
def framesAcksCard : Claim7 := { stood := { row := framesAcksRow, standIns := [], harness := (true, "31b4579b9a90722047fed50dd3918f2c0ec41ad60e4c07790264be938fa743c0"), looks := false }, kinds := [], alts := [], laidByText := true, laidKinds := [.data, .data], laidTests := true, laidLooks := .later }
def FramesAcksCardSaid : Prop := Claim7.holds Tryd.pinned (.plain (OpenSpec.ofChange framesAcksSpec)) framesAcksCard

/-- THE TIED CARD OF 'rhynelaw09.FramesLengths'. -/
def framesLengthsCard : Claim7 := { stood := { row := framesLengthsRow, standIns := [], harness := (true, "31b4579b9a90722047fed50dd3918f2c0ec41ad60e4c07790264be938fa743c0"), looks := false }, kinds := [], alts := [], laidByText := true, laidKinds := [.data, .data], laidTests := true, laidLooks := .later }
def FramesLengthsCardSaid : Prop := Claim7.holds Tryd.pinned (.plain (OpenSpec.ofChange framesLengthsSpec)) framesLengthsCard

/-- THE TIED CARD OF 'rhynelaw09.FramesPut'. -/
def framesPutCard : Claim7 := { stood := { row := framesPutRow, standIns := [], harness := (true, "31b4579b9a90722047fed50dd3918f2c0ec41ad60e4c07790264be938fa743c0"), looks := false }, kinds := [], alts := [], laidByText := true, laidKinds := [.data, .data], laidTests := true, laidLooks := .later }
def FramesPutCardSaid : Prop := Claim7.holds Tryd.pinned (.plain (OpenSpec.ofChange framesPutSpec)) framesPutCard

/-- THE TIED CARD OF 'rhynelaw09.FramesBack'. -/
def framesBackCard : Claim7 := { stood := { row := framesBackRow, standIns := [], harness := (true, "31b4579b9a90722047fed50dd3918f2c0ec41ad60e4c07790264be938fa743c0"), looks := false }, kinds := [], alts := [], laidByText := true, laidKinds := [.data, .data], laidTests := true, laidLooks := .later }
def FramesBackCardSaid : Prop := Claim7.holds Tryd.pinned (.plain (OpenSpec.ofChange framesBackSpec)) framesBackCard

/-- THE SECOND FORM's CARD OF 'rhynelaw08.PacketPuts'. -/
def packetPutsUptoCard : Claim7 := { stood := { row := packetPutsUptoRow, standIns := [], harness := (true, "31b4579b9a90722047fed50dd3918f2c0ec41ad60e4c07790264be938fa743c0"), looks := false }, kinds := [], alts := [], laidByText := true, laidKinds := [.data, .data], laidTests := true, laidLooks := .later }
def PacketPutsUptoCardSaid : Prop := Claim7.holds Tryd.pinned (.plain (OpenSpec.upto packetPutsSpec)) packetPutsUptoCard

/-- THE SECOND FORM's CARD OF 'rhynelaw08.PacketNear'. -/
def packetNearUptoCard : Claim7 := { stood := { row := packetNearUptoRow, standIns := [], harness := (true, "31b4579b9a90722047fed50dd3918f2c0ec41ad60e4c07790264be938fa743c0"), looks := false }, kinds := [], alts := [], laidByText := true, laidKinds := [.data, .data], laidTests := true, laidLooks := .later }
def PacketNearUptoCardSaid : Prop := Claim7.holds Tryd.pinned (.plain (OpenSpec.upto packetNearSpec)) packetNearUptoCard

/-- THE SECOND FORM's CARD OF 'rhynelaw08.PacketGets'. -/
def packetGetsUptoCard : Claim7 := { stood := { row := packetGetsUptoRow, standIns := [], harness := (true, "31b4579b9a90722047fed50dd3918f2c0ec41ad60e4c07790264be938fa743c0"), looks := false }, kinds := [], alts := [], laidByText := true, laidKinds := [.data, .data], laidTests := true, laidLooks := .later }
def PacketGetsUptoCardSaid : Prop := Claim7.holds Tryd.pinned (.plain (OpenSpec.upto packetGetsSpec)) packetGetsUptoCard

/-- THE SECOND FORM's CARD OF 'rhynelaw08.PacketBack'. -/
def packetBackUptoCard : Claim7 := { stood := { row := packetBackUptoRow, standIns := [], harness := (true, "31b4579b9a90722047fed50dd3918f2c0ec41ad60e4c07790264be938fa743c0"), looks := false }, kinds := [], alts := [], laidByText := true, laidKinds := [.data, .data], laidTests := true, laidLooks := .later }
def PacketBackUptoCardSaid : Prop := Claim7.holds Tryd.pinned (.plain (OpenSpec.upto packetBackSpec)) packetBackUptoCard

/-- THE SECOND FORM's CARD OF 'rhynelaw08.PacketRows'. -/
def packetRowsUptoCard : Claim7 := { stood := { row := packetRowsUptoRow, standIns := [], harness := (true, "31b4579b9a90722047fed50dd3918f2c0ec41ad60e4c07790264be938fa743c0"), looks := false }, kinds := [], alts := [], laidByText := true, laidKinds := [.data, .data], laidTests := true, laidLooks := .later }
def PacketRowsUptoCardSaid : Prop := Claim7.holds Tryd.pinned (.plain (OpenSpec.upto packetRowsSpec)) packetRowsUptoCard

/-- THE SECOND FORM's CARD OF 'rhynelaw09.FramesAcks'. -/
def framesAcksUptoCard : Claim7 := { stood := { row := framesAcksUptoRow, standIns := [], harness := (true, "31b4579b9a90722047fed50dd3918f2c0ec41ad60e4c07790264be938fa743c0"), looks := false }, kinds := [], alts := [], laidByText := true, laidKinds := [.data, .data], laidTests := true, laidLooks := .later }
def FramesAcksUptoCardSaid : Prop := Claim7.holds Tryd.pinned (.plain (OpenSpec.upto framesAcksSpec)) framesAcksUptoCard

/-- THE SECOND FORM's CARD OF 'rhynelaw09.FramesLengths'. -/
def framesLengthsUptoCard : Claim7 := { stood := { row := framesLengthsUptoRow, standIns := [], harness := (true, "31b4579b9a90722047fed50dd3918f2c0ec41ad60e4c07790264be938fa743c0"), looks := false }, kinds := [], alts := [], laidByText := true, laidKinds := [.data, .data], laidTests := true, laidLooks := .later }
def FramesLengthsUptoCardSaid : Prop := Claim7.holds Tryd.pinned (.plain (OpenSpec.upto framesLengthsSpec)) framesLengthsUptoCard

/-- THE SECOND FORM's CARD OF 'rhynelaw09.FramesPut'. -/
def framesPutUptoCard : Claim7 := { stood := { row := framesPutUptoRow, standIns := [], harness := (true, "31b4579b9a90722047fed50dd3918f2c0ec41ad60e4c07790264be938fa743c0"), looks := false }, kinds := [], alts := [], laidByText := true, laidKinds := [.data, .data], laidTests := true, laidLooks := .later }
def FramesPutUptoCardSaid : Prop := Claim7.holds Tryd.pinned (.plain (OpenSpec.upto framesPutSpec)) framesPutUptoCard

/-- THE SECOND FORM's CARD OF 'rhynelaw09.FramesBack'. -/
def framesBackUptoCard : Claim7 := { stood := { row := framesBackUptoRow, standIns := [], harness := (true, "31b4579b9a90722047fed50dd3918f2c0ec41ad60e4c07790264be938fa743c0"), looks := false }, kinds := [], alts := [], laidByText := true, laidKinds := [.data, .data], laidTests := true, laidLooks := .later }
def FramesBackUptoCardSaid : Prop := Claim7.holds Tryd.pinned (.plain (OpenSpec.upto framesBackSpec)) framesBackUptoCard
end Rows
end Go.Proofs.YthagjeomcgphiaaDoor
