/-
  DERIVED. GIVEN WITH THE SEED: THE CARDS: each row of YtcbgjjbbeeoekaaDoorRows.lean that lists a variable, with what it lists TIED to the program's text (the seventh form; the later family's looks); each row that meets fmt, with fmt's text TOLD by the authors' own Lean function (tested against real Go, not proved from fmt's source: count such statements apart). THE CARD IS WHAT COUNTS. Prove the row's statement (the work); the ties are given (YtcbgjjbbeeoekaaDoorTie.lean); close each card by the builder's one call (the guide's Derived/Test/ToyasCard.lean, 'card_holds'). Laid BY PROGRAM, IN A SANDBOX (cutbox-door.mjs). By AI agents, Wed Nov 11 2026. No macro, syntax, notation, axiom, sorry.
-/
import Derived.Test.YtcbgjjbbeeoekaaDoorRows
import GoSem.ClaimSeven
namespace Go.Proofs.YtcbgjjbbeeoekaaDoor
namespace Rows

/-- THE TIED CARD OF 'rhynelaw18.MsgRecords'. -/
def msgRecordsCard : Claim7 := { stood := { row := msgRecordsRow, standIns := [], harness := (true, "cec3aec9ecfad2363242aac6d01b9c7c367aef6f9fe1c4577b614a45d1566e23"), looks := false }, kinds := [], alts := [], laidByText := true, laidKinds := [.data, .pinned], laidTests := true, laidLooks := .later }
def MsgRecordsCardSaid : Prop := Claim7.holds Tryd.pinned (.plain (OpenSpec.ofChange msgRecordsSpec)) msgRecordsCard

/-- THE SECOND FORM's CARD OF 'rhynelaw18.MsgRecords'. -/
def msgRecordsUptoCard : Claim7 := { stood := { row := msgRecordsUptoRow, standIns := [], harness := (true, "cec3aec9ecfad2363242aac6d01b9c7c367aef6f9fe1c4577b614a45d1566e23"), looks := false }, kinds := [], alts := [], laidByText := true, laidKinds := [.data, .pinned], laidTests := true, laidLooks := .later }
def MsgRecordsUptoCardSaid : Prop := Claim7.holds Tryd.pinned (.plain (OpenSpec.upto msgRecordsSpec)) msgRecordsUptoCard
end Rows
end Go.Proofs.YtcbgjjbbeeoekaaDoor
