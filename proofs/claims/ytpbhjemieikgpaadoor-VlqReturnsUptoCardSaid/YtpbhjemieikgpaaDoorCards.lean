/-
  DERIVED. GIVEN WITH THE SEED: THE CARDS: each row of YtpbhjemieikgpaaDoorRows.lean that lists a variable, with what it lists TIED to the program's text (the seventh form; the later family's looks); each row that meets fmt, with fmt's text TOLD by the authors' own Lean function (tested against real Go, not proved from fmt's source: count such statements apart). THE CARD IS WHAT COUNTS. Prove the row's statement (the work); the ties are given (YtpbhjemieikgpaaDoorTie.lean); close each card by the builder's one call (the guide's Derived/Test/ToyasCard.lean, 'card_holds'). Laid BY PROGRAM, IN A SANDBOX (cutbox-door.mjs). By AI agents, Wed Nov 11 2026. No macro, syntax, notation, axiom, sorry.
-/
import Derived.Test.YtpbhjemieikgpaaDoorRows
import GoSem.ClaimSeven
namespace Go.Proofs.YtpbhjemieikgpaaDoor
namespace Rows

/-- THE TIED CARD OF 'rhynelaw07.VlqPuts'. -/
def vlqPutsCard : Claim7 := { stood := { row := vlqPutsRow, standIns := [], harness := (true, "62fd168a1264eece3ff4b856cbdf5fc30e028e8adf85b23f952222c6375ed46b"), looks := false }, kinds := [], alts := [], laidByText := true, laidKinds := [.data, .data], laidTests := true, laidLooks := .later }
def VlqPutsCardSaid : Prop := Claim7.holds Tryd.pinned (.plain (OpenSpec.ofChange vlqPutsSpec)) vlqPutsCard

/-- THE TIED CARD OF 'rhynelaw07.VlqKinds'. -/
def vlqKindsCard : Claim7 := { stood := { row := vlqKindsRow, standIns := [], harness := (true, "62fd168a1264eece3ff4b856cbdf5fc30e028e8adf85b23f952222c6375ed46b"), looks := false }, kinds := [], alts := [], laidByText := true, laidKinds := [.data, .data], laidTests := true, laidLooks := .later }
def VlqKindsCardSaid : Prop := Claim7.holds Tryd.pinned (.plain (OpenSpec.ofChange vlqKindsSpec)) vlqKindsCard

/-- THE TIED CARD OF 'rhynelaw07.VlqLess'. -/
def vlqLessCard : Claim7 := { stood := { row := vlqLessRow, standIns := [], harness := (true, "62fd168a1264eece3ff4b856cbdf5fc30e028e8adf85b23f952222c6375ed46b"), looks := false }, kinds := [], alts := [], laidByText := true, laidKinds := [.data, .data], laidTests := true, laidLooks := .later }
def VlqLessCardSaid : Prop := Claim7.holds Tryd.pinned (.plain (OpenSpec.ofChange vlqLessSpec)) vlqLessCard

/-- THE TIED CARD OF 'rhynelaw07.VlqGets'. -/
def vlqGetsCard : Claim7 := { stood := { row := vlqGetsRow, standIns := [], harness := (true, "62fd168a1264eece3ff4b856cbdf5fc30e028e8adf85b23f952222c6375ed46b"), looks := false }, kinds := [], alts := [], laidByText := true, laidKinds := [.data, .data], laidTests := true, laidLooks := .later }
def VlqGetsCardSaid : Prop := Claim7.holds Tryd.pinned (.plain (OpenSpec.ofChange vlqGetsSpec)) vlqGetsCard

/-- THE TIED CARD OF 'rhynelaw07.VlqReturns'. -/
def vlqReturnsCard : Claim7 := { stood := { row := vlqReturnsRow, standIns := [], harness := (true, "62fd168a1264eece3ff4b856cbdf5fc30e028e8adf85b23f952222c6375ed46b"), looks := false }, kinds := [], alts := [], laidByText := true, laidKinds := [.data, .data], laidTests := true, laidLooks := .later }
def VlqReturnsCardSaid : Prop := Claim7.holds Tryd.pinned (.plain (OpenSpec.ofChange vlqReturnsSpec)) vlqReturnsCard

/-- THE TIED CARD OF 'rhynelaw07.VlqLists'. -/
def vlqListsCard : Claim7 := { stood := { row := vlqListsRow, standIns := [], harness := (true, "62fd168a1264eece3ff4b856cbdf5fc30e028e8adf85b23f952222c6375ed46b"), looks := false }, kinds := [], alts := [], laidByText := true, laidKinds := [.data, .data], laidTests := true, laidLooks := .later }
def VlqListsCardSaid : Prop := Claim7.holds Tryd.pinned (.plain (OpenSpec.ofChange vlqListsSpec)) vlqListsCard

/-- THE SECOND FORM's CARD OF 'rhynelaw07.VlqPuts'. -/
def vlqPutsUptoCard : Claim7 := { stood := { row := vlqPutsUptoRow, standIns := [], harness := (true, "62fd168a1264eece3ff4b856cbdf5fc30e028e8adf85b23f952222c6375ed46b"), looks := false }, kinds := [], alts := [], laidByText := true, laidKinds := [.data, .data], laidTests := true, laidLooks := .later }
def VlqPutsUptoCardSaid : Prop := Claim7.holds Tryd.pinned (.plain (OpenSpec.upto vlqPutsSpec)) vlqPutsUptoCard

/-- THE SECOND FORM's CARD OF 'rhynelaw07.VlqKinds'. -/
def vlqKindsUptoCard : Claim7 := { stood := { row := vlqKindsUptoRow, standIns := [], harness := (true, "62fd168a1264eece3ff4b856cbdf5fc30e028e8adf85b23f952222c6375ed46b"), looks := false }, kinds := [], alts := [], laidByText := true, laidKinds := [.data, .data], laidTests := true, laidLooks := .later }
def VlqKindsUptoCardSaid : Prop := Claim7.holds Tryd.pinned (.plain (OpenSpec.upto vlqKindsSpec)) vlqKindsUptoCard

/-- THE SECOND FORM's CARD OF 'rhynelaw07.VlqLess'. -/
def vlqLessUptoCard : Claim7 := { stood := { row := vlqLessUptoRow, standIns := [], harness := (true, "62fd168a1264eece3ff4b856cbdf5fc30e028e8adf85b23f952222c6375ed46b"), looks := false }, kinds := [], alts := [], laidByText := true, laidKinds := [.data, .data], laidTests := true, laidLooks := .later }
def VlqLessUptoCardSaid : Prop := Claim7.holds Tryd.pinned (.plain (OpenSpec.upto vlqLessSpec)) vlqLessUptoCard

/-- THE SECOND FORM's CARD OF 'rhynelaw07.VlqGets'. -/
def vlqGetsUptoCard : Claim7 := { stood := { row := vlqGetsUptoRow, standIns := [], harness := (true, "62fd168a1264eece3ff4b856cbdf5fc30e028e8adf85b23f952222c6375ed46b"), looks := false }, kinds := [], alts := [], laidByText := true, laidKinds := [.data, .data], laidTests := true, laidLooks := .later }
def VlqGetsUptoCardSaid : Prop := Claim7.holds Tryd.pinned (.plain (OpenSpec.upto vlqGetsSpec)) vlqGetsUptoCard

/-- THE SECOND FORM's CARD OF 'rhynelaw07.VlqReturns'. -/
def vlqReturnsUptoCard : Claim7 := { stood := { row := vlqReturnsUptoRow, standIns := [], harness := (true, "62fd168a1264eece3ff4b856cbdf5fc30e028e8adf85b23f952222c6375ed46b"), looks := false }, kinds := [], alts := [], laidByText := true, laidKinds := [.data, .data], laidTests := true, laidLooks := .later }
def VlqReturnsUptoCardSaid : Prop := Claim7.holds Tryd.pinned (.plain (OpenSpec.upto vlqReturnsSpec)) vlqReturnsUptoCard

/-- THE SECOND FORM's CARD OF 'rhynelaw07.VlqLists'. -/
def vlqListsUptoCard : Claim7 := { stood := { row := vlqListsUptoRow, standIns := [], harness := (true, "62fd168a1264eece3ff4b856cbdf5fc30e028e8adf85b23f952222c6375ed46b"), looks := false }, kinds := [], alts := [], laidByText := true, laidKinds := [.data, .data], laidTests := true, laidLooks := .later }
def VlqListsUptoCardSaid : Prop := Claim7.holds Tryd.pinned (.plain (OpenSpec.upto vlqListsSpec)) vlqListsUptoCard
end Rows
end Go.Proofs.YtpbhjemieikgpaaDoor
