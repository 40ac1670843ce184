/-
  DERIVED. GIVEN WITH THE SEED: THE CARDS: each row of YtkmjempbechagaaDoorRows.lean that lists a variable, with what it lists TIED to the program's text (the seventh form; the later family's looks); each row that meets fmt, with fmt's text TOLD by the authors' own Lean function (tested against real Go, not proved from fmt's source: count such statements apart). THE CARD IS WHAT COUNTS. Prove the row's statement (the work); the ties are given (YtkmjempbechagaaDoorTie.lean); close each card by the builder's one call (the guide's Derived/Test/ToyasCard.lean, 'card_holds'). Laid BY PROGRAM, IN A SANDBOX (cutbox-door.mjs). By AI agents, Wed Nov 11 2026. No macro, syntax, notation, axiom, sorry.
-/
import Derived.Test.YtkmjempbechagaaDoorRows
import GoSem.ClaimSeven
namespace Go.Proofs.YtkmjempbechagaaDoor
namespace Rows

/-- THE TIED CARD OF 'rhynelaw17.NameTells'. -/
def nameTellsCard : Claim7 := { stood := { row := nameTellsRow, standIns := [], harness := (true, "615d82a23f945106069add6793872796f471e638f9b2aced40dc778dc30a5b70"), looks := false }, kinds := [], alts := [], laidByText := true, laidKinds := [.data, .pinned], laidTests := true, laidLooks := .later }
def NameTellsCardSaid : Prop := Claim7.holds Tryd.pinned (.plain (OpenSpec.ofChange nameTellsSpec)) nameTellsCard

/-- THE TIED CARD OF 'rhynelaw17.NameOrders'. -/
def nameOrdersCard : Claim7 := { stood := { row := nameOrdersRow, standIns := [], harness := (true, "615d82a23f945106069add6793872796f471e638f9b2aced40dc778dc30a5b70"), looks := false }, kinds := [], alts := [], laidByText := true, laidKinds := [.data, .pinned], laidTests := true, laidLooks := .later }
def NameOrdersCardSaid : Prop := Claim7.holds Tryd.pinned (.plain (OpenSpec.ofChange nameOrdersSpec)) nameOrdersCard

/-- THE TIED CARD OF 'rhynelaw17.NameThree'. -/
def nameThreeCard : Claim7 := { stood := { row := nameThreeRow, standIns := [], harness := (true, "615d82a23f945106069add6793872796f471e638f9b2aced40dc778dc30a5b70"), looks := false }, kinds := [], alts := [], laidByText := true, laidKinds := [.data, .pinned], laidTests := true, laidLooks := .later }
def NameThreeCardSaid : Prop := Claim7.holds Tryd.pinned (.plain (OpenSpec.ofChange nameThreeSpec)) nameThreeCard

/-- THE TIED CARD OF 'rhynelaw17.NameUps'. -/
def nameUpsCard : Claim7 := { stood := { row := nameUpsRow, standIns := [], harness := (true, "615d82a23f945106069add6793872796f471e638f9b2aced40dc778dc30a5b70"), looks := false }, kinds := [], alts := [], laidByText := true, laidKinds := [.data, .pinned], laidTests := true, laidLooks := .later }
def NameUpsCardSaid : Prop := Claim7.holds Tryd.pinned (.plain (OpenSpec.ofChange nameUpsSpec)) nameUpsCard

/-- THE TIED CARD OF 'rhynelaw17.NameGets'. -/
def nameGetsCard : Claim7 := { stood := { row := nameGetsRow, standIns := [], harness := (true, "615d82a23f945106069add6793872796f471e638f9b2aced40dc778dc30a5b70"), looks := false }, kinds := [], alts := [], laidByText := true, laidKinds := [.data, .pinned], laidTests := true, laidLooks := .later }
def NameGetsCardSaid : Prop := Claim7.holds Tryd.pinned (.plain (OpenSpec.ofChange nameGetsSpec)) nameGetsCard

/-- THE TIED CARD OF 'rhynelaw17.NameBack'. -/
def nameBackCard : Claim7 := { stood := { row := nameBackRow, standIns := [], harness := (true, "615d82a23f945106069add6793872796f471e638f9b2aced40dc778dc30a5b70"), looks := false }, kinds := [], alts := [], laidByText := true, laidKinds := [.data, .pinned], laidTests := true, laidLooks := .later }
def NameBackCardSaid : Prop := Claim7.holds Tryd.pinned (.plain (OpenSpec.ofChange nameBackSpec)) nameBackCard

/-- THE TIED CARD OF 'rhynelaw17.NameShort'. -/
def nameShortCard : Claim7 := { stood := { row := nameShortRow, standIns := [], harness := (true, "615d82a23f945106069add6793872796f471e638f9b2aced40dc778dc30a5b70"), looks := false }, kinds := [], alts := [], laidByText := true, laidKinds := [.data, .pinned], laidTests := true, laidLooks := .later }
def NameShortCardSaid : Prop := Claim7.holds Tryd.pinned (.plain (OpenSpec.ofChange nameShortSpec)) nameShortCard

/-- THE SECOND FORM's CARD OF 'rhynelaw17.NameTells'. -/
def nameTellsUptoCard : Claim7 := { stood := { row := nameTellsUptoRow, standIns := [], harness := (true, "615d82a23f945106069add6793872796f471e638f9b2aced40dc778dc30a5b70"), looks := false }, kinds := [], alts := [], laidByText := true, laidKinds := [.data, .pinned], laidTests := true, laidLooks := .later }
def NameTellsUptoCardSaid : Prop := Claim7.holds Tryd.pinned (.plain (OpenSpec.upto nameTellsSpec)) nameTellsUptoCard

/-- THE SECOND FORM's CARD OF 'rhynelaw17.NameOrders'. -/
def nameOrdersUptoCard : Claim7 := { stood := { row := nameOrdersUptoRow, standIns := [], harness := (true, "615d82a23f945106069add6793872796f471e638f9b2aced40dc778dc30a5b70"), looks := false }, kinds := [], alts := [], laidByText := true, laidKinds := [.data, .pinned], laidTests := true, laidLooks := .later }
def NameOrdersUptoCardSaid : Prop := Claim7.holds Tryd.pinned (.plain (OpenSpec.upto nameOrdersSpec)) nameOrdersUptoCard

/-- THE SECOND FORM's CARD OF 'rhynelaw17.NameThree'. -/
def nameThreeUptoCard : Claim7 := { stood := { row := nameThreeUptoRow, standIns := [], harness := (true, "615d82a23f945106069add6793872796f471e638f9b2aced40dc778dc30a5b70"), looks := false }, kinds := [], alts := [], laidByText := true, laidKinds := [.data, .pinned], laidTests := true, laidLooks := .later }
def NameThreeUptoCardSaid : Prop := Claim7.holds Tryd.pinned (.plain (OpenSpec.upto nameThreeSpec)) nameThreeUptoCard

/-- THE SECOND FORM's CARD OF 'rhynelaw17.NameUps'. -/
def nameUpsUptoCard : Claim7 := { stood := { row := nameUpsUptoRow, standIns := [], harness := (true, "615d82a23f945106069add6793872796f471e638f9b2aced40dc778dc30a5b70"), looks := false }, kinds := [], alts := [], laidByText := true, laidKinds := [.data, .pinned], laidTests := true, laidLooks := .later }
def NameUpsUptoCardSaid : Prop := Claim7.holds Tryd.pinned (.plain (OpenSpec.upto nameUpsSpec)) nameUpsUptoCard

/-- THE SECOND FORM's CARD OF 'rhynelaw17.NameGets'. -/
def nameGetsUptoCard : Claim7 := { stood := { row := nameGetsUptoRow, standIns := [], harness := (true, "615d82a23f945106069add6793872796f471e638f9b2aced40dc778dc30a5b70"), looks := false }, kinds := [], alts := [], laidByText := true, laidKinds := [.data, .pinned], laidTests := true, laidLooks := .later }
def NameGetsUptoCardSaid : Prop := Claim7.holds Tryd.pinned (.plain (OpenSpec.upto nameGetsSpec)) nameGetsUptoCard

/-- THE SECOND FORM's CARD OF 'rhynelaw17.NameBack'. -/
def nameBackUptoCard : Claim7 := { stood := { row := nameBackUptoRow, standIns := [], harness := (true, "615d82a23f945106069add6793872796f471e638f9b2aced40dc778dc30a5b70"), looks := false }, kinds := [], alts := [], laidByText := true, laidKinds := [.data, .pinned], laidTests := true, laidLooks := .later }
def NameBackUptoCardSaid : Prop := Claim7.holds Tryd.pinned (.plain (OpenSpec.upto nameBackSpec)) nameBackUptoCard

/-- THE SECOND FORM's CARD OF 'rhynelaw17.NameShort'. -/
def nameShortUptoCard : Claim7 := { stood := { row := nameShortUptoRow, standIns := [], harness := (true, "615d82a23f945106069add6793872796f471e638f9b2aced40dc778dc30a5b70"), looks := false }, kinds := [], alts := [], laidByText := true, laidKinds := [.data, .pinned], laidTests := true, laidLooks := .later }
def NameShortUptoCardSaid : Prop := Claim7.holds Tryd.pinned (.plain (OpenSpec.upto nameShortSpec)) nameShortUptoCard
end Rows
end Go.Proofs.YtkmjempbechagaaDoor
