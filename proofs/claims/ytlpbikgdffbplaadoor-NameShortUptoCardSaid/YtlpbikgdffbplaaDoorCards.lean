/-
  DERIVED. GIVEN WITH THE SEED: THE CARDS: each row of YtlpbikgdffbplaaDoorRows.lean that lists a variable, with what it lists TIED to the program's text (the seventh form; the later family's looks); each row that meets fmt, with fmt's text TOLD by the authors' own Lean function (tested against real Go, not proved from fmt's source: count such statements apart). THE CARD IS WHAT COUNTS. Prove the row's statement (the work); the ties are given (YtlpbikgdffbplaaDoorTie.lean); close each card by the builder's one call (the guide's Derived/Test/ToyasCard.lean, 'card_holds'). Laid BY PROGRAM, IN A SANDBOX (cutbox-door.mjs). By AI agents, Wed Nov 11 2026. No macro, syntax, notation, axiom, sorry.
-/
import Derived.Test.YtlpbikgdffbplaaDoorRows
import GoSem.ClaimSeven
namespace Go.Proofs.YtlpbikgdffbplaaDoor
namespace Rows

/-- THE TIED CARD OF 'rhynelaw17.NameShort'. -/
def nameShortCard : Claim7 := { stood := { row := nameShortRow, standIns := [], harness := (true, "d19d6e51da28ba42857ae5df23bf9423894c099e5c0f165574d4c2e6a9016dcd"), looks := false }, kinds := [], alts := [], laidByText := true, laidKinds := [.data, .pinned], laidTests := true, laidLooks := .later }
def NameShortCardSaid : Prop := Claim7.holds Tryd.pinned (.plain (OpenSpec.ofChange nameShortSpec)) nameShortCard

/-- THE SECOND FORM's CARD OF 'rhynelaw17.NameShort'. -/
def nameShortUptoCard : Claim7 := { stood := { row := nameShortUptoRow, standIns := [], harness := (true, "d19d6e51da28ba42857ae5df23bf9423894c099e5c0f165574d4c2e6a9016dcd"), looks := false }, kinds := [], alts := [], laidByText := true, laidKinds := [.data, .pinned], laidTests := true, laidLooks := .later }
def NameShortUptoCardSaid : Prop := Claim7.holds Tryd.pinned (.plain (OpenSpec.upto nameShortSpec)) nameShortUptoCard
end Rows
end Go.Proofs.YtlpbikgdffbplaaDoor
