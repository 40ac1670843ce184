/-
  DERIVED. GIVEN WITH THE SEED: THE CARDS: each row of YtbmmgibeidjgfaaDoorRows.lean that lists a variable, with what it lists TIED to the program's text (the seventh form; the later family's looks); each row that meets fmt, with fmt's text TOLD by the authors' own Lean function (tested against real Go, not proved from fmt's source: count such statements apart). THE CARD IS WHAT COUNTS. Prove the row's statement (the work); the ties are given (YtbmmgibeidjgfaaDoorTie.lean); close each card by the builder's one call (the guide's Derived/Test/ToyasCard.lean, 'card_holds'). Laid BY PROGRAM, IN A SANDBOX (cutbox-door.mjs). By AI agents, Wed Nov 11 2026. No macro, syntax, notation, axiom, sorry.
-/
import Derived.Test.YtbmmgibeidjgfaaDoorRows
import GoSem.ClaimSeven
namespace Go.Proofs.YtbmmgibeidjgfaaDoor
namespace Rows

/-- THE TIED CARD OF 'rhynelaw07.VlqLists'. -/
def vlqListsCard : Claim7 := { stood := { row := vlqListsRow, standIns := [], harness := (true, "4e5ed2309f04b15e2512e63effa5a7ee4804b552807417dc30f5956ab75b92dc"), looks := false }, kinds := [], alts := [], laidByText := true, laidKinds := [.data, .data], laidTests := true, laidLooks := .later }
def VlqListsCardSaid : Prop := Claim7.holds Tryd.pinned (.plain (OpenSpec.ofChange vlqListsSpec)) vlqListsCard

/-- THE SECOND FORM's CARD OF 'rhynelaw07.VlqLists'. -/
def vlqListsUptoCard : Claim7 := { stood := { row := vlqListsUptoRow, standIns := [], harness := (true, "4e5ed2309f04b15e2512e63effa5a7ee4804b552807417dc30f5956ab75b92dc"), looks := false }, kinds := [], alts := [], laidByText := true, laidKinds := [.data, .data], laidTests := true, laidLooks := .later }
def VlqListsUptoCardSaid : Prop := Claim7.holds Tryd.pinned (.plain (OpenSpec.upto vlqListsSpec)) vlqListsUptoCard
end Rows
end Go.Proofs.YtbmmgibeidjgfaaDoor
