/-
  No cell of these rows narrows 'for every input' (looked for: loops, veiled, ifaces, maps, wideKeys, modest, calm, conditions, laid).
  DERIVED. THE GIVEN ROWS OF THIS SEAT. 5 by the template 'for every input the law returns true; each argument reads behind the call as it read before'; 0 by the template 'total and deterministic' (their statements: YtliblomkhapibaaTotals.lean).
  GIVEN WITH THE SEED: the statements are not yours to turn. If you find one false, say at which input.
  Laid BY PROGRAM, IN A SANDBOX (cutbox-rows.mjs): the forced cells as the released guide's own fill.sh prints them over the translation 4d0aef777ca5e94e… (all of the seat's roots in one cut). By AI agents, Wed Nov 11 2026. No macro, syntax, notation, axiom, sorry.
-/
import Derived.Test.YtliblomkhapibaaChecked
import GoSem.Claim
import GoSem.ClaimJoined
import GoSem.ClaimMapViews
import Derived.JoinedTies
import Derived.KernelRfl
namespace Go.Proofs.Ytliblomkhapibaa
/- THE CELL 'sum', in the pinned program and in every row, IS THE sha256 OF THE DUMP (.gsa) THAT YtliblomkhapibaaProg.lean LOADS. Nothing in Lean hashes anything: it is a label: what it is worth is what the hold of that sum in a sandbox is worth. -/
noncomputable def Try.pinned : Pinned := { name := "ytliblomkhapibaa", sum := "4d0aef777ca5e94e36b939247f81b6dcc93867a0c30ecd6444a807508beeea4d", checked := Try.checked }
namespace Rows
def none {H : Type} : Left H := { results := [], args := [] }

/-- 'rhynelaw12.LossTrips': WHATEVER THE INPUT: true; the input reads as it did. -/
def lossTripsSpec : ChangeSpec := { name := "lossTrips", fn := fun _ => fun
  | [d] => { results := [.lit (.bool true)], args := [d] }
  | _ => none }
def lossTripsRow : OpenClaim := { program := "ytliblomkhapibaa", sum := "4d0aef777ca5e94e36b939247f81b6dcc93867a0c30ecd6444a807508beeea4d", func := "rhyne/rhynelaw12.LossTrips", spec := "lossTrips", unfollowed := true, recurses := true, apart := false }
def LossTripsSaid : Prop := lossTripsRow.holds Try.pinned (OpenSpec.ofChange lossTripsSpec)

/-- ITS FALSE NEIGHBOUR: 'it returns false'. Refute it at one input. -/
def lossTripsWrong : ChangeSpec := { name := "lossTrips", fn := fun _ => fun
  | [d] => { results := [.lit (.bool false)], args := [d] }
  | _ => none }
def LossTripsWrongFalsely : Prop := lossTripsRow.holds Try.pinned (OpenSpec.ofChange lossTripsWrong)

/-- 'rhynelaw12.LossOnce': WHATEVER THE INPUT: true; the input reads as it did. -/
def lossOnceSpec : ChangeSpec := { name := "lossOnce", fn := fun _ => fun
  | [d] => { results := [.lit (.bool true)], args := [d] }
  | _ => none }
def lossOnceRow : OpenClaim := { program := "ytliblomkhapibaa", sum := "4d0aef777ca5e94e36b939247f81b6dcc93867a0c30ecd6444a807508beeea4d", func := "rhyne/rhynelaw12.LossOnce", spec := "lossOnce", unfollowed := true, recurses := true, apart := false }
def LossOnceSaid : Prop := lossOnceRow.holds Try.pinned (OpenSpec.ofChange lossOnceSpec)

/-- ITS FALSE NEIGHBOUR: 'it returns false'. Refute it at one input. -/
def lossOnceWrong : ChangeSpec := { name := "lossOnce", fn := fun _ => fun
  | [d] => { results := [.lit (.bool false)], args := [d] }
  | _ => none }
def LossOnceWrongFalsely : Prop := lossOnceRow.holds Try.pinned (OpenSpec.ofChange lossOnceWrong)

/-- 'rhynelaw12.LossGives': WHATEVER THE INPUT: true; the input reads as it did. -/
def lossGivesSpec : ChangeSpec := { name := "lossGives", fn := fun _ => fun
  | [d1, d2] => { results := [.lit (.bool true)], args := [d1, d2] }
  | _ => none }
def lossGivesRow : OpenClaim := { program := "ytliblomkhapibaa", sum := "4d0aef777ca5e94e36b939247f81b6dcc93867a0c30ecd6444a807508beeea4d", func := "rhyne/rhynelaw12.LossGives", spec := "lossGives", unfollowed := true, recurses := true, apart := false }
def LossGivesSaid : Prop := lossGivesRow.holds Try.pinned (OpenSpec.ofChange lossGivesSpec)

/-- ITS FALSE NEIGHBOUR: 'it returns false'. Refute it at one input. -/
def lossGivesWrong : ChangeSpec := { name := "lossGives", fn := fun _ => fun
  | [d1, d2] => { results := [.lit (.bool false)], args := [d1, d2] }
  | _ => none }
def LossGivesWrongFalsely : Prop := lossGivesRow.holds Try.pinned (OpenSpec.ofChange lossGivesWrong)

/-- 'rhynelaw12.LossEvents': WHATEVER THE INPUT: true; the input reads as it did. -/
def lossEventsSpec : ChangeSpec := { name := "lossEvents", fn := fun _ => fun
  | [d] => { results := [.lit (.bool true)], args := [d] }
  | _ => none }
def lossEventsRow : OpenClaim := { program := "ytliblomkhapibaa", sum := "4d0aef777ca5e94e36b939247f81b6dcc93867a0c30ecd6444a807508beeea4d", func := "rhyne/rhynelaw12.LossEvents", spec := "lossEvents", unfollowed := true, recurses := true, apart := false }
def LossEventsSaid : Prop := lossEventsRow.holds Try.pinned (OpenSpec.ofChange lossEventsSpec)

/-- ITS FALSE NEIGHBOUR: 'it returns false'. Refute it at one input. -/
def lossEventsWrong : ChangeSpec := { name := "lossEvents", fn := fun _ => fun
  | [d] => { results := [.lit (.bool false)], args := [d] }
  | _ => none }
def LossEventsWrongFalsely : Prop := lossEventsRow.holds Try.pinned (OpenSpec.ofChange lossEventsWrong)

/-- 'rhynelaw12.LossEnds': WHATEVER THE INPUT: true; the input reads as it did. -/
def lossEndsSpec : ChangeSpec := { name := "lossEnds", fn := fun _ => fun
  | [d1, d2, d3] => { results := [.lit (.bool true)], args := [d1, d2, d3] }
  | _ => none }
def lossEndsRow : OpenClaim := { program := "ytliblomkhapibaa", sum := "4d0aef777ca5e94e36b939247f81b6dcc93867a0c30ecd6444a807508beeea4d", func := "rhyne/rhynelaw12.LossEnds", spec := "lossEnds", unfollowed := true, recurses := true, apart := false }
def LossEndsSaid : Prop := lossEndsRow.holds Try.pinned (OpenSpec.ofChange lossEndsSpec)

/-- ITS FALSE NEIGHBOUR: 'it returns false'. Refute it at one input. -/
def lossEndsWrong : ChangeSpec := { name := "lossEnds", fn := fun _ => fun
  | [d1, d2, d3] => { results := [.lit (.bool false)], args := [d1, d2, d3] }
  | _ => none }
def LossEndsWrongFalsely : Prop := lossEndsRow.holds Try.pinned (OpenSpec.ofChange lossEndsWrong)

/- THE SECOND FORM. 'bulk': how many values and letters a reading holds, each counted each time it is reached (what is shared counts as often as it is met; a slice's spare places count too). A statement '..UptoSaid' is the law's where the arguments, and the package variables that the reading takes, are together of bulk at most 1048576: NARROWER than '..Said'. Prove '..Said' where nothing that the law and all that it calls make is longer than what came in: it says more and counts as full. Else prove '..UptoSaid'. A law counts once. -/
mutual
def uptoBulk {H : Type} : DataW H → Nat
  | .lit (.string bytes) => bytes.length + 1
  | .lit _ => 1
  | .nil => 1
  | .ptr d => uptoBulk d + 1
  | .slice elems spare => uptoBulkAll elems + uptoBulkAll spare + 1
  | .agg parts => uptoBulkAll parts + 1
  | .iface _ d => uptoBulk d + 1
  | .map entries => uptoBulkEntries entries + 1
  | .held _ => 1
def uptoBulkAll {H : Type} : List (DataW H) → Nat
  | [] => 0
  | d :: r => uptoBulk d + uptoBulkAll r
def uptoBulkEntries {H : Type} : List (Lit × DataW H) → Nat
  | [] => 0
  | x :: r => uptoBulkEntry x + uptoBulkEntries r
def uptoBulkEntry {H : Type} : Lit × DataW H → Nat
  | (.string bytes, d) => bytes.length + uptoBulk d + 1
  | (_, d) => uptoBulk d + 1
 end
def uptoSmall : (H : Type) → List (DataW H) → Bool := fun _ ds => decide (uptoBulkAll ds ≤ 1048576)
def OpenSpec.upto (s : _root_.Go.ChangeSpec) : _root_.Go.OpenSpec := { _root_.Go.OpenSpec.ofChange s with cond := some uptoSmall }

/-- 'rhynelaw12.LossTrips', WHERE WHAT IT READS IS OF BULK AT MOST 1048576: true; the input reads as it did. -/
def lossTripsUptoRow : OpenClaim := { program := "ytliblomkhapibaa", sum := "4d0aef777ca5e94e36b939247f81b6dcc93867a0c30ecd6444a807508beeea4d", func := "rhyne/rhynelaw12.LossTrips", spec := "lossTrips", unfollowed := true, recurses := true, apart := false, narrowed := true }
def LossTripsUptoSaid : Prop := lossTripsUptoRow.holds Try.pinned (OpenSpec.upto lossTripsSpec)

/-- 'rhynelaw12.LossOnce', WHERE WHAT IT READS IS OF BULK AT MOST 1048576: true; the input reads as it did. -/
def lossOnceUptoRow : OpenClaim := { program := "ytliblomkhapibaa", sum := "4d0aef777ca5e94e36b939247f81b6dcc93867a0c30ecd6444a807508beeea4d", func := "rhyne/rhynelaw12.LossOnce", spec := "lossOnce", unfollowed := true, recurses := true, apart := false, narrowed := true }
def LossOnceUptoSaid : Prop := lossOnceUptoRow.holds Try.pinned (OpenSpec.upto lossOnceSpec)

/-- 'rhynelaw12.LossGives', WHERE WHAT IT READS IS OF BULK AT MOST 1048576: true; the input reads as it did. -/
def lossGivesUptoRow : OpenClaim := { program := "ytliblomkhapibaa", sum := "4d0aef777ca5e94e36b939247f81b6dcc93867a0c30ecd6444a807508beeea4d", func := "rhyne/rhynelaw12.LossGives", spec := "lossGives", unfollowed := true, recurses := true, apart := false, narrowed := true }
def LossGivesUptoSaid : Prop := lossGivesUptoRow.holds Try.pinned (OpenSpec.upto lossGivesSpec)

/-- 'rhynelaw12.LossEvents', WHERE WHAT IT READS IS OF BULK AT MOST 1048576: true; the input reads as it did. -/
def lossEventsUptoRow : OpenClaim := { program := "ytliblomkhapibaa", sum := "4d0aef777ca5e94e36b939247f81b6dcc93867a0c30ecd6444a807508beeea4d", func := "rhyne/rhynelaw12.LossEvents", spec := "lossEvents", unfollowed := true, recurses := true, apart := false, narrowed := true }
def LossEventsUptoSaid : Prop := lossEventsUptoRow.holds Try.pinned (OpenSpec.upto lossEventsSpec)

/-- 'rhynelaw12.LossEnds', WHERE WHAT IT READS IS OF BULK AT MOST 1048576: true; the input reads as it did. -/
def lossEndsUptoRow : OpenClaim := { program := "ytliblomkhapibaa", sum := "4d0aef777ca5e94e36b939247f81b6dcc93867a0c30ecd6444a807508beeea4d", func := "rhyne/rhynelaw12.LossEnds", spec := "lossEnds", unfollowed := true, recurses := true, apart := false, narrowed := true }
def LossEndsUptoSaid : Prop := lossEndsUptoRow.holds Try.pinned (OpenSpec.upto lossEndsSpec)

end Rows
end Go.Proofs.Ytliblomkhapibaa
