/-
  No cell of these rows narrows 'for every input' (looked for: loops, veiled, ifaces, maps, wideKeys, modest, calm, conditions, laid).
  DERIVED. THE GIVEN ROWS OF THIS SEAT. 2 by the template 'for every input the law returns true; each argument reads behind the call as it read before'; 0 by the template 'total and deterministic' (their statements: YtjblahoegfojdaaTotals.lean).
  GIVEN WITH THE SEED: the statements are not yours to turn. If you find one false, say at which input.
  Laid BY PROGRAM, IN A SANDBOX (cutbox-rows.mjs): the forced cells as the released guide's own fill.sh prints them over the translation cd9b00d10a5f1251… (all of the seat's roots in one cut). By AI agents, Wed Nov 11 2026. No macro, syntax, notation, axiom, sorry.
-/
import Derived.Test.YtjblahoegfojdaaChecked
import GoSem.Claim
import GoSem.ClaimJoined
import GoSem.ClaimMapViews
import Derived.JoinedTies
import Derived.KernelRfl
namespace Go.Proofs.Ytjblahoegfojdaa
/- THE CELL 'sum', in the pinned program and in every row, IS THE sha256 OF THE DUMP (.gsa) THAT YtjblahoegfojdaaProg.lean LOADS. Nothing in Lean hashes anything: it is a label: what it is worth is what the hold of that sum in a sandbox is worth. -/
noncomputable def Try.pinned : Pinned := { name := "ytjblahoegfojdaa", sum := "cd9b00d10a5f125154c7b73946e4bff38868d0b22dfa78c1616aa4f66307b2d4", checked := Try.checked }
namespace Rows
def none {H : Type} : Left H := { results := [], args := [] }

/-- 'rhynelaw23.DoqReads': WHATEVER THE INPUT: true; the input reads as it did. -/
def doqReadsSpec : ChangeSpec := { name := "doqReads", fn := fun _ => fun
  | [d1, d2] => { results := [.lit (.bool true)], args := [d1, d2] }
  | _ => none }
def doqReadsRow : OpenClaim := { program := "ytjblahoegfojdaa", sum := "cd9b00d10a5f125154c7b73946e4bff38868d0b22dfa78c1616aa4f66307b2d4", func := "rhyne/rhynelaw23.DoqReads", spec := "doqReads", apart := false }
def DoqReadsSaid : Prop := doqReadsRow.holds Try.pinned (OpenSpec.ofChange doqReadsSpec)

/-- ITS FALSE NEIGHBOUR: 'it returns false'. Refute it at one input. -/
def doqReadsWrong : ChangeSpec := { name := "doqReads", fn := fun _ => fun
  | [d1, d2] => { results := [.lit (.bool false)], args := [d1, d2] }
  | _ => none }
def DoqReadsWrongFalsely : Prop := doqReadsRow.holds Try.pinned (OpenSpec.ofChange doqReadsWrong)

/-- 'rhynelaw23.DoqBack': WHATEVER THE INPUT: true; the input reads as it did. -/
def doqBackSpec : ChangeSpec := { name := "doqBack", fn := fun _ => fun
  | [d1, d2] => { results := [.lit (.bool true)], args := [d1, d2] }
  | _ => none }
def doqBackRow : OpenClaim := { program := "ytjblahoegfojdaa", sum := "cd9b00d10a5f125154c7b73946e4bff38868d0b22dfa78c1616aa4f66307b2d4", func := "rhyne/rhynelaw23.DoqBack", spec := "doqBack", apart := false }
def DoqBackSaid : Prop := doqBackRow.holds Try.pinned (OpenSpec.ofChange doqBackSpec)

/-- ITS FALSE NEIGHBOUR: 'it returns false'. Refute it at one input. -/
def doqBackWrong : ChangeSpec := { name := "doqBack", fn := fun _ => fun
  | [d1, d2] => { results := [.lit (.bool false)], args := [d1, d2] }
  | _ => none }
def DoqBackWrongFalsely : Prop := doqBackRow.holds Try.pinned (OpenSpec.ofChange doqBackWrong)

/- THE SECOND FORM. 'bulk': how many values and letters a reading holds, each counted each time it is reached (what is shared counts as often as it is met; a slice's spare places count too). A statement '..UptoSaid' is the law's where the arguments, and the package variables that the reading takes, are together of bulk at most 1048576: NARROWER than '..Said'. Prove '..Said' where nothing that the law and all that it calls make is longer than what came in: it says more and counts as full. Else prove '..UptoSaid'. A law counts once. -/
mutual
def uptoBulk {H : Type} : DataW H → Nat
  | .lit (.string bytes) => bytes.length + 1
  | .lit _ => 1
  | .nil => 1
  | .ptr d => uptoBulk d + 1
  | .slice elems spare => uptoBulkAll elems + uptoBulkAll spare + 1
  | .agg parts => uptoBulkAll parts + 1
  | .iface _ d => uptoBulk d + 1
  | .map entries => uptoBulkEntries entries + 1
  | .held _ => 1
def uptoBulkAll {H : Type} : List (DataW H) → Nat
  | [] => 0
  | d :: r => uptoBulk d + uptoBulkAll r
def uptoBulkEntries {H : Type} : List (Lit × DataW H) → Nat
  | [] => 0
  | x :: r => uptoBulkEntry x + uptoBulkEntries r
def uptoBulkEntry {H : Type} : Lit × DataW H → Nat
  | (.string bytes, d) => bytes.length + uptoBulk d + 1
  | (_, d) => uptoBulk d + 1
 end
def uptoSmall : (H : Type) → List (DataW H) → Bool := fun _ ds => decide (uptoBulkAll ds ≤ 1048576)
def OpenSpec.upto (s : _root_.Go.ChangeSpec) : _root_.Go.OpenSpec := { _root_.Go.OpenSpec.ofChange s with cond := some uptoSmall }

/-- 'rhynelaw23.DoqReads', WHERE WHAT IT READS IS OF BULK AT MOST 1048576: true; the input reads as it did. -/
def doqReadsUptoRow : OpenClaim := { program := "ytjblahoegfojdaa", sum := "cd9b00d10a5f125154c7b73946e4bff38868d0b22dfa78c1616aa4f66307b2d4", func := "rhyne/rhynelaw23.DoqReads", spec := "doqReads", apart := false, narrowed := true }
def DoqReadsUptoSaid : Prop := doqReadsUptoRow.holds Try.pinned (OpenSpec.upto doqReadsSpec)

/-- 'rhynelaw23.DoqBack', WHERE WHAT IT READS IS OF BULK AT MOST 1048576: true; the input reads as it did. -/
def doqBackUptoRow : OpenClaim := { program := "ytjblahoegfojdaa", sum := "cd9b00d10a5f125154c7b73946e4bff38868d0b22dfa78c1616aa4f66307b2d4", func := "rhyne/rhynelaw23.DoqBack", spec := "doqBack", apart := false, narrowed := true }
def DoqBackUptoSaid : Prop := doqBackUptoRow.holds Try.pinned (OpenSpec.upto doqBackSpec)

end Rows
end Go.Proofs.Ytjblahoegfojdaa
