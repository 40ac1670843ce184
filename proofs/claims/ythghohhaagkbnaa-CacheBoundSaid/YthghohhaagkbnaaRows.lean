/-
  No cell of these rows narrows 'for every input' (looked for: loops, veiled, ifaces, maps, wideKeys, modest, calm, conditions, laid).
  DERIVED. THE GIVEN ROWS OF THIS SEAT. 6 by the template 'for every input the law returns true; each argument reads behind the call as it read before'; 0 by the template 'total and deterministic' (their statements: YthghohhaagkbnaaTotals.lean).
  GIVEN WITH THE SEED: the statements are not yours to turn. If you find one false, say at which input.
  Laid BY PROGRAM, IN A SANDBOX (cutbox-rows.mjs): the forced cells as the released guide's own fill.sh prints them over the translation 5a951f13514620f5… (all of the seat's roots in one cut). By AI agents, Wed Nov 11 2026. No macro, syntax, notation, axiom, sorry.
-/
import Derived.Test.YthghohhaagkbnaaChecked
import GoSem.Claim
import GoSem.ClaimJoined
import GoSem.ClaimMapViews
import Derived.JoinedTies
import Derived.KernelRfl
namespace Go.Proofs.Ythghohhaagkbnaa
/- THE CELL 'sum', in the pinned program and in every row, IS THE sha256 OF THE DUMP (.gsa) THAT YthghohhaagkbnaaProg.lean LOADS. Nothing in Lean hashes anything: it is a label: what it is worth is what the hold of that sum in a sandbox is worth. -/
noncomputable def Try.pinned : Pinned := { name := "ythghohhaagkbnaa", sum := "5a951f13514620f5a4e8433320ddd63f6ee3cf2ff01e2e8115d400cbadb16b98", checked := Try.checked }
namespace Rows
def none {H : Type} : Left H := { results := [], args := [] }

/-- 'rhynelaw22.CacheTimes': WHATEVER THE INPUT: true; the input reads as it did. -/
def cacheTimesSpec : ChangeSpec := { name := "cacheTimes", fn := fun _ => fun
  | [d1, d2] => { results := [.lit (.bool true)], args := [d1, d2] }
  | _ => none }
def cacheTimesRow : OpenClaim := { program := "ythghohhaagkbnaa", sum := "5a951f13514620f5a4e8433320ddd63f6ee3cf2ff01e2e8115d400cbadb16b98", func := "rhyne/rhynelaw22.CacheTimes", spec := "cacheTimes", unfollowed := true, recurses := true, plainKeys := false, apart := false }
def CacheTimesSaid : Prop := cacheTimesRow.holds Try.pinned (OpenSpec.ofChange cacheTimesSpec)

/-- ITS FALSE NEIGHBOUR: 'it returns false'. Refute it at one input. -/
def cacheTimesWrong : ChangeSpec := { name := "cacheTimes", fn := fun _ => fun
  | [d1, d2] => { results := [.lit (.bool false)], args := [d1, d2] }
  | _ => none }
def CacheTimesWrongFalsely : Prop := cacheTimesRow.holds Try.pinned (OpenSpec.ofChange cacheTimesWrong)

/-- 'rhynelaw22.CacheLeast': WHATEVER THE INPUT: true; the input reads as it did. -/
def cacheLeastSpec : ChangeSpec := { name := "cacheLeast", fn := fun _ => fun
  | [d] => { results := [.lit (.bool true)], args := [d] }
  | _ => none }
def cacheLeastRow : OpenClaim := { program := "ythghohhaagkbnaa", sum := "5a951f13514620f5a4e8433320ddd63f6ee3cf2ff01e2e8115d400cbadb16b98", func := "rhyne/rhynelaw22.CacheLeast", spec := "cacheLeast", unfollowed := true, recurses := true, plainKeys := false, apart := false }
def CacheLeastSaid : Prop := cacheLeastRow.holds Try.pinned (OpenSpec.ofChange cacheLeastSpec)

/-- ITS FALSE NEIGHBOUR: 'it returns false'. Refute it at one input. -/
def cacheLeastWrong : ChangeSpec := { name := "cacheLeast", fn := fun _ => fun
  | [d] => { results := [.lit (.bool false)], args := [d] }
  | _ => none }
def CacheLeastWrongFalsely : Prop := cacheLeastRow.holds Try.pinned (OpenSpec.ofChange cacheLeastWrong)

/-- 'rhynelaw22.CacheKinds': WHATEVER THE INPUT: true; the input reads as it did. -/
def cacheKindsSpec : ChangeSpec := { name := "cacheKinds", fn := fun _ => fun
  | [d1, d2, d3] => { results := [.lit (.bool true)], args := [d1, d2, d3] }
  | _ => none }
def cacheKindsRow : OpenClaim := { program := "ythghohhaagkbnaa", sum := "5a951f13514620f5a4e8433320ddd63f6ee3cf2ff01e2e8115d400cbadb16b98", func := "rhyne/rhynelaw22.CacheKinds", spec := "cacheKinds", unfollowed := true, recurses := true, plainKeys := false, apart := false }
def CacheKindsSaid : Prop := cacheKindsRow.holds Try.pinned (OpenSpec.ofChange cacheKindsSpec)

/-- ITS FALSE NEIGHBOUR: 'it returns false'. Refute it at one input. -/
def cacheKindsWrong : ChangeSpec := { name := "cacheKinds", fn := fun _ => fun
  | [d1, d2, d3] => { results := [.lit (.bool false)], args := [d1, d2, d3] }
  | _ => none }
def CacheKindsWrongFalsely : Prop := cacheKindsRow.holds Try.pinned (OpenSpec.ofChange cacheKindsWrong)

/-- 'rhynelaw22.CacheBound': WHATEVER THE INPUT: true; the input reads as it did. -/
def cacheBoundSpec : ChangeSpec := { name := "cacheBound", fn := fun _ => fun
  | [d1, d2] => { results := [.lit (.bool true)], args := [d1, d2] }
  | _ => none }
def cacheBoundRow : OpenClaim := { program := "ythghohhaagkbnaa", sum := "5a951f13514620f5a4e8433320ddd63f6ee3cf2ff01e2e8115d400cbadb16b98", func := "rhyne/rhynelaw22.CacheBound", spec := "cacheBound", unfollowed := true, recurses := true, plainKeys := false, apart := false }
def CacheBoundSaid : Prop := cacheBoundRow.holds Try.pinned (OpenSpec.ofChange cacheBoundSpec)

/-- ITS FALSE NEIGHBOUR: 'it returns false'. Refute it at one input. -/
def cacheBoundWrong : ChangeSpec := { name := "cacheBound", fn := fun _ => fun
  | [d1, d2] => { results := [.lit (.bool false)], args := [d1, d2] }
  | _ => none }
def CacheBoundWrongFalsely : Prop := cacheBoundRow.holds Try.pinned (OpenSpec.ofChange cacheBoundWrong)

/-- 'rhynelaw22.CacheTurns': WHATEVER THE INPUT: true; the input reads as it did. -/
def cacheTurnsSpec : ChangeSpec := { name := "cacheTurns", fn := fun _ => fun
  | [d1, d2] => { results := [.lit (.bool true)], args := [d1, d2] }
  | _ => none }
def cacheTurnsRow : OpenClaim := { program := "ythghohhaagkbnaa", sum := "5a951f13514620f5a4e8433320ddd63f6ee3cf2ff01e2e8115d400cbadb16b98", func := "rhyne/rhynelaw22.CacheTurns", spec := "cacheTurns", unfollowed := true, recurses := true, plainKeys := false, apart := false }
def CacheTurnsSaid : Prop := cacheTurnsRow.holds Try.pinned (OpenSpec.ofChange cacheTurnsSpec)

/-- ITS FALSE NEIGHBOUR: 'it returns false'. Refute it at one input. -/
def cacheTurnsWrong : ChangeSpec := { name := "cacheTurns", fn := fun _ => fun
  | [d1, d2] => { results := [.lit (.bool false)], args := [d1, d2] }
  | _ => none }
def CacheTurnsWrongFalsely : Prop := cacheTurnsRow.holds Try.pinned (OpenSpec.ofChange cacheTurnsWrong)

/-- 'rhynelaw22.CacheLeft': WHATEVER THE INPUT: true; the input reads as it did. -/
def cacheLeftSpec : ChangeSpec := { name := "cacheLeft", fn := fun _ => fun
  | [d1, d2] => { results := [.lit (.bool true)], args := [d1, d2] }
  | _ => none }
def cacheLeftRow : OpenClaim := { program := "ythghohhaagkbnaa", sum := "5a951f13514620f5a4e8433320ddd63f6ee3cf2ff01e2e8115d400cbadb16b98", func := "rhyne/rhynelaw22.CacheLeft", spec := "cacheLeft", unfollowed := true, recurses := true, plainKeys := false, apart := false }
def CacheLeftSaid : Prop := cacheLeftRow.holds Try.pinned (OpenSpec.ofChange cacheLeftSpec)

/-- ITS FALSE NEIGHBOUR: 'it returns false'. Refute it at one input. -/
def cacheLeftWrong : ChangeSpec := { name := "cacheLeft", fn := fun _ => fun
  | [d1, d2] => { results := [.lit (.bool false)], args := [d1, d2] }
  | _ => none }
def CacheLeftWrongFalsely : Prop := cacheLeftRow.holds Try.pinned (OpenSpec.ofChange cacheLeftWrong)

/- THE SECOND FORM. 'bulk': how many values and letters a reading holds, each counted each time it is reached (what is shared counts as often as it is met; a slice's spare places count too). A statement '..UptoSaid' is the law's where the arguments, and the package variables that the reading takes, are together of bulk at most 1048576: NARROWER than '..Said'. Prove '..Said' where nothing that the law and all that it calls make is longer than what came in: it says more and counts as full. Else prove '..UptoSaid'. A law counts once. -/
mutual
def uptoBulk {H : Type} : DataW H → Nat
  | .lit (.string bytes) => bytes.length + 1
  | .lit _ => 1
  | .nil => 1
  | .ptr d => uptoBulk d + 1
  | .slice elems spare => uptoBulkAll elems + uptoBulkAll spare + 1
  | .agg parts => uptoBulkAll parts + 1
  | .iface _ d => uptoBulk d + 1
  | .map entries => uptoBulkEntries entries + 1
  | .held _ => 1
def uptoBulkAll {H : Type} : List (DataW H) → Nat
  | [] => 0
  | d :: r => uptoBulk d + uptoBulkAll r
def uptoBulkEntries {H : Type} : List (Lit × DataW H) → Nat
  | [] => 0
  | x :: r => uptoBulkEntry x + uptoBulkEntries r
def uptoBulkEntry {H : Type} : Lit × DataW H → Nat
  | (.string bytes, d) => bytes.length + uptoBulk d + 1
  | (_, d) => uptoBulk d + 1
 end
def uptoSmall : (H : Type) → List (DataW H) → Bool := fun _ ds => decide (uptoBulkAll ds ≤ 1048576)
def OpenSpec.upto (s : _root_.Go.ChangeSpec) : _root_.Go.OpenSpec := { _root_.Go.OpenSpec.ofChange s with cond := some uptoSmall }

/-- 'rhynelaw22.CacheTimes', WHERE WHAT IT READS IS OF BULK AT MOST 1048576: true; the input reads as it did. -/
def cacheTimesUptoRow : OpenClaim := { program := "ythghohhaagkbnaa", sum := "5a951f13514620f5a4e8433320ddd63f6ee3cf2ff01e2e8115d400cbadb16b98", func := "rhyne/rhynelaw22.CacheTimes", spec := "cacheTimes", unfollowed := true, recurses := true, plainKeys := false, apart := false, narrowed := true }
def CacheTimesUptoSaid : Prop := cacheTimesUptoRow.holds Try.pinned (OpenSpec.upto cacheTimesSpec)

/-- 'rhynelaw22.CacheLeast', WHERE WHAT IT READS IS OF BULK AT MOST 1048576: true; the input reads as it did. -/
def cacheLeastUptoRow : OpenClaim := { program := "ythghohhaagkbnaa", sum := "5a951f13514620f5a4e8433320ddd63f6ee3cf2ff01e2e8115d400cbadb16b98", func := "rhyne/rhynelaw22.CacheLeast", spec := "cacheLeast", unfollowed := true, recurses := true, plainKeys := false, apart := false, narrowed := true }
def CacheLeastUptoSaid : Prop := cacheLeastUptoRow.holds Try.pinned (OpenSpec.upto cacheLeastSpec)

/-- 'rhynelaw22.CacheKinds', WHERE WHAT IT READS IS OF BULK AT MOST 1048576: true; the input reads as it did. -/
def cacheKindsUptoRow : OpenClaim := { program := "ythghohhaagkbnaa", sum := "5a951f13514620f5a4e8433320ddd63f6ee3cf2ff01e2e8115d400cbadb16b98", func := "rhyne/rhynelaw22.CacheKinds", spec := "cacheKinds", unfollowed := true, recurses := true, plainKeys := false, apart := false, narrowed := true }
def CacheKindsUptoSaid : Prop := cacheKindsUptoRow.holds Try.pinned (OpenSpec.upto cacheKindsSpec)

/-- 'rhynelaw22.CacheBound', WHERE WHAT IT READS IS OF BULK AT MOST 1048576: true; the input reads as it did. -/
def cacheBoundUptoRow : OpenClaim := { program := "ythghohhaagkbnaa", sum := "5a951f13514620f5a4e8433320ddd63f6ee3cf2ff01e2e8115d400cbadb16b98", func := "rhyne/rhynelaw22.CacheBound", spec := "cacheBound", unfollowed := true, recurses := true, plainKeys := false, apart := false, narrowed := true }
def CacheBoundUptoSaid : Prop := cacheBoundUptoRow.holds Try.pinned (OpenSpec.upto cacheBoundSpec)

/-- 'rhynelaw22.CacheTurns', WHERE WHAT IT READS IS OF BULK AT MOST 1048576: true; the input reads as it did. -/
def cacheTurnsUptoRow : OpenClaim := { program := "ythghohhaagkbnaa", sum := "5a951f13514620f5a4e8433320ddd63f6ee3cf2ff01e2e8115d400cbadb16b98", func := "rhyne/rhynelaw22.CacheTurns", spec := "cacheTurns", unfollowed := true, recurses := true, plainKeys := false, apart := false, narrowed := true }
def CacheTurnsUptoSaid : Prop := cacheTurnsUptoRow.holds Try.pinned (OpenSpec.upto cacheTurnsSpec)

/-- 'rhynelaw22.CacheLeft', WHERE WHAT IT READS IS OF BULK AT MOST 1048576: true; the input reads as it did. -/
def cacheLeftUptoRow : OpenClaim := { program := "ythghohhaagkbnaa", sum := "5a951f13514620f5a4e8433320ddd63f6ee3cf2ff01e2e8115d400cbadb16b98", func := "rhyne/rhynelaw22.CacheLeft", spec := "cacheLeft", unfollowed := true, recurses := true, plainKeys := false, apart := false, narrowed := true }
def CacheLeftUptoSaid : Prop := cacheLeftUptoRow.holds Try.pinned (OpenSpec.upto cacheLeftSpec)

end Rows
end Go.Proofs.Ythghohhaagkbnaa
