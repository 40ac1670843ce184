/-
  NARROWER THAN 'FOR EVERY INPUT', by the rows' own cells (each row's printed sentence says how): PacketPuts: laid · PacketNear: laid · PacketGets: laid · PacketBack: laid · PacketRows: laid · FramesAcks: laid · FramesLengths: laid · FramesPut: laid · FramesBack: laid.
  DERIVED. THE GIVEN ROWS OF THIS SEAT. 9 by the template 'for every input the law returns true; each argument reads behind the call as it read before'; 0 by the template 'total and deterministic' (their statements: YthagjeomcgphiaaDoorTotals.lean).
  GIVEN WITH THE SEED: the statements are not yours to turn. If you find one false, say at which input.
  Laid BY PROGRAM, IN A SANDBOX (cutbox-rows.mjs): the forced cells as the released guide's own fill.sh prints them over the translation 29f701b1217ae929… (all of the seat's roots in one cut). By AI agents, Wed Nov 11 2026. No macro, syntax, notation, axiom, sorry.
-/
import Derived.Test.YthagjeomcgphiaaDoorChecked
import GoSem.Claim
import GoSem.ClaimJoined
import GoSem.ClaimMapViews
import Derived.JoinedTies
import Derived.KernelRfl
namespace Go.Proofs.YthagjeomcgphiaaDoor
/- THE CELL 'sum', in the pinned program and in every row, IS THE sha256 OF THE DUMP (.gsa) THAT YthagjeomcgphiaaDoorProg.lean LOADS. Nothing in Lean hashes anything: it is a label: what it is worth is what the hold of that sum in a sandbox is worth. -/
noncomputable def Tryd.pinned : Pinned := { name := "ythagjeomcgphiaadoor", sum := "29f701b1217ae929e5d7f6571311f0dec7b9b676e8c6e876e03c66a7c841f8a6", checked := Tryd.checked }
namespace Rows
def none {H : Type} : Left H := { results := [], args := [] }

/- WHAT THE LISTED PACKAGE-LEVEL VARIABLES READ AS WHEN THE CALL BEGINS. Each datum BY PROGRAM (the guide's laid-datum.mjs) off the statement by which the dump's own 'gosem.cut.vars' lays the variable. In a bare row this is a premise. The card (YthagjeomcgphiaaDoorCards.lean) ties it to the program's text. -/
def laid_math_bits_deBruijn32tab {H : Type} : DataW H := .agg [.lit (.int .u8 0), .lit (.int .u8 1), .lit (.int .u8 28), .lit (.int .u8 2), .lit (.int .u8 29), .lit (.int .u8 14), .lit (.int .u8 24), .lit (.int .u8 3), .lit (.int .u8 30), .lit (.int .u8 22), .lit (.int .u8 20), .lit (.int .u8 15), .lit (.int .u8 25), .lit (.int .u8 17), .lit (.int .u8 4), .lit (.int .u8 8), .lit (.int .u8 31), .lit (.int .u8 27), .lit (.int .u8 13), .lit (.int .u8 23), .lit (.int .u8 21), .lit (.int .u8 19), .lit (.int .u8 16), .lit (.int .u8 7), .lit (.int .u8 26), .lit (.int .u8 12), .lit (.int .u8 18), .lit (.int .u8 6), .lit (.int .u8 11), .lit (.int .u8 5), .lit (.int .u8 10), .lit (.int .u8 9)]
def laid_math_bits_deBruijn64tab {H : Type} : DataW H := .agg [.lit (.int .u8 0), .lit (.int .u8 1), .lit (.int .u8 56), .lit (.int .u8 2), .lit (.int .u8 57), .lit (.int .u8 49), .lit (.int .u8 28), .lit (.int .u8 3), .lit (.int .u8 61), .lit (.int .u8 58), .lit (.int .u8 42), .lit (.int .u8 50), .lit (.int .u8 38), .lit (.int .u8 29), .lit (.int .u8 17), .lit (.int .u8 4), .lit (.int .u8 62), .lit (.int .u8 47), .lit (.int .u8 59), .lit (.int .u8 36), .lit (.int .u8 45), .lit (.int .u8 43), .lit (.int .u8 51), .lit (.int .u8 22), .lit (.int .u8 53), .lit (.int .u8 39), .lit (.int .u8 33), .lit (.int .u8 30), .lit (.int .u8 24), .lit (.int .u8 18), .lit (.int .u8 12), .lit (.int .u8 5), .lit (.int .u8 63), .lit (.int .u8 55), .lit (.int .u8 48), .lit (.int .u8 27), .lit (.int .u8 60), .lit (.int .u8 41), .lit (.int .u8 37), .lit (.int .u8 16), .lit (.int .u8 46), .lit (.int .u8 35), .lit (.int .u8 44), .lit (.int .u8 21), .lit (.int .u8 52), .lit (.int .u8 32), .lit (.int .u8 23), .lit (.int .u8 11), .lit (.int .u8 54), .lit (.int .u8 26), .lit (.int .u8 40), .lit (.int .u8 15), .lit (.int .u8 34), .lit (.int .u8 20), .lit (.int .u8 31), .lit (.int .u8 10), .lit (.int .u8 25), .lit (.int .u8 14), .lit (.int .u8 19), .lit (.int .u8 9), .lit (.int .u8 13), .lit (.int .u8 8), .lit (.int .u8 7), .lit (.int .u8 6)]

/-- 'rhynelaw08.PacketPuts': WHATEVER THE INPUT: true; the input reads as it did. -/
def packetPutsSpec : ChangeSpec := { name := "packetPuts", fn := fun _ => fun
  | [d] => { results := [.lit (.bool true)], args := [d] }
  | _ => none }
def packetPutsRow : OpenClaim := { program := "ythagjeomcgphiaadoor", sum := "29f701b1217ae929e5d7f6571311f0dec7b9b676e8c6e876e03c66a7c841f8a6", func := "rhyne/rhynelaw08.PacketPuts", spec := "packetPuts", unfollowed := true, recurses := true, named := ["math/bits.deBruijn32tab", "math/bits.deBruijn64tab"], apart := false, laid := [("math/bits.deBruijn32tab", laid_math_bits_deBruijn32tab), ("math/bits.deBruijn64tab", laid_math_bits_deBruijn64tab)] }
def PacketPutsSaid : Prop := packetPutsRow.holds Tryd.pinned (OpenSpec.ofChange packetPutsSpec)

/-- ITS FALSE NEIGHBOUR: 'it returns false'. Refute it at one input. -/
def packetPutsWrong : ChangeSpec := { name := "packetPuts", fn := fun _ => fun
  | [d] => { results := [.lit (.bool false)], args := [d] }
  | _ => none }
def PacketPutsWrongFalsely : Prop := packetPutsRow.holds Tryd.pinned (OpenSpec.ofChange packetPutsWrong)

/-- 'rhynelaw08.PacketNear': WHATEVER THE INPUT: true; the input reads as it did. -/
def packetNearSpec : ChangeSpec := { name := "packetNear", fn := fun _ => fun
  | [d1, d2, d3] => { results := [.lit (.bool true)], args := [d1, d2, d3] }
  | _ => none }
def packetNearRow : OpenClaim := { program := "ythagjeomcgphiaadoor", sum := "29f701b1217ae929e5d7f6571311f0dec7b9b676e8c6e876e03c66a7c841f8a6", func := "rhyne/rhynelaw08.PacketNear", spec := "packetNear", unfollowed := true, recurses := true, named := ["math/bits.deBruijn32tab", "math/bits.deBruijn64tab"], apart := false, laid := [("math/bits.deBruijn32tab", laid_math_bits_deBruijn32tab), ("math/bits.deBruijn64tab", laid_math_bits_deBruijn64tab)] }
def PacketNearSaid : Prop := packetNearRow.holds Tryd.pinned (OpenSpec.ofChange packetNearSpec)

/-- ITS FALSE NEIGHBOUR: 'it returns false'. Refute it at one input. -/
def packetNearWrong : ChangeSpec := { name := "packetNear", fn := fun _ => fun
  | [d1, d2, d3] => { results := [.lit (.bool false)], args := [d1, d2, d3] }
  | _ => none }
def PacketNearWrongFalsely : Prop := packetNearRow.holds Tryd.pinned (OpenSpec.ofChange packetNearWrong)

/-- 'rhynelaw08.PacketGets': WHATEVER THE INPUT: true; the input reads as it did. -/
def packetGetsSpec : ChangeSpec := { name := "packetGets", fn := fun _ => fun
  | [d1, d2] => { results := [.lit (.bool true)], args := [d1, d2] }
  | _ => none }
def packetGetsRow : OpenClaim := { program := "ythagjeomcgphiaadoor", sum := "29f701b1217ae929e5d7f6571311f0dec7b9b676e8c6e876e03c66a7c841f8a6", func := "rhyne/rhynelaw08.PacketGets", spec := "packetGets", unfollowed := true, recurses := true, named := ["math/bits.deBruijn32tab", "math/bits.deBruijn64tab"], apart := false, laid := [("math/bits.deBruijn32tab", laid_math_bits_deBruijn32tab), ("math/bits.deBruijn64tab", laid_math_bits_deBruijn64tab)] }
def PacketGetsSaid : Prop := packetGetsRow.holds Tryd.pinned (OpenSpec.ofChange packetGetsSpec)

/-- ITS FALSE NEIGHBOUR: 'it returns false'. Refute it at one input. -/
def packetGetsWrong : ChangeSpec := { name := "packetGets", fn := fun _ => fun
  | [d1, d2] => { results := [.lit (.bool false)], args := [d1, d2] }
  | _ => none }
def PacketGetsWrongFalsely : Prop := packetGetsRow.holds Tryd.pinned (OpenSpec.ofChange packetGetsWrong)

/-- 'rhynelaw08.PacketBack': WHATEVER THE INPUT: true; the input reads as it did. -/
def packetBackSpec : ChangeSpec := { name := "packetBack", fn := fun _ => fun
  | [d1, d2] => { results := [.lit (.bool true)], args := [d1, d2] }
  | _ => none }
def packetBackRow : OpenClaim := { program := "ythagjeomcgphiaadoor", sum := "29f701b1217ae929e5d7f6571311f0dec7b9b676e8c6e876e03c66a7c841f8a6", func := "rhyne/rhynelaw08.PacketBack", spec := "packetBack", unfollowed := true, recurses := true, named := ["math/bits.deBruijn32tab", "math/bits.deBruijn64tab"], apart := false, laid := [("math/bits.deBruijn32tab", laid_math_bits_deBruijn32tab), ("math/bits.deBruijn64tab", laid_math_bits_deBruijn64tab)] }
def PacketBackSaid : Prop := packetBackRow.holds Tryd.pinned (OpenSpec.ofChange packetBackSpec)

/-- ITS FALSE NEIGHBOUR: 'it returns false'. Refute it at one input. -/
def packetBackWrong : ChangeSpec := { name := "packetBack", fn := fun _ => fun
  | [d1, d2] => { results := [.lit (.bool false)], args := [d1, d2] }
  | _ => none }
def PacketBackWrongFalsely : Prop := packetBackRow.holds Tryd.pinned (OpenSpec.ofChange packetBackWrong)

/-- 'rhynelaw08.PacketRows': WHATEVER THE INPUT: true; the input reads as it did. -/
def packetRowsSpec : ChangeSpec := { name := "packetRows", fn := fun _ => fun
  | [d1, d2] => { results := [.lit (.bool true)], args := [d1, d2] }
  | _ => none }
def packetRowsRow : OpenClaim := { program := "ythagjeomcgphiaadoor", sum := "29f701b1217ae929e5d7f6571311f0dec7b9b676e8c6e876e03c66a7c841f8a6", func := "rhyne/rhynelaw08.PacketRows", spec := "packetRows", unfollowed := true, recurses := true, named := ["math/bits.deBruijn32tab", "math/bits.deBruijn64tab"], apart := false, laid := [("math/bits.deBruijn32tab", laid_math_bits_deBruijn32tab), ("math/bits.deBruijn64tab", laid_math_bits_deBruijn64tab)] }
def PacketRowsSaid : Prop := packetRowsRow.holds Tryd.pinned (OpenSpec.ofChange packetRowsSpec)

/-- ITS FALSE NEIGHBOUR: 'it returns false'. Refute it at one input. -/
def packetRowsWrong : ChangeSpec := { name := "packetRows", fn := fun _ => fun
  | [d1, d2] => { results := [.lit (.bool false)], args := [d1, d2] }
  | _ => none }
def PacketRowsWrongFalsely : Prop := packetRowsRow.holds Tryd.pinned (OpenSpec.ofChange packetRowsWrong)

/-- 'rhynelaw09.FramesAcks': WHATEVER THE INPUT: true; the input reads as it did. -/
def framesAcksSpec : ChangeSpec := { name := "framesAcks", fn := fun _ => fun
  | [d1, d2] => { results := [.lit (.bool true)], args := [d1, d2] }
  | _ => none }
def framesAcksRow : OpenClaim := { program := "ythagjeomcgphiaadoor", sum := "29f701b1217ae929e5d7f6571311f0dec7b9b676e8c6e876e03c66a7c841f8a6", func := "rhyne/rhynelaw09.FramesAcks", spec := "framesAcks", named := ["math/bits.deBruijn32tab", "math/bits.deBruijn64tab"], apart := false, laid := [("math/bits.deBruijn32tab", laid_math_bits_deBruijn32tab), ("math/bits.deBruijn64tab", laid_math_bits_deBruijn64tab)] }
def FramesAcksSaid : Prop := framesAcksRow.holds Tryd.pinned (OpenSpec.ofChange framesAcksSpec)

/-- ITS FALSE NEIGHBOUR: 'it returns false'. Refute it at one input. -/
def framesAcksWrong : ChangeSpec := { name := "framesAcks", fn := fun _ => fun
  | [d1, d2] => { results := [.lit (.bool false)], args := [d1, d2] }
  | _ => none }
def FramesAcksWrongFalsely : Prop := framesAcksRow.holds Tryd.pinned (OpenSpec.ofChange framesAcksWrong)

/-- 'rhynelaw09.FramesLengths': WHATEVER THE INPUT: true; the input reads as it did. -/
def framesLengthsSpec : ChangeSpec := { name := "framesLengths", fn := fun _ => fun
  | [d] => { results := [.lit (.bool true)], args := [d] }
  | _ => none }
def framesLengthsRow : OpenClaim := { program := "ythagjeomcgphiaadoor", sum := "29f701b1217ae929e5d7f6571311f0dec7b9b676e8c6e876e03c66a7c841f8a6", func := "rhyne/rhynelaw09.FramesLengths", spec := "framesLengths", named := ["math/bits.deBruijn32tab", "math/bits.deBruijn64tab"], apart := false, laid := [("math/bits.deBruijn32tab", laid_math_bits_deBruijn32tab), ("math/bits.deBruijn64tab", laid_math_bits_deBruijn64tab)] }
def FramesLengthsSaid : Prop := framesLengthsRow.holds Tryd.pinned (OpenSpec.ofChange framesLengthsSpec)

/-- ITS FALSE NEIGHBOUR: 'it returns false'. Refute it at one input. -/
def framesLengthsWrong : ChangeSpec := { name := "framesLengths", fn := fun _ => fun
  | [d] => { results := [.lit (.bool false)], args := [d] }
  | _ => none }
def FramesLengthsWrongFalsely : Prop := framesLengthsRow.holds Tryd.pinned (OpenSpec.ofChange framesLengthsWrong)

/-- 'rhynelaw09.FramesPut': WHATEVER THE INPUT: true; the input reads as it did. -/
def framesPutSpec : ChangeSpec := { name := "framesPut", fn := fun _ => fun
  | [d] => { results := [.lit (.bool true)], args := [d] }
  | _ => none }
def framesPutRow : OpenClaim := { program := "ythagjeomcgphiaadoor", sum := "29f701b1217ae929e5d7f6571311f0dec7b9b676e8c6e876e03c66a7c841f8a6", func := "rhyne/rhynelaw09.FramesPut", spec := "framesPut", named := ["math/bits.deBruijn32tab", "math/bits.deBruijn64tab"], apart := false, laid := [("math/bits.deBruijn32tab", laid_math_bits_deBruijn32tab), ("math/bits.deBruijn64tab", laid_math_bits_deBruijn64tab)] }
def FramesPutSaid : Prop := framesPutRow.holds Tryd.pinned (OpenSpec.ofChange framesPutSpec)

/-- ITS FALSE NEIGHBOUR: 'it returns false'. Refute it at one input. -/
def framesPutWrong : ChangeSpec := { name := "framesPut", fn := fun _ => fun
  | [d] => { results := [.lit (.bool false)], args := [d] }
  | _ => none }
def FramesPutWrongFalsely : Prop := framesPutRow.holds Tryd.pinned (OpenSpec.ofChange framesPutWrong)

/-- 'rhynelaw09.FramesBack': WHATEVER THE INPUT: true; the input reads as it did. -/
def framesBackSpec : ChangeSpec := { name := "framesBack", fn := fun _ => fun
  | [d1, d2] => { results := [.lit (.bool true)], args := [d1, d2] }
  | _ => none }
def framesBackRow : OpenClaim := { program := "ythagjeomcgphiaadoor", sum := "29f701b1217ae929e5d7f6571311f0dec7b9b676e8c6e876e03c66a7c841f8a6", func := "rhyne/rhynelaw09.FramesBack", spec := "framesBack", named := ["math/bits.deBruijn32tab", "math/bits.deBruijn64tab"], apart := false, laid := [("math/bits.deBruijn32tab", laid_math_bits_deBruijn32tab), ("math/bits.deBruijn64tab", laid_math_bits_deBruijn64tab)] }
def FramesBackSaid : Prop := framesBackRow.holds Tryd.pinned (OpenSpec.ofChange framesBackSpec)

/-- ITS FALSE NEIGHBOUR: 'it returns false'. Refute it at one input. -/
def framesBackWrong : ChangeSpec := { name := "framesBack", fn := fun _ => fun
  | [d1, d2] => { results := [.lit (.bool false)], args := [d1, d2] }
  | _ => none }
def FramesBackWrongFalsely : Prop := framesBackRow.holds Tryd.pinned (OpenSpec.ofChange framesBackWrong)

/- THE SECOND FORM. 'bulk': how many values and letters a reading holds, each counted each time it is reached (what is shared counts as often as it is met; a slice's spare places count too). A statement '..UptoSaid' is the law's where the arguments, and the package variables that the reading takes, are together of bulk at most 1048576: NARROWER than '..Said'. Prove '..Said' where nothing that the law and all that it calls make is longer than what came in: it says more and counts as full. Else prove '..UptoSaid'. A law counts once. -/
mutual
def uptoBulk {H : Type} : DataW H → Nat
  | .lit (.string bytes) => bytes.length + 1
  | .lit _ => 1
  | .nil => 1
  | .ptr d => uptoBulk d + 1
  | .slice elems spare => uptoBulkAll elems + uptoBulkAll spare + 1
  | .agg parts => uptoBulkAll parts + 1
  | .iface _ d => uptoBulk d + 1
  | .map entries => uptoBulkEntries entries + 1
  | .held _ => 1
def uptoBulkAll {H : Type} : List (DataW H) → Nat
  | [] => 0
  | d :: r => uptoBulk d + uptoBulkAll r
def uptoBulkEntries {H : Type} : List (Lit × DataW H) → Nat
  | [] => 0
  | x :: r => uptoBulkEntry x + uptoBulkEntries r
def uptoBulkEntry {H : Type} : Lit × DataW H → Nat
  | (.string bytes, d) => bytes.length + uptoBulk d + 1
  | (_, d) => uptoBulk d + 1
 end
def uptoSmall : (H : Type) → List (DataW H) → Bool := fun _ ds => decide (uptoBulkAll ds ≤ 1048576)
def OpenSpec.upto (s : _root_.Go.ChangeSpec) : _root_.Go.OpenSpec := { _root_.Go.OpenSpec.ofChange s with cond := some uptoSmall }

/-- 'rhynelaw08.PacketPuts', WHERE WHAT IT READS IS OF BULK AT MOST 1048576: true; the input reads as it did. -/
def packetPutsUptoRow : OpenClaim := { program := "ythagjeomcgphiaadoor", sum := "29f701b1217ae929e5d7f6571311f0dec7b9b676e8c6e876e03c66a7c841f8a6", func := "rhyne/rhynelaw08.PacketPuts", spec := "packetPuts", unfollowed := true, recurses := true, named := ["math/bits.deBruijn32tab", "math/bits.deBruijn64tab"], apart := false, laid := [("math/bits.deBruijn32tab", laid_math_bits_deBruijn32tab), ("math/bits.deBruijn64tab", laid_math_bits_deBruijn64tab)], narrowed := true }
def PacketPutsUptoSaid : Prop := packetPutsUptoRow.holds Tryd.pinned (OpenSpec.upto packetPutsSpec)

/-- 'rhynelaw08.PacketNear', WHERE WHAT IT READS IS OF BULK AT MOST 1048576: true; the input reads as it did. -/
def packetNearUptoRow : OpenClaim := { program := "ythagjeomcgphiaadoor", sum := "29f701b1217ae929e5d7f6571311f0dec7b9b676e8c6e876e03c66a7c841f8a6", func := "rhyne/rhynelaw08.PacketNear", spec := "packetNear", unfollowed := true, recurses := true, named := ["math/bits.deBruijn32tab", "math/bits.deBruijn64tab"], apart := false, laid := [("math/bits.deBruijn32tab", laid_math_bits_deBruijn32tab), ("math/bits.deBruijn64tab", laid_math_bits_deBruijn64tab)], narrowed := true }
def PacketNearUptoSaid : Prop := packetNearUptoRow.holds Tryd.pinned (OpenSpec.upto packetNearSpec)

/-- 'rhynelaw08.PacketGets', WHERE WHAT IT READS IS OF BULK AT MOST 1048576: true; the input reads as it did. -/
def packetGetsUptoRow : OpenClaim := { program := "ythagjeomcgphiaadoor", sum := "29f701b1217ae929e5d7f6571311f0dec7b9b676e8c6e876e03c66a7c841f8a6", func := "rhyne/rhynelaw08.PacketGets", spec := "packetGets", unfollowed := true, recurses := true, named := ["math/bits.deBruijn32tab", "math/bits.deBruijn64tab"], apart := false, laid := [("math/bits.deBruijn32tab", laid_math_bits_deBruijn32tab), ("math/bits.deBruijn64tab", laid_math_bits_deBruijn64tab)], narrowed := true }
def PacketGetsUptoSaid : Prop := packetGetsUptoRow.holds Tryd.pinned (OpenSpec.upto packetGetsSpec)

/-- 'rhynelaw08.PacketBack', WHERE WHAT IT READS IS OF BULK AT MOST 1048576: true; the input reads as it did. -/
def packetBackUptoRow : OpenClaim := { program := "ythagjeomcgphiaadoor", sum := "29f701b1217ae929e5d7f6571311f0dec7b9b676e8c6e876e03c66a7c841f8a6", func := "rhyne/rhynelaw08.PacketBack", spec := "packetBack", unfollowed := true, recurses := true, named := ["math/bits.deBruijn32tab", "math/bits.deBruijn64tab"], apart := false, laid := [("math/bits.deBruijn32tab", laid_math_bits_deBruijn32tab), ("math/bits.deBruijn64tab", laid_math_bits_deBruijn64tab)], narrowed := true }
def PacketBackUptoSaid : Prop := packetBackUptoRow.holds Tryd.pinned (OpenSpec.upto packetBackSpec)

/-- 'rhynelaw08.PacketRows', WHERE WHAT IT READS IS OF BULK AT MOST 1048576: true; the input reads as it did. -/
def packetRowsUptoRow : OpenClaim := { program := "ythagjeomcgphiaadoor", sum := "29f701b1217ae929e5d7f6571311f0dec7b9b676e8c6e876e03c66a7c841f8a6", func := "rhyne/rhynelaw08.PacketRows", spec := "packetRows", unfollowed := true, recurses := true, named := ["math/bits.deBruijn32tab", "math/bits.deBruijn64tab"], apart := false, laid := [("math/bits.deBruijn32tab", laid_math_bits_deBruijn32tab), ("math/bits.deBruijn64tab", laid_math_bits_deBruijn64tab)], narrowed := true }
def PacketRowsUptoSaid : Prop := packetRowsUptoRow.holds Tryd.pinned (OpenSpec.upto packetRowsSpec)

/-- 'rhynelaw09.FramesAcks', WHERE WHAT IT READS IS OF BULK AT MOST 1048576: true; the input reads as it did. -/
def framesAcksUptoRow : OpenClaim := { program := "ythagjeomcgphiaadoor", sum := "29f701b1217ae929e5d7f6571311f0dec7b9b676e8c6e876e03c66a7c841f8a6", func := "rhyne/rhynelaw09.FramesAcks", spec := "framesAcks", named := ["math/bits.deBruijn32tab", "math/bits.deBruijn64tab"], apart := false, laid := [("math/bits.deBruijn32tab", laid_math_bits_deBruijn32tab), ("math/bits.deBruijn64tab", laid_math_bits_deBruijn64tab)], narrowed := true }
def FramesAcksUptoSaid : Prop := framesAcksUptoRow.holds Tryd.pinned (OpenSpec.upto framesAcksSpec)

/-- 'rhynelaw09.FramesLengths', WHERE WHAT IT READS IS OF BULK AT MOST 1048576: true; the input reads as it did. -/
def framesLengthsUptoRow : OpenClaim := { program := "ythagjeomcgphiaadoor", sum := "29f701b1217ae929e5d7f6571311f0dec7b9b676e8c6e876e03c66a7c841f8a6", func := "rhyne/rhynelaw09.FramesLengths", spec := "framesLengths", named := ["math/bits.deBruijn32tab", "math/bits.deBruijn64tab"], apart := false, laid := [("math/bits.deBruijn32tab", laid_math_bits_deBruijn32tab), ("math/bits.deBruijn64tab", laid_math_bits_deBruijn64tab)], narrowed := true }
def FramesLengthsUptoSaid : Prop := framesLengthsUptoRow.holds Tryd.pinned (OpenSpec.upto framesLengthsSpec)

/-- 'rhynelaw09.FramesPut', WHERE WHAT IT READS IS OF BULK AT MOST 1048576: true; the input reads as it did. -/
def framesPutUptoRow : OpenClaim := { program := "ythagjeomcgphiaadoor", sum := "29f701b1217ae929e5d7f6571311f0dec7b9b676e8c6e876e03c66a7c841f8a6", func := "rhyne/rhynelaw09.FramesPut", spec := "framesPut", named := ["math/bits.deBruijn32tab", "math/bits.deBruijn64tab"], apart := false, laid := [("math/bits.deBruijn32tab", laid_math_bits_deBruijn32tab), ("math/bits.deBruijn64tab", laid_math_bits_deBruijn64tab)], narrowed := true }
def FramesPutUptoSaid : Prop := framesPutUptoRow.holds Tryd.pinned (OpenSpec.upto framesPutSpec)

/-- 'rhynelaw09.FramesBack', WHERE WHAT IT READS IS OF BULK AT MOST 1048576: true; the input reads as it did. -/
def framesBackUptoRow : OpenClaim := { program := "ythagjeomcgphiaadoor", sum := "29f701b1217ae929e5d7f6571311f0dec7b9b676e8c6e876e03c66a7c841f8a6", func := "rhyne/rhynelaw09.FramesBack", spec := "framesBack", named := ["math/bits.deBruijn32tab", "math/bits.deBruijn64tab"], apart := false, laid := [("math/bits.deBruijn32tab", laid_math_bits_deBruijn32tab), ("math/bits.deBruijn64tab", laid_math_bits_deBruijn64tab)], narrowed := true }
def FramesBackUptoSaid : Prop := framesBackUptoRow.holds Tryd.pinned (OpenSpec.upto framesBackSpec)

end Rows
end Go.Proofs.YthagjeomcgphiaaDoor
