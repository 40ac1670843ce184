-- written by xprint.py, a program of this claim's work (wip/xprint), which runs the kit's printer with hooks
import Derived.Test.YtpbhjemieikgpaaDoorProg
import Derived.Below
import Derived.Deep.Draws
import Derived.Deep.AppendLies
import Derived.Maps.AppendAt
import Derived.OwnWalk
import Derived.Laws.BytesArg
import Derived.Laws.MakeOwn
import Derived.Laws.OwnMore
import Derived.Deep.OwnRows
import Derived.Tactics
import Derived.Lib.ConvBytes
import Derived.Laws.Slices
import Derived.WalkKit
import Derived.KernelRfl
import Derived.RowKit3
import Derived.Deep.LoopGhost
import Derived.Deep.QuietTactic
import Derived.BigQuiet
import Derived.WideLaws
import Derived.Deep.DeepCutAuto
import Derived.Deep.CutBlock
import Derived.Deep.RegionHeld3
import Derived.Laws.Rows
import Derived.Lib.AppendStr
import Derived.ArgAppend
import Derived.Laws.IdiomCopy
import Derived.OrdersHeld
import Derived.Laws.BitsLemmas
import Derived.RowKit
import Derived.Test.YtpbhjemieikgpaaDoorWWords
import Derived.Test.YtpbhjemieikgpaaDoorWLast
import Derived.Test.YtpbhjemieikgpaaDoorWTab
import Derived.Test.YtpbhjemieikgpaaDoorWFour
import Derived.Test.YtpbhjemieikgpaaDoorWQPut
import Derived.Test.YtpbhjemieikgpaaDoorWApart
import Derived.Test.YtpbhjemieikgpaaDoorWArr
import Derived.Test.YtpbhjemieikgpaaDoorWZeros
import Derived.Test.YtpbhjemieikgpaaDoorWFoot
import Derived.Test.YtpbhjemieikgpaaDoorWKept
import Derived.Test.YtpbhjemieikgpaaDoorWShare
import Derived.Test.YtpbhjemieikgpaaDoorWN
import Derived.Test.YtpbhjemieikgpaaDoorWFootNe
import Derived.Test.YtpbhjemieikgpaaDoorWAt
import Derived.Test.YtpbhjemieikgpaaDoorWEqStruct
import Derived.Test.YtpbhjemieikgpaaDoorWRepsOne
import Derived.Test.YtpbhjemieikgpaaDoorWInv
import Derived.Test.YtpbhjemieikgpaaDoorWInvWords
import Derived.Test.YtpbhjemieikgpaaDoorWGuard
import Derived.Test.YtpbhjemieikgpaaDoorWNEv
import Derived.Test.YtpbhjemieikgpaaDoorWMore
namespace Go.Proofs.YtpbhjemieikgpaaDoor.X
open Go.RowKit Go.Proofs.YtpbhjemieikgpaaDoorW.PrintWords Go.Proofs.YtpbhjemieikgpaaDoorW.PrintLast Go.Proofs.YtpbhjemieikgpaaDoorW.PrintMore
attribute [local go_sem] max2_int min2_int max_two min_two max_three min_three max_four min_four   -- for this text's walks alone
set_option linter.unusedVariables false
set_option linter.unusedSimpArgs false



def errW : Option Int → Value
  | none => .nilIface
  | some c => .iface 0 (.int .i64 c)
theorem errW_none : errW none = .nilIface := rfl
theorem errW_some (c : Int) : errW (some c) = .iface 0 (.int .i64 c) := rfl

theorem info5 : (Tryd.prog.info? 5).map (fun i => (i.zero, i.size, i.bytes)) = some (some (.int .u8 0), 1, 1) := by kernel_rfl
-- the values' own types


/-- What the walks ask of the table math/bits.deBruijn64tab: four of its cells. -/
structure GlobT (w : World) : Prop where
  sz : 1 < w.heap.size
  c0 : w.cell? ⟨1, 0, none⟩ = some (.int .u8 0)
  c1 : w.cell? ⟨1, 1, none⟩ = some (.int .u8 1)
  c3 : w.cell? ⟨1, 3, none⟩ = some (.int .u8 2)
  c7 : w.cell? ⟨1, 7, none⟩ = some (.int .u8 3)
theorem glob_below {w W : World} (h : GlobT w) (hb : Below w.heap.size w W) : GlobT W :=
  ⟨Nat.lt_of_lt_of_le h.sz hb.size, (hb.cell (p := ⟨1, 0, none⟩) h.sz).trans h.c0, (hb.cell (p := ⟨1, 1, none⟩) h.sz).trans h.c1, (hb.cell (p := ⟨1, 3, none⟩) h.sz).trans h.c3, (hb.cell (p := ⟨1, 7, none⟩) h.sz).trans h.c7⟩
theorem glob_drawn {w W : World} (h : GlobT w) (hd : Drawn0 w W) : GlobT W := glob_below h hd.below

end Go.Proofs.YtpbhjemieikgpaaDoor.X
