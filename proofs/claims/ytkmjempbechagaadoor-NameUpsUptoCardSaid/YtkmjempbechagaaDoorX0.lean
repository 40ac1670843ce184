-- written by xprint.py, a program of this claim's work (wip/xprint), which runs the kit's printer with hooks
import Derived.Test.YtkmjempbechagaaDoorProg
import Derived.Below
import Derived.Deep.Draws
import Derived.Deep.AppendLies
import Derived.Maps.AppendAt
import Derived.OwnWalk
import Derived.Laws.BytesArg
import Derived.Laws.MakeOwn
import Derived.Laws.OwnMore
import Derived.Deep.OwnRows
import Derived.Tactics
import Derived.Lib.ConvBytes
import Derived.Laws.Slices
import Derived.WalkKit
import Derived.KernelRfl
import Derived.RowKit3
import Derived.Deep.LoopGhost
import Derived.Deep.QuietTactic
import Derived.BigQuiet
import Derived.WideLaws
import Derived.Deep.DeepCutAuto
import Derived.Deep.CutBlock
import Derived.Deep.RegionHeld3
import Derived.Laws.Rows
import Derived.Lib.AppendStr
import Derived.ArgAppend
import Derived.Laws.IdiomCopy
import Derived.OrdersHeld
import Derived.Laws.BitsLemmas
import Derived.RowKit
import Derived.WalkLawsBesides
import Derived.Test.YtkmjempbechagaaDoorSh
import Derived.Shelf.Strings.SlTrimAscii
import Derived.Lib.SplitLaws
import Derived.Test.YtkmjempbechagaaDoorWWords
import Derived.Test.YtkmjempbechagaaDoorWLast
import Derived.Test.YtkmjempbechagaaDoorWTab
import Derived.Test.YtkmjempbechagaaDoorWFour
import Derived.Test.YtkmjempbechagaaDoorWQPut
import Derived.Test.YtkmjempbechagaaDoorWApart
import Derived.Test.YtkmjempbechagaaDoorWArr
import Derived.Test.YtkmjempbechagaaDoorWZeros
import Derived.Test.YtkmjempbechagaaDoorWFoot
import Derived.Test.YtkmjempbechagaaDoorWKept
import Derived.Test.YtkmjempbechagaaDoorWShare
import Derived.Test.YtkmjempbechagaaDoorWN
import Derived.Test.YtkmjempbechagaaDoorWFootNe
import Derived.Test.YtkmjempbechagaaDoorWAt
import Derived.Test.YtkmjempbechagaaDoorWEqStruct
import Derived.Test.YtkmjempbechagaaDoorWRepsOne
import Derived.Test.YtkmjempbechagaaDoorWInv
import Derived.Test.YtkmjempbechagaaDoorWInvWords
import Derived.Test.YtkmjempbechagaaDoorWGuard
import Derived.Test.YtkmjempbechagaaDoorWNEv
import Derived.Test.YtkmjempbechagaaDoorWMore
namespace Go.Proofs.YtkmjempbechagaaDoor.X
open Go.RowKit Go.Proofs.YtkmjempbechagaaDoorW.PrintWords Go.Proofs.YtkmjempbechagaaDoorW.PrintLast Go.Proofs.YtkmjempbechagaaDoorW.PrintMore
attribute [local go_sem] max2_int min2_int max_two min_two max_three min_three max_four min_four   -- for this text's walks alone
set_option linter.unusedVariables false
set_option linter.unusedSimpArgs false



def errW : Option Int → Value
  | none => .nilIface
  | some c => .iface 0 (.int .i64 c)
theorem errW_none : errW none = .nilIface := rfl
theorem errW_some (c : Int) : errW (some c) = .iface 0 (.int .i64 c) := rfl

theorem info5 : (Tryd.prog.info? 5).map (fun i => (i.zero, i.size, i.bytes)) = some (some (.int .u8 0), 1, 1) := by kernel_rfl
theorem info9 : (Tryd.prog.info? 9).map (fun i => (i.zero, i.size, i.bytes)) = some (some (.string ⟨#[]⟩), 1, 16) := by kernel_rfl
theorem info64 : (Tryd.prog.info? 64).map (fun i => (i.zero, i.size, i.bytes)) = some (some (.agg #[(.string ⟨#[]⟩), (.int .i64 0)]), 2, 24) := by kernel_rfl
-- the values' own types
/-! #### struct type 64 -/
structure S64 where
  f0 : ByteArray
  f1 : Int
def z64 : S64 := ⟨(⟨#[]⟩ : ByteArray), (0 : Int)⟩
def k64 : Kd S64 := Kd.iso (Kd.pair Kd.string (Kd.int .i64)) (fun x : S64 => (x.f0, x.f1))
theorem k64_open {w : World} {x : S64} {cs : List Value} (h : k64.K w x cs) : cs = [.string x.f0, .int .i64 x.f1] := by
  obtain ⟨_, _, rfl, rfl, rfl⟩ := h
  exact rfl
theorem k64_openM {w : World} {base : Nat} {ok : Nat → Prop} {x : S64} {cs : List Value} (h : k64.M w base ok x cs) : cs = [.string x.f0, .int .i64 x.f1] := by
  obtain ⟨_, _, rfl, rfl, rfl⟩ := h
  exact rfl
theorem k64_mk (w : World) (x : S64)  : k64.K w x [.string x.f0, .int .i64 x.f1] := ⟨[.string x.f0], [.int .i64 x.f1], rfl, rfl, rfl⟩
theorem k64_mkM (w : World) (base : Nat) (ok : Nat → Prop) (x : S64)  : k64.M w base ok x [.string x.f0, .int .i64 x.f1] := ⟨[.string x.f0], [.int .i64 x.f1], rfl, rfl, rfl⟩
theorem k64_mkF (W : World) (ok : Nat → Prop) (x : S64) : Kd.FK k64 W ok x [.string x.f0, .int .i64 x.f1] := fun W2 _ => k64_mk W2 x
def rd_T64 (xs : List S64) (i : Int) : S64 := xs.getD i.toNat z64
theorem at_T64 {w : World} {A : Option Addr} {n : Nat} {xs : List S64} (h : Kd.C k64 w A n xs) (i : Int) (h0 : 0 ≤ i) (h1 : i < n) : ∃ ad , A = some ad ∧ w.cell? (ad.add (i.toNat * 2)) = some (.string (rd_T64 xs i).f0) ∧ w.cell? ⟨(ad.add (i.toNat * 2)).block, (ad.add (i.toNat * 2)).off + 1, none⟩ = some (.int .i64 (rd_T64 xs i).f1) := by
  obtain ⟨ad, c, e, _, hK, hc0⟩ := Kd.C_get h z64 i h0 h1
  have hc : ∀ j u, c[j]? = some u → w.cell? (ad.add (i.toNat * 2 + j)) = some u := hc0
  obtain rfl := k64_open hK
  exact ⟨ad, e, hc 0 _ rfl, by rw [← add_field _ _ 1 (by omega)]; exact hc 1 _ rfl⟩


/-- What the walks ask of the variable internal/bytealg.MaxLen: it holds a number. -/
structure GlobT (w : World) : Prop where
  sz : 0 < w.heap.size
  c0 : ∃ m : Int, w.cell? ⟨0, 0, none⟩ = some (.int .i64 m)
theorem glob_below {w W : World} (h : GlobT w) (hb : Below w.heap.size w W) : GlobT W :=
  ⟨Nat.lt_of_lt_of_le h.sz hb.size, by obtain ⟨m, hm⟩ := h.c0; exact ⟨m, (hb.cell (p := ⟨0, 0, none⟩) h.sz).trans hm⟩⟩
theorem glob_drawn {w W : World} (h : GlobT w) (hd : Drawn0 w W) : GlobT W := glob_below h hd.below

end Go.Proofs.YtkmjempbechagaaDoor.X
