/- The row and the tied card of PacketNear: for every input the law returns true; each argument reads as it read before. -/
import Derived.Test.YthagjeomcgphiaaDoorOp
import Derived.Test.YthagjeomcgphiaaDoorX5
import Derived.Test.YthagjeomcgphiaaDoorPurePacketNear
import Derived.Test.YthagjeomcgphiaaDoorTie
import Derived.Test.YthagjeomcgphiaaDoorCards
import Derived.WalkKit
import Derived.ProofKit
import Derived.OpenShut
import Derived.ShutString
import Derived.ChangeOld
import Derived.Below
import Derived.SizedLaws
import Derived.Deep.DeepHandedRow
import Derived.LaidLaws
import Derived.LaidHandle
import Derived.Lib.LaidTab
import Derived.Stop.LaidErr
import Derived.Lib.LaidIn
import Derived.SevenTiedAt
import Derived.WideShapes
namespace Go.Proofs.YthagjeomcgphiaaDoor.packetNear
open Go.ChangeShapes Go.WideShapes Go.ChangeAt Go.RowKit Go.Proofs.YthagjeomcgphiaaDoor.X Go.Proofs.YthagjeomcgphiaaDoorW.PrintWords Go.Proofs.YthagjeomcgphiaaDoorW.PrintLast
open Go.ChangeMaps (open_string shut_string)
set_option linter.unusedVariables false
theorem own : ownKnob Tryd.prog.godebug = none := by kernel_rfl
theorem laidOut : laidOutB Tryd.prog = true := by kernel_rfl
/-- The listed variable's numbers. -/
def tab0 : List Value := [.int .u8 0, .int .u8 1, .int .u8 28, .int .u8 2, .int .u8 29, .int .u8 14, .int .u8 24, .int .u8 3, .int .u8 30, .int .u8 22, .int .u8 20, .int .u8 15, .int .u8 25, .int .u8 17, .int .u8 4, .int .u8 8, .int .u8 31, .int .u8 27, .int .u8 13, .int .u8 23, .int .u8 21, .int .u8 19, .int .u8 16, .int .u8 7, .int .u8 26, .int .u8 12, .int .u8 18, .int .u8 6, .int .u8 11, .int .u8 5, .int .u8 10, .int .u8 9]
def nums0 : List Int := [0, 1, 28, 2, 29, 14, 24, 3, 30, 22, 20, 15, 25, 17, 4, 8, 31, 27, 13, 23, 21, 19, 16, 7, 26, 12, 18, 6, 11, 5, 10, 9]
/-- The listed variable's numbers. -/
def tab1 : List Value := [.int .u8 0, .int .u8 1, .int .u8 56, .int .u8 2, .int .u8 57, .int .u8 49, .int .u8 28, .int .u8 3, .int .u8 61, .int .u8 58, .int .u8 42, .int .u8 50, .int .u8 38, .int .u8 29, .int .u8 17, .int .u8 4, .int .u8 62, .int .u8 47, .int .u8 59, .int .u8 36, .int .u8 45, .int .u8 43, .int .u8 51, .int .u8 22, .int .u8 53, .int .u8 39, .int .u8 33, .int .u8 30, .int .u8 24, .int .u8 18, .int .u8 12, .int .u8 5, .int .u8 63, .int .u8 55, .int .u8 48, .int .u8 27, .int .u8 60, .int .u8 41, .int .u8 37, .int .u8 16, .int .u8 46, .int .u8 35, .int .u8 44, .int .u8 21, .int .u8 52, .int .u8 32, .int .u8 23, .int .u8 11, .int .u8 54, .int .u8 26, .int .u8 40, .int .u8 15, .int .u8 34, .int .u8 20, .int .u8 31, .int .u8 10, .int .u8 25, .int .u8 14, .int .u8 19, .int .u8 9, .int .u8 13, .int .u8 8, .int .u8 7, .int .u8 6]
def nums1 : List Int := [0, 1, 56, 2, 57, 49, 28, 3, 61, 58, 42, 50, 38, 29, 17, 4, 62, 47, 59, 36, 45, 43, 51, 22, 53, 39, 33, 30, 24, 18, 12, 5, 63, 55, 48, 27, 60, 41, 37, 16, 46, 35, 44, 21, 52, 32, 23, 11, 54, 26, 40, 15, 34, 20, 31, 10, 25, 14, 19, 9, 13, 8, 7, 6]
/-- A world in which the listed variables hold what their initialisers lay. -/
noncomputable def laidWorld (os : Os) : World :=
  let w0 := World.holding Tryd.prog os ⟨#[], #[], []⟩
  let put (h : Array Obj) (g : Nat) (cs : Array Value) : Array Obj := h.modify g fun
    | .cells _ t frozen => .cells cs t frozen
    | o => o
  { w0 with heap := (put (put w0.heap 0 tab0.toArray) 1 tab1.toArray) }
theorem laid_met (os : Os) (args : Array Value) : laidMet Tryd.prog Rows.packetNearRow.laid ((laidWorld os).forCall (fun _ _ => 0) ⟨#[], args, []⟩).memory :=
  (LaidIn.of_run [0, 1] 8 (by kernel_rfl) (by kernel_rfl) (by kernel_rfl) (by kernel_rfl)).met
theorem g1N : Tryd.prog.globalNamed "math/bits.deBruijn64tab" = some 1 := by kernel_rfl
theorem g1T : (Tryd.prog.globals[1]?).map (·.type) = some 130 := by kernel_rfl
theorem gcT : Tryd.prog.cellsOf 130 = 64 := by kernel_rfl
theorem gcE : Tryd.prog.cellsOf 5 = 1 := by kernel_rfl
theorem glob_of_laid {W : World} (hL : laidMet Tryd.prog Rows.packetNearRow.laid W) : GlobT W := by
  have h0 : laidMet Tryd.prog [("math/bits.deBruijn32tab", Lib.tabData .u8 nums0), ("math/bits.deBruijn64tab", Lib.tabData .u8 nums1)] W := hL
  have hT := Lib.tabIs_of_head g1N g1T Tryd.underlying130 Tryd.underlying5 gcE gcT (laidMet.tail h0)
  have c0 := (hT.cell g1N 0 (by decide +kernel)).trans (show _ = some (Value.int .u8 0) from rfl)
  exact ⟨World.block_lt_of_cell? W _ c0, c0, (hT.cell g1N 1 (by decide +kernel)).trans rfl, (hT.cell g1N 3 (by decide +kernel)).trans rfl, (hT.cell g1N 7 (by decide +kernel)).trans rfl⟩
theorem reads (os : Os) {H : Type} (enc : TypeId × Value → H) : ∃ places, DataW.whole enc Tryd.prog ((laidWorld os).forCall (fun _ _ => 0) ⟨#[], #[.int .i64 0, .int .i64 0, .int .i64 0], []⟩).memory Tryd.f4.params.toList Rows.packetNearSpec.vars false (#[.int .i64 0, .int .i64 0, .int .i64 0] : Array Value).toList 8 = some ([.lit (.int .i64 0), .lit (.int .i64 0), .lit (.int .i64 0)], [], places) :=
  ⟨[], by kernel_rfl⟩
set_option maxRecDepth 100000 in
theorem lifted (os : Os) (started : os.Started) (H : Type) (enc : TypeId × Value → H) (F : Stop.Interp) :
    ReturnsInHanded {} Tryd.checked os 4 .any ((OpenSpec.ofChange Rows.packetNearSpec).preRow enc Tryd.prog Tryd.f4 Rows.packetNearRow.domain false Rows.packetNearRow.laid) (((OpenSpec.ofChange Rows.packetNearSpec).at F).post enc Tryd.prog Tryd.f4 false true false false) := by
  obtain ⟨places, hx⟩ := reads os enc
  refine returnsInHanded_of_row (C := Tryd.checked) (s := (OpenSpec.ofChange Rows.packetNearSpec)) own started (by kernel_rfl) Tryd.func4
    (witness_row_at (enc := enc) (C := Tryd.checked) false (laidWorld os) #[.int .i64 0, .int .i64 0, .int .i64 0] rfl (by kernel_rfl) (by kernel_rfl) (by kernel_rfl)
      (OpenSpec.preRow_of_cond 8 hx (by kernel_rfl) (fun k hk => by cases hk) (by kernel_rfl) (laid_met os _))) ?_
  intro W base args ds gs before hval0 hW hcnd hcond hsz0 hL hSh _
  have hval : ∀ (j : Nat) t v, Tryd.f4.params[j]? = some t → args[j]? = some v → Value.okWide Tryd.prog W .any base t v := hval0
  have hW' := hW
  obtain ⟨p, q, hA0, hV, rfl, hfz, hnd⟩ := hW
  have hA : DataW.TrodAll enc Tryd.prog W 0 (fun _ => true) true Tryd.f4.params.toList args.toList ds p := hA0
  rw [Tryd.params4] at hA hval
  obtain ⟨v0, vs0, d0, ds0, p0, q0, hargs, rfl, rfl, h0, r0⟩ := trodAll_cons hA
  obtain ⟨v1, vs1, d1, ds1, p1, q1, rfl, rfl, rfl, h1, r1⟩ := trodAll_cons r0
  obtain ⟨v2, vs2, d2, ds2, p2, q2, rfl, rfl, rfl, h2, r2⟩ := trodAll_cons r1
  obtain ⟨rfl, rfl, rfl⟩ := trodAll_nil r2
  obtain rfl : args = #[v0, v1, v2] := by cases args; simp_all
  obtain ⟨rfl, rfl⟩ := trodVars_none hV
  clear hA0 hval0 hsz0 hcond
  have k0 := h0
  obtain ⟨fuel0, hf0⟩ := h0
  obtain ⟨a0, rfl, rfl, rfl, wq0⟩ := open_int Tryd.underlying3 (hval 0 3 v0 rfl rfl) k0
  have wf0 : (Lit.int .i64 a0).wf = true := wq0
  have m0 : 1 ≤ Rows.uptoBulk (DataW.lit (H := H) (.int .i64 a0)) := Op.bulk_one _
  have k1 := h1
  obtain ⟨fuel1, hf1⟩ := h1
  obtain ⟨a1, rfl, rfl, rfl, wq1⟩ := open_int Tryd.underlying3 (hval 1 3 v1 rfl rfl) k1
  have wf1 : (Lit.int .i64 a1).wf = true := wq1
  have m1 : 1 ≤ Rows.uptoBulk (DataW.lit (H := H) (.int .i64 a1)) := Op.bulk_one _
  have k2 := h2
  obtain ⟨fuel2, hf2⟩ := h2
  obtain ⟨a2, rfl, rfl, rfl, wq2⟩ := open_int Tryd.underlying3 (hval 2 3 v2 rfl rfl) k2
  have wf2 : (Lit.int .i64 a2).wf = true := wq2
  have m2 : 1 ≤ Rows.uptoBulk (DataW.lit (H := H) (.int .i64 a2)) := Op.bulk_one _
  have hpure := Pure.PacketNear a0 a1 a2 wf0 wf1 wf2
  obtain ⟨k, hk⟩ := hpure
  have hG := glob_of_laid hL
  refine (rhynelaw08_PacketNear.calls k a0 a1 a2 true W  hG hk).mono ?_
  rintro e W' ⟨he, hd⟩
  subst he
  have bel : Below W.heap.size W W' := hd
  exact ⟨_, rfl, _, _, _, [], _, [], hW', trodAll_mk1 (shut_bool Tryd.underlying4 _), (trodAll_cons_mk (shut_int Tryd.underlying3 wq0) (trodAll_cons_mk (shut_int Tryd.underlying3 wq1) (trodAll_cons_mk (shut_int Tryd.underlying3 wq2) trodAll_mk0))), rfl, bel.frame _, fun h => by cases h⟩
theorem over : Rows.packetNearRow.holds Tryd.pinned (OpenSpec.ofChange Rows.packetNearSpec) :=
  OpenClaim.holds_of_cond 4 Tryd.f4 rfl rfl rfl rfl rfl rfl rfl ⟨rfl, rfl, rfl, rfl, rfl⟩ rfl rfl rfl rfl rfl (by kernel_rfl) Tryd.func4 (by kernel_rfl)
    (of_decide_eq_true (by kernel_rfl)) (by unfold Func.isWrapper; first | (rw [if_pos (by decide +kernel)]; kernel_rfl) | (rw [if_neg (by decide +kernel)]; exact ⟨rfl, rfl⟩))
    (fun os started H enc _ F => by rw [OpenClaim.pre_eq_preRow]; exact lifted os started H enc F)
theorem plain (f : FuncId) (fn : Func) (hf : Tryd.pinned.checked.prog.funcNamed "rhyne/rhynelaw08.PacketNear" = some f) (hfn : Tryd.pinned.checked.prog.funcs[f]? = some fn) :
    false = Tryd.pinned.checked.prog.looks [] ∧ ∀ (j : Nat) t, fn.params[j]? = some t → Tryd.pinned.checked.prog.wantsStandIn t = false := by
  obtain rfl : f = 4 := Option.some.inj ((show Tryd.prog.funcNamed "rhyne/rhynelaw08.PacketNear" = some 4 by kernel_rfl).symm.trans hf) |>.symm
  obtain rfl : fn = Tryd.f4 := (Option.some.inj (Tryd.func4.symm.trans hfn)).symm
  refine ⟨by kernel_rfl, fun j t ht => ?_⟩
  rw [Tryd.params4] at ht
  match j, ht with
  | 0, ht => obtain rfl := (Option.some.inj ht).symm; exact (show Tryd.prog.wantsStandIn _ = false by kernel_rfl)
  | 1, ht => obtain rfl := (Option.some.inj ht).symm; exact (show Tryd.prog.wantsStandIn _ = false by kernel_rfl)
  | 2, ht => obtain rfl := (Option.some.inj ht).symm; exact (show Tryd.prog.wantsStandIn _ = false by kernel_rfl)
  | (j + 3), ht => simp at ht
theorem proved : Rows.PacketNearCardSaid :=
  Claim7.holds_tied_plain_at .later [] _ _ _ _ over (fun _ h => by cases h) (by kernel_rfl) (fun _ h => by cases h) packetNear_row_tie rfl ⟨rfl, rfl⟩ (by kernel_rfl) rfl plain (by kernel_rfl)
#print axioms proved
end Go.Proofs.YthagjeomcgphiaaDoor.packetNear
namespace Go.Proofs.YthagjeomcgphiaaDoor
/-- The statement, under a short name, for the claim. -/
theorem packetNear_holds : Rows.PacketNearCardSaid := packetNear.proved
end Go.Proofs.YthagjeomcgphiaaDoor
