/- The row and the tied card of NameThree: for every input of bulk at most 1048576 the law returns true; each argument reads as it read before. -/
import Derived.Test.YtkmjempbechagaaDoorOp
import Derived.Test.YtkmjempbechagaaDoorX6
import Derived.Test.YtkmjempbechagaaDoorPureNameThree
import Derived.Test.YtkmjempbechagaaDoorTie
import Derived.Test.YtkmjempbechagaaDoorCards
import Derived.WalkKit
import Derived.ProofKit
import Derived.OpenShut
import Derived.ShutString
import Derived.ChangeOld
import Derived.Below
import Derived.SizedLaws
import Derived.Deep.DeepHandedRow
import Derived.LaidLaws
import Derived.LaidHandle
import Derived.Lib.LaidTab
import Derived.Stop.LaidErr
import Derived.Lib.LaidIn
import Derived.SevenTiedAt
import Derived.WideShapes
import Derived.Shelf.Vars
namespace Go.Proofs.YtkmjempbechagaaDoor.nameThreeUpto
open Go.ChangeShapes Go.WideShapes Go.ChangeAt Go.RowKit Go.Proofs.YtkmjempbechagaaDoor.X Go.Proofs.YtkmjempbechagaaDoorW.PrintWords Go.Proofs.YtkmjempbechagaaDoorW.PrintLast
open Go.ChangeMaps (open_string shut_string)
set_option linter.unusedVariables false
theorem own : ownKnob Tryd.prog.godebug = none := by kernel_rfl
theorem laidOut : laidOutB Tryd.prog = true := by kernel_rfl
/-- The listed variable's numbers. -/
def tab2 : List Value := [.int .u8 128, .int .u8 191, .int .u8 160, .int .u8 191, .int .u8 128, .int .u8 159, .int .u8 144, .int .u8 191, .int .u8 128, .int .u8 143, .int .u8 0, .int .u8 0, .int .u8 0, .int .u8 0, .int .u8 0, .int .u8 0, .int .u8 0, .int .u8 0, .int .u8 0, .int .u8 0, .int .u8 0, .int .u8 0, .int .u8 0, .int .u8 0, .int .u8 0, .int .u8 0, .int .u8 0, .int .u8 0, .int .u8 0, .int .u8 0, .int .u8 0, .int .u8 0]
def nums2 : List Int := [128, 191, 160, 191, 128, 159, 144, 191, 128, 143, 0, 0, 0, 0, 0, 0, 0, 0, 0, 0, 0, 0, 0, 0, 0, 0, 0, 0, 0, 0, 0, 0]
/-- The listed variable's numbers (one of Go's own tables). -/
def tab1 : List Value := Go.Pinned.utf8FirstZ.map fun z => Value.int .u8 (z : Nat)
/-- A world in which the listed variables hold what their initialisers lay. -/
noncomputable def laidWorld (os : Os) : World :=
  let w0 := World.holding Tryd.prog os ⟨#[], #[], []⟩
  let put (h : Array Obj) (g : Nat) (cs : Array Value) : Array Obj := h.modify g fun
    | .cells _ t frozen => .cells cs t frozen
    | o => o
  { w0 with heap := (put (put w0.heap 2 tab2.toArray) 1 tab1.toArray) }
theorem laid_met (os : Os) (args : Array Value) : laidMet Tryd.prog Rows.nameThreeUptoRow.laid ((laidWorld os).forCall (fun _ _ => 0) ⟨#[], args, []⟩).memory :=
  (LaidIn.of_run [1, 2] 8 (by kernel_rfl) (by kernel_rfl) (by kernel_rfl) (by kernel_rfl)).met
theorem glob_of_laid {W : World} (hL : laidMet Tryd.prog Rows.nameThreeUptoRow.laid W) (hS : W.ShapedOpen Tryd.prog) : GlobT W := by
  obtain ⟨m, hm⟩ := Go.Proofs.cell_of_shapedOpen_int (g := 0) (t := 3) (zero := #[.int .i64 0]) (k := .i64) hS (of_decide_eq_true (by kernel_rfl)) (by kernel_rfl) (by kernel_rfl) (by kernel_rfl) (by kernel_rfl) Tryd.underlying3
  exact ⟨World.block_lt_of_cell? W _ hm, m, hm⟩
theorem reads (os : Os) {H : Type} (enc : TypeId × Value → H) : ∃ places, DataW.whole enc Tryd.prog ((laidWorld os).forCall (fun _ _ => 0) ⟨#[], #[.string ⟨#[]⟩, .string ⟨#[]⟩, .string ⟨#[]⟩], []⟩).memory Tryd.f5.params.toList Rows.nameThreeSpec.vars false (#[.string ⟨#[]⟩, .string ⟨#[]⟩, .string ⟨#[]⟩] : Array Value).toList 8 = some ([.lit (.string []), .lit (.string []), .lit (.string [])], [], places) :=
  ⟨[], by kernel_rfl⟩
set_option maxRecDepth 100000 in
theorem lifted (os : Os) (started : os.Started) (H : Type) (enc : TypeId × Value → H) (F : Stop.Interp) :
    ReturnsInHanded {} Tryd.checked os 5 .any ((Rows.OpenSpec.upto Rows.nameThreeSpec).preRow enc Tryd.prog Tryd.f5 Rows.nameThreeUptoRow.domain false Rows.nameThreeUptoRow.laid) (((Rows.OpenSpec.upto Rows.nameThreeSpec).at F).post enc Tryd.prog Tryd.f5 false true false false) := by
  obtain ⟨places, hx⟩ := reads os enc
  refine returnsInHanded_of_row (C := Tryd.checked) (s := (Rows.OpenSpec.upto Rows.nameThreeSpec)) own started (by kernel_rfl) Tryd.func5
    (witness_row_at (enc := enc) (C := Tryd.checked) false (laidWorld os) #[.string ⟨#[]⟩, .string ⟨#[]⟩, .string ⟨#[]⟩] rfl (by kernel_rfl) (by kernel_rfl) (by kernel_rfl)
      (OpenSpec.preRow_of_cond 8 hx (by kernel_rfl) (fun k hk => by cases hk; kernel_rfl) (by kernel_rfl) (laid_met os _))) ?_
  intro W base args ds gs before hval0 hW hcnd hcond hsz0 hL hSh _
  have hval : ∀ (j : Nat) t v, Tryd.f5.params[j]? = some t → args[j]? = some v → Value.okWide Tryd.prog W .any base t v := hval0
  have hW' := hW
  obtain ⟨p, q, hA0, hV, rfl, hfz, hnd⟩ := hW
  have hA : DataW.TrodAll enc Tryd.prog W 0 (fun _ => true) true Tryd.f5.params.toList args.toList ds p := hA0
  rw [Tryd.params5] at hA hval
  obtain ⟨v0, vs0, d0, ds0, p0, q0, hargs, rfl, rfl, h0, r0⟩ := trodAll_cons hA
  obtain ⟨v1, vs1, d1, ds1, p1, q1, rfl, rfl, rfl, h1, r1⟩ := trodAll_cons r0
  obtain ⟨v2, vs2, d2, ds2, p2, q2, rfl, rfl, rfl, h2, r2⟩ := trodAll_cons r1
  obtain ⟨rfl, rfl, rfl⟩ := trodAll_nil r2
  obtain rfl : args = #[v0, v1, v2] := by cases args; simp_all
  obtain ⟨rfl, rfl⟩ := trodVars_none hV
  have hbulk : Rows.uptoBulkAll [d0, d1, d2] ≤ 1048576 := of_decide_eq_true (show decide (Rows.uptoBulkAll [d0, d1, d2] ≤ 1048576) = true from hcond _ rfl)
  clear hA0 hval0 hsz0 hcond
  have k0 := h0
  obtain ⟨fuel0, hf0⟩ := h0
  obtain ⟨a0, rfl, rfl, rfl, wq0⟩ := open_string Tryd.underlying9 (hval 0 9 v0 rfl rfl) k0
  have wf0 : a0.size ≤ maxLen := wq0
  have m0 : a0.size + 1 ≤ Rows.uptoBulk (DataW.lit (H := H) (.string a0.data.toList)) := by show a0.data.size + 1 ≤ a0.data.toList.length + 1; rw [Array.length_toList]; exact Nat.le_refl _
  have k1 := h1
  obtain ⟨fuel1, hf1⟩ := h1
  obtain ⟨a1, rfl, rfl, rfl, wq1⟩ := open_string Tryd.underlying9 (hval 1 9 v1 rfl rfl) k1
  have wf1 : a1.size ≤ maxLen := wq1
  have m1 : a1.size + 1 ≤ Rows.uptoBulk (DataW.lit (H := H) (.string a1.data.toList)) := by show a1.data.size + 1 ≤ a1.data.toList.length + 1; rw [Array.length_toList]; exact Nat.le_refl _
  have k2 := h2
  obtain ⟨fuel2, hf2⟩ := h2
  obtain ⟨a2, rfl, rfl, rfl, wq2⟩ := open_string Tryd.underlying9 (hval 2 9 v2 rfl rfl) k2
  have wf2 : a2.size ≤ maxLen := wq2
  have m2 : a2.size + 1 ≤ Rows.uptoBulk (DataW.lit (H := H) (.string a2.data.toList)) := by show a2.data.size + 1 ≤ a2.data.toList.length + 1; rw [Array.length_toList]; exact Nat.le_refl _
  have hb : (a0.size + 1) + (a1.size + 1) + (a2.size + 1) ≤ 1048576 := by
    simp only [Rows.uptoBulkAll] at hbulk
    have n0_ := m0
    have n1_ := m1
    have n2_ := m2
    omega
  have hpure := Pure.NameThree a0 a1 a2 wf0 wf1 wf2 hb
  obtain ⟨k, hk⟩ := hpure
  have hG := glob_of_laid hL hSh
  refine (rhynelaw17_NameThree.calls k a0 a1 a2 true W  hG hk).mono ?_
  rintro e W' ⟨he, hd⟩
  subst he
  have bel : Below W.heap.size W W' := hd
  exact ⟨_, rfl, _, _, _, [], _, [], hW', trodAll_mk1 (shut_bool Tryd.underlying4 _), (trodAll_cons_mk (shut_string Tryd.underlying9 wq0) (trodAll_cons_mk (shut_string Tryd.underlying9 wq1) (trodAll_cons_mk (shut_string Tryd.underlying9 wq2) trodAll_mk0))), rfl, bel.frame _, fun h => by cases h⟩
theorem over : Rows.nameThreeUptoRow.holds Tryd.pinned (Rows.OpenSpec.upto Rows.nameThreeSpec) :=
  OpenClaim.holds_of_cond 5 Tryd.f5 rfl rfl rfl rfl rfl rfl rfl ⟨rfl, rfl, rfl, rfl, rfl⟩ rfl rfl rfl rfl rfl (by kernel_rfl) Tryd.func5 (by kernel_rfl)
    (of_decide_eq_true (by kernel_rfl)) (by unfold Func.isWrapper; first | (rw [if_pos (by decide +kernel)]; kernel_rfl) | (rw [if_neg (by decide +kernel)]; exact ⟨rfl, rfl⟩))
    (fun os started H enc _ F => by rw [OpenClaim.pre_eq_preRow]; exact lifted os started H enc F)
theorem plain (f : FuncId) (fn : Func) (hf : Tryd.pinned.checked.prog.funcNamed "rhyne/rhynelaw17.NameThree" = some f) (hfn : Tryd.pinned.checked.prog.funcs[f]? = some fn) :
    false = Tryd.pinned.checked.prog.looks [] ∧ ∀ (j : Nat) t, fn.params[j]? = some t → Tryd.pinned.checked.prog.wantsStandIn t = false := by
  obtain rfl : f = 5 := Option.some.inj ((show Tryd.prog.funcNamed "rhyne/rhynelaw17.NameThree" = some 5 by kernel_rfl).symm.trans hf) |>.symm
  obtain rfl : fn = Tryd.f5 := (Option.some.inj (Tryd.func5.symm.trans hfn)).symm
  refine ⟨by kernel_rfl, fun j t ht => ?_⟩
  rw [Tryd.params5] at ht
  match j, ht with
  | 0, ht => obtain rfl := (Option.some.inj ht).symm; exact (show Tryd.prog.wantsStandIn _ = false by kernel_rfl)
  | 1, ht => obtain rfl := (Option.some.inj ht).symm; exact (show Tryd.prog.wantsStandIn _ = false by kernel_rfl)
  | 2, ht => obtain rfl := (Option.some.inj ht).symm; exact (show Tryd.prog.wantsStandIn _ = false by kernel_rfl)
  | (j + 3), ht => simp at ht
theorem proved : Rows.NameThreeUptoCardSaid :=
  Claim7.holds_tied_plain_at .later [] _ _ _ _ over (fun _ h => by cases h) (by kernel_rfl) (fun _ h => by cases h) nameThreeUpto_row_tie rfl ⟨rfl, rfl⟩ (by kernel_rfl) rfl plain (by kernel_rfl)
#print axioms proved
end Go.Proofs.YtkmjempbechagaaDoor.nameThreeUpto
namespace Go.Proofs.YtkmjempbechagaaDoor
/-- The statement, under a short name, for the claim. -/
theorem nameThreeUpto_holds : Rows.NameThreeUptoCardSaid := nameThreeUpto.proved
end Go.Proofs.YtkmjempbechagaaDoor
