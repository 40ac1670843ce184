/- The row of LossEnds: for every input the law returns true; each argument reads as it read before. -/
import Derived.Test.YtliblomkhapibaaPhRead
import Derived.Test.YtliblomkhapibaaL18
import Derived.Test.YtliblomkhapibaaRows
import Derived.WalkKit
import Derived.ProofKit
import Derived.OpenShut
import Derived.ShutString
import Derived.ChangeOld
import Derived.Below
import Derived.Carry
import Derived.SizedLaws
import Derived.Deep.DeepHandedRow
import Derived.LaidLaws
import Derived.LaidHandle
import Derived.Lib.LaidTab
import Derived.Stop.LaidErr
import Derived.Lib.LaidIn
import Derived.SevenTiedAt
import Derived.WideShapes
namespace Go.Proofs.Ytliblomkhapibaa.lossEnds
open Go.ChangeShapes Go.WideShapes Go.ChangeAt Go.RowKit Ph
set_option linter.unusedVariables false
theorem own : ownKnob Try.prog.godebug = none := by kernel_rfl
theorem laidOut : laidOutB Try.prog = true := by kernel_rfl
noncomputable def laidWorld (os : Os) : World := World.holding Try.prog os ⟨#[], #[], []⟩
theorem laid_met (os : Os) (args : Array Value) : laidMet Try.prog Rows.lossEndsRow.laid ((laidWorld os).forCall (fun _ _ => 0) ⟨#[], args, []⟩).memory := laidMet_nil _ _
theorem reads (os : Os) {H : Type} (enc : TypeId × Value → H) : ∃ places, DataW.whole enc Try.prog ((laidWorld os).forCall (fun _ _ => 0) ⟨#[], #[.int .i64 0, .int .i64 0, .int .i64 0], []⟩).memory Try.f7.params.toList Rows.lossEndsSpec.vars false (#[.int .i64 0, .int .i64 0, .int .i64 0] : Array Value).toList 8 = some ([.lit (.int .i64 0), .lit (.int .i64 0), .lit (.int .i64 0)], [], places) :=
  ⟨[], by kernel_rfl⟩
set_option maxRecDepth 100000 in
theorem lifted (os : Os) (started : os.Started) (H : Type) (enc : TypeId × Value → H) (F : Stop.Interp) :
    ReturnsInHanded {} Try.checked os 7 .any ((OpenSpec.ofChange Rows.lossEndsSpec).preRow enc Try.prog Try.f7 Rows.lossEndsRow.domain false Rows.lossEndsRow.laid) (((OpenSpec.ofChange Rows.lossEndsSpec).at F).post enc Try.prog Try.f7 false true false false) := by
  obtain ⟨places, hx⟩ := reads os enc
  refine returnsInHanded_of_row (C := Try.checked) (s := (OpenSpec.ofChange Rows.lossEndsSpec)) own started (by kernel_rfl) Try.func7
    (witness_row_at (enc := enc) (C := Try.checked) false (laidWorld os) #[.int .i64 0, .int .i64 0, .int .i64 0] rfl (by kernel_rfl) (by kernel_rfl) (by kernel_rfl)
      (OpenSpec.preRow_of_cond 8 hx (by kernel_rfl) (fun k hk => by cases hk) (by kernel_rfl) (laid_met os _))) ?_
  intro W base args ds gs before hval0 hW hcnd hcond hsz0 hL hSh _
  have hval : ∀ (j : Nat) t v, Try.f7.params[j]? = some t → args[j]? = some v → Value.okWide Try.prog W .any base t v := hval0
  have hW' := hW
  obtain ⟨p, q, hA0, hV, rfl, hfz, hnd⟩ := hW
  have hA : DataW.TrodAll enc Try.prog W 0 (fun _ => true) true Try.f7.params.toList args.toList ds p := hA0
  rw [Try.params7] at hA hval
  obtain ⟨v0, vs0, d0, ds0, p0, q0, hargs, rfl, rfl, h0, r0⟩ := trodAll_cons hA
  obtain ⟨v1, vs1, d1, ds1, p1, q1, rfl, rfl, rfl, h1, r1⟩ := trodAll_cons r0
  obtain ⟨v2, vs2, d2, ds2, p2, q2, rfl, rfl, rfl, h2, r2⟩ := trodAll_cons r1
  obtain ⟨rfl, rfl, rfl⟩ := trodAll_nil r2
  obtain rfl : args = #[v0, v1, v2] := by cases args; simp_all
  obtain ⟨rfl, rfl⟩ := trodVars_none hV
  clear hA0 hval0 hsz0 hcond
  have R0 := RoW.none (z := false) (w := W) (fun h => by cases h) (fun b vs hb => by cases hb)
  have k0 := h0
  have lt0 : ∀ x ∈ p0, x.block < W.heap.size := by obtain ⟨m, hm⟩ := k0; exact DataW.trod_lt m _ _ _ hm
  obtain ⟨fuel0, hf0⟩ := h0
  obtain ⟨n0, rfl⟩ := okWide_int Try.underlying3 (hval 0 3 v0 rfl rfl)
  replace hf0 : DataW.trod enc Try.prog W 0 (fun _ => true) true fuel0 3 [.int .i64 n0] = some (d0, p0) := by simpa [Value.cells] using hf0
  obtain ⟨ρ1, H1, x0, cc0, R1, E1, rep0, lr0, wf0, m0⟩ := (reads_int Try.underlying3 (by kernel_rfl)).op hf0 R0
  obtain rfl : cc0 = [.int .i64 x0] := rep0
  have k1 := h1
  have lt1 : ∀ x ∈ p1, x.block < W.heap.size := by obtain ⟨m, hm⟩ := k1; exact DataW.trod_lt m _ _ _ hm
  obtain ⟨fuel1, hf1⟩ := h1
  obtain ⟨n1, rfl⟩ := okWide_int Try.underlying3 (hval 1 3 v1 rfl rfl)
  replace hf1 : DataW.trod enc Try.prog W 0 (fun _ => true) true fuel1 3 [.int .i64 n1] = some (d1, p1) := by simpa [Value.cells] using hf1
  obtain ⟨ρ2, H2, x1, cc1, R2, E2, rep1, lr1, wf1, m1⟩ := (reads_int Try.underlying3 (by kernel_rfl)).op hf1 R1
  obtain rfl : cc1 = [.int .i64 x1] := rep1
  have k2 := h2
  have lt2 : ∀ x ∈ p2, x.block < W.heap.size := by obtain ⟨m, hm⟩ := k2; exact DataW.trod_lt m _ _ _ hm
  obtain ⟨fuel2, hf2⟩ := h2
  obtain ⟨n2, rfl⟩ := okWide_int Try.underlying3 (hval 2 3 v2 rfl rfl)
  replace hf2 : DataW.trod enc Try.prog W 0 (fun _ => true) true fuel2 3 [.int .i64 n2] = some (d2, p2) := by simpa [Value.cells] using hf2
  obtain ⟨ρ3, H3, x2, cc2, R3, E3, rep2, lr2, wf2, m2⟩ := (reads_int Try.underlying3 (by kernel_rfl)).op hf2 R2
  obtain rfl : cc2 = [.int .i64 x2] := rep2
  have hargs : ARel ρ3 #[.int .i64 x0, .int .i64 x1, .int .i64 x2] #[.int .i64 n0, .int .i64 n1, .int .i64 n2] := by
    have all : LRel ρ3 [.int .i64 x0, .int .i64 x1, .int .i64 x2] [.int .i64 n0, .int .i64 n1, .int .i64 n2] := (LRel.app (lr0.mono (E2.trans E3).ren) (LRel.app (lr1.mono E3.ren) (lr2.mono (Ext.refl ρ3 H3).ren)))
    exact all.arr
  refine (calls_row rfl R3 hargs (lossEnds_ph H3 x0 x1 x2 wf0 wf1 wf2)).mono ?_
  rintro e W' ⟨he, bel⟩
  subst he
  exact ⟨_, rfl, _, _, _, [], _, [], hW', trodAll_mk1 (shut_bool Try.underlying4 _), (trodAll_cons_mk (Below.trod laidOut (by kernel_rfl) (of_decide_eq_true (by kernel_rfl)) k0 bel lt0) (trodAll_cons_mk (Below.trod laidOut (by kernel_rfl) (of_decide_eq_true (by kernel_rfl)) k1 bel lt1) (trodAll_cons_mk (Below.trod laidOut (by kernel_rfl) (of_decide_eq_true (by kernel_rfl)) k2 bel lt2) trodAll_mk0))), rfl, bel.frame _, fun h => by cases h⟩
theorem over : Rows.lossEndsRow.holds Try.pinned (OpenSpec.ofChange Rows.lossEndsSpec) :=
  OpenClaim.holds_of_cond 7 Try.f7 rfl rfl rfl rfl rfl rfl rfl ⟨rfl, rfl, rfl, rfl, rfl⟩ rfl rfl rfl rfl rfl (by kernel_rfl) Try.func7 (by kernel_rfl)
    (of_decide_eq_true (by kernel_rfl)) (by unfold Func.isWrapper; first | (rw [if_pos (by decide +kernel)]; kernel_rfl) | (rw [if_neg (by decide +kernel)]; exact ⟨rfl, rfl⟩))
    (fun os started H enc _ F => by rw [OpenClaim.pre_eq_preRow]; exact lifted os started H enc F)
theorem proved : Rows.LossEndsSaid := over
#print axioms proved
end Go.Proofs.Ytliblomkhapibaa.lossEnds
namespace Go.Proofs.Ytliblomkhapibaa
/-- The statement, under a short name, for the claim. -/
theorem lossEnds_holds : Rows.LossEndsSaid := lossEnds.proved
end Go.Proofs.Ytliblomkhapibaa
