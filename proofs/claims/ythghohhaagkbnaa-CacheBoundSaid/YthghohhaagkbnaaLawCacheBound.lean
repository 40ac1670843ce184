/- The row of CacheBound: for every input the law returns true; each argument reads as it read before. -/
import Derived.Test.YthghohhaagkbnaaPhRead
import Derived.Test.YthghohhaagkbnaaC20
import Derived.Test.YthghohhaagkbnaaRows
import Derived.WalkKit
import Derived.ProofKit
import Derived.OpenShut
import Derived.ShutString
import Derived.ChangeOld
import Derived.Below
import Derived.Carry
import Derived.SizedLaws
import Derived.Deep.DeepHandedRow
import Derived.LaidLaws
import Derived.LaidHandle
import Derived.Lib.LaidTab
import Derived.Stop.LaidErr
import Derived.Lib.LaidIn
import Derived.SevenTiedAt
import Derived.WideShapes
namespace Go.Proofs.Ythghohhaagkbnaa.cacheBound
open Go.ChangeShapes Go.WideShapes Go.ChangeAt Go.RowKit Ph
set_option linter.unusedVariables false
theorem own : ownKnob Try.prog.godebug = none := by kernel_rfl
theorem laidOut : laidOutB Try.prog = true := by kernel_rfl
noncomputable def laidWorld (os : Os) : World := World.holding Try.prog os ⟨#[], #[], []⟩
theorem laid_met (os : Os) (args : Array Value) : laidMet Try.prog Rows.cacheBoundRow.laid ((laidWorld os).forCall (fun _ _ => 0) ⟨#[], args, []⟩).memory := laidMet_nil _ _
theorem reads (os : Os) {H : Type} (enc : TypeId × Value → H) : ∃ places, DataW.whole enc Try.prog ((laidWorld os).forCall (fun _ _ => 0) ⟨#[], #[.int .i64 0, .slice none 0 0], []⟩).memory Try.f6.params.toList Rows.cacheBoundSpec.vars false (#[.int .i64 0, .slice none 0 0] : Array Value).toList 8 = some ([.lit (.int .i64 0), .nil], [], places) :=
  ⟨[], by kernel_rfl⟩
set_option maxRecDepth 100000 in
theorem lifted (os : Os) (started : os.Started) (H : Type) (enc : TypeId × Value → H) (F : Stop.Interp) :
    ReturnsInHanded {} Try.checked os 6 .any ((OpenSpec.ofChange Rows.cacheBoundSpec).preRow enc Try.prog Try.f6 Rows.cacheBoundRow.domain false Rows.cacheBoundRow.laid) (((OpenSpec.ofChange Rows.cacheBoundSpec).at F).post enc Try.prog Try.f6 false true false false) := by
  obtain ⟨places, hx⟩ := reads os enc
  refine returnsInHanded_of_row (C := Try.checked) (s := (OpenSpec.ofChange Rows.cacheBoundSpec)) own started (by kernel_rfl) Try.func6
    (witness_row_at (enc := enc) (C := Try.checked) false (laidWorld os) #[.int .i64 0, .slice none 0 0] rfl (by kernel_rfl) (by kernel_rfl) (by kernel_rfl)
      (OpenSpec.preRow_of_cond 8 hx (by kernel_rfl) (fun k hk => by cases hk) (by kernel_rfl) (laid_met os _))) ?_
  intro W base args ds gs before hval0 hW hcnd hcond hsz0 hL hSh _
  have hval : ∀ (j : Nat) t v, Try.f6.params[j]? = some t → args[j]? = some v → Value.okWide Try.prog W .any base t v := hval0
  have hW' := hW
  obtain ⟨p, q, hA0, hV, rfl, hfz, hnd⟩ := hW
  have hA : DataW.TrodAll enc Try.prog W 0 (fun _ => true) true Try.f6.params.toList args.toList ds p := hA0
  rw [Try.params6] at hA hval
  obtain ⟨v0, vs0, d0, ds0, p0, q0, hargs, rfl, rfl, h0, r0⟩ := trodAll_cons hA
  obtain ⟨v1, vs1, d1, ds1, p1, q1, rfl, rfl, rfl, h1, r1⟩ := trodAll_cons r0
  obtain ⟨rfl, rfl, rfl⟩ := trodAll_nil r1
  obtain rfl : args = #[v0, v1] := by cases args; simp_all
  obtain ⟨rfl, rfl⟩ := trodVars_none hV
  clear hA0 hval0 hsz0 hcond
  by_cases hpos : 0 < W.heap.size
  · have R0 := RoW.none (z := true) (w := W) (fun _ => hpos) (fun b vs hb => by cases hb)
    have k0 := h0
    have lt0 : ∀ x ∈ p0, x.block < W.heap.size := by obtain ⟨m, hm⟩ := k0; exact DataW.trod_lt m _ _ _ hm
    obtain ⟨fuel0, hf0⟩ := h0
    obtain ⟨n0, rfl⟩ := okWide_int Try.underlying3 (hval 0 3 v0 rfl rfl)
    replace hf0 : DataW.trod enc Try.prog W 0 (fun _ => true) true fuel0 3 [.int .i64 n0] = some (d0, p0) := by simpa [Value.cells] using hf0
    obtain ⟨ρ1, H1, x0, cc0, R1, E1, rep0, lr0, wf0, m0⟩ := (reads_int Try.underlying3 (by kernel_rfl)).op hf0 R0
    obtain rfl : cc0 = [.int .i64 x0] := rep0
    have k1 := h1
    have lt1 : ∀ x ∈ p1, x.block < W.heap.size := by obtain ⟨m, hm⟩ := k1; exact DataW.trod_lt m _ _ _ hm
    obtain ⟨fuel1, hf1⟩ := h1
    obtain ⟨a1, n1, c1, rfl⟩ := okWide_slice Try.underlying22 (hval 1 22 v1 rfl rfl)
    replace hf1 : DataW.trod enc Try.prog W 0 (fun _ => true) true fuel1 22 [.slice a1 n1 c1] = some (d1, p1) := by simpa [Value.cells] using hf1
    obtain ⟨ρ2, H2, l1, cc1, R2, E2, rep1, lr1, wf1, m1⟩ := (reads_slice (reads_int Try.underlying3 (by kernel_rfl)) Try.underlying22 (by kernel_rfl) (by decide)).op hf1 R1
    obtain ⟨s1, rfl, hs1⟩ := rep1
    have hargs : ARel ρ2 #[.int .i64 x0, s1] #[.int .i64 n0, .slice a1 n1 c1] := by
      have all : LRel ρ2 [.int .i64 x0, s1] [.int .i64 n0, .slice a1 n1 c1] := (LRel.app (lr0.mono E2.ren) (lr1.mono (Ext.refl ρ2 H2).ren))
      exact all.arr
    refine (calls_row rfl R2 hargs (CacheBound_ph H2 x0 l1 s1 (hs1.mono (Ext.refl ρ2 H2).sub) wf0 wf1)).mono ?_
    rintro e W' ⟨he, bel⟩
    subst he
    exact ⟨_, rfl, _, _, _, [], _, [], hW', trodAll_mk1 (shut_bool Try.underlying4 _), (trodAll_cons_mk (Below.trod laidOut (by kernel_rfl) (of_decide_eq_true (by kernel_rfl)) k0 bel lt0) (trodAll_cons_mk (Below.trod laidOut (by kernel_rfl) (of_decide_eq_true (by kernel_rfl)) k1 bel lt1) trodAll_mk0)), rfl, bel.frame _, fun h => by cases h⟩
  · have R0 := RoW.none (z := false) (w := W) (fun h => by cases h) (fun b vs hb => by cases hb)
    have k0 := h0
    have lt0 : ∀ x ∈ p0, x.block < W.heap.size := by obtain ⟨m, hm⟩ := k0; exact DataW.trod_lt m _ _ _ hm
    obtain ⟨fuel0, hf0⟩ := h0
    obtain ⟨n0, rfl⟩ := okWide_int Try.underlying3 (hval 0 3 v0 rfl rfl)
    replace hf0 : DataW.trod enc Try.prog W 0 (fun _ => true) true fuel0 3 [.int .i64 n0] = some (d0, p0) := by simpa [Value.cells] using hf0
    obtain ⟨ρ1, H1, x0, cc0, R1, E1, rep0, lr0, wf0, m0⟩ := (reads_int Try.underlying3 (by kernel_rfl)).op hf0 R0
    obtain rfl : cc0 = [.int .i64 x0] := rep0
    have k1 := h1
    have lt1 : ∀ x ∈ p1, x.block < W.heap.size := by obtain ⟨m, hm⟩ := k1; exact DataW.trod_lt m _ _ _ hm
    obtain ⟨fuel1, hf1⟩ := h1
    obtain ⟨a1, n1, c1, rfl⟩ := okWide_slice Try.underlying22 (hval 1 22 v1 rfl rfl)
    obtain ⟨rfl, rfl, rfl⟩ := slice_nil Try.underlying22 (hval 1 22 _ rfl rfl) hpos
    replace hf1 : DataW.trod enc Try.prog W 0 (fun _ => true) true fuel1 22 [.slice none 0 0] = some (d1, p1) := by simpa [Value.cells] using hf1
    obtain ⟨ρ2, H2, l1, cc1, R2, E2, rep1, lr1, wf1, m1⟩ := op_nil (H := H) (y := (d1, p1)) (reads_slice (reads_int Try.underlying3 (by kernel_rfl)) Try.underlying22 (by kernel_rfl) (by decide)) R1
    obtain ⟨s1, rfl, hs1⟩ := rep1
    have hargs : ARel ρ2 #[.int .i64 x0, s1] #[.int .i64 n0, .slice none 0 0] := by
      have all : LRel ρ2 [.int .i64 x0, s1] [.int .i64 n0, .slice none 0 0] := (LRel.app (lr0.mono E2.ren) (lr1.mono (Ext.refl ρ2 H2).ren))
      exact all.arr
    refine (calls_row rfl R2 hargs (CacheBound_ph H2 x0 l1 s1 (hs1.mono (Ext.refl ρ2 H2).sub) wf0 wf1)).mono ?_
    rintro e W' ⟨he, bel⟩
    subst he
    exact ⟨_, rfl, _, _, _, [], _, [], hW', trodAll_mk1 (shut_bool Try.underlying4 _), (trodAll_cons_mk (Below.trod laidOut (by kernel_rfl) (of_decide_eq_true (by kernel_rfl)) k0 bel lt0) (trodAll_cons_mk (Below.trod laidOut (by kernel_rfl) (of_decide_eq_true (by kernel_rfl)) k1 bel lt1) trodAll_mk0)), rfl, bel.frame _, fun h => by cases h⟩
theorem over : Rows.cacheBoundRow.holds Try.pinned (OpenSpec.ofChange Rows.cacheBoundSpec) :=
  OpenClaim.holds_of_cond 6 Try.f6 rfl rfl rfl rfl rfl rfl rfl ⟨rfl, rfl, rfl, rfl, rfl⟩ rfl rfl rfl rfl rfl (by kernel_rfl) Try.func6 (by kernel_rfl)
    (of_decide_eq_true (by kernel_rfl)) (by unfold Func.isWrapper; first | (rw [if_pos (by decide +kernel)]; kernel_rfl) | (rw [if_neg (by decide +kernel)]; exact ⟨rfl, rfl⟩))
    (fun os started H enc _ F => by rw [OpenClaim.pre_eq_preRow]; exact lifted os started H enc F)
theorem proved : Rows.CacheBoundSaid := over
#print axioms proved
end Go.Proofs.Ythghohhaagkbnaa.cacheBound
namespace Go.Proofs.Ythghohhaagkbnaa
/-- The statement, under a short name, for the claim. -/
theorem cacheBound_holds : Rows.CacheBoundSaid := cacheBound.proved
end Go.Proofs.Ythghohhaagkbnaa
