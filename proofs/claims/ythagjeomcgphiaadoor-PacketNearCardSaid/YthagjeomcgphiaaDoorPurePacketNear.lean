/- A number's lowest bytes, as many as Bytes says, tell it to whoever got one from the acked one on, up to the one ahead of it; no condition. -/
import Derived.Test.YthagjeomcgphiaaDoorM4
namespace Go.Proofs.YthagjeomcgphiaaDoor.Pure
open Go.RowKit Go.Proofs.YthagjeomcgphiaaDoor.X Go.Proofs.YthagjeomcgphiaaDoorW.PrintWords Go.Proofs.YthagjeomcgphiaaDoorW.PrintLast Go.Proofs.YthagjeomcgphiaaDoorW.PrintMore
set_option linter.unusedSimpArgs false
set_option linter.unusedVariables false

def sz (d : Int) : Int := if d < 128 then 1 else if d < 32768 then 2 else if d < 8388608 then 3 else 4
theorem bytes_core (k : Nat) (N A : Int) (hA : -1 ≤ A) (hAN : A < N) (hN : N ≤ 4611686018427387903) (hd : N - A < 2147483648) : packet_Bytes.f (k + 10) N A = some (sz (N - A), 0) := by
  have hu : IntKind.u64.wrap (wrap64 (N - A)) = N - A := by rw [IntKind.wrap_u64]; unfold wrap64; omega
  unfold packet_Bytes.f
  rw [if_neg (by omega), if_neg (by omega), decide_eq_false (by omega), show k + 10 = (k + 9) + 1 from rfl, packet_Bytes.j0, if_neg (by decide)]
  unfold sz
  rw [show k + 9 = (k + 8) + 1 from rfl, packet_Bytes.l0, if_pos (by decide), if_pos (by decide +kernel), hu, show shl .u64 1 (wrap64 (wrap64 (8 * 1) - 1)) = 128 from by decide +kernel]
  by_cases c1 : N - A < 128
  · rw [if_pos c1, if_pos c1]
  rw [if_neg c1, if_neg c1, show wrap64 (1 + 1) = 2 from by decide +kernel, show k + 8 = (k + 7) + 1 from rfl, packet_Bytes.l0, if_pos (by decide), if_pos (by decide +kernel), hu, show shl .u64 1 (wrap64 (wrap64 (8 * 2) - 1)) = 32768 from by decide +kernel]
  by_cases c2 : N - A < 32768
  · rw [if_pos c2, if_pos c2]
  rw [if_neg c2, if_neg c2, show wrap64 (2 + 1) = 3 from by decide +kernel, show k + 7 = (k + 6) + 1 from rfl, packet_Bytes.l0, if_pos (by decide), if_pos (by decide +kernel), hu, show shl .u64 1 (wrap64 (wrap64 (8 * 3) - 1)) = 8388608 from by decide +kernel]
  by_cases c3 : N - A < 8388608
  · rw [if_pos c3, if_pos c3]
  rw [if_neg c3, if_neg c3, show wrap64 (3 + 1) = 4 from by decide +kernel, show k + 6 = (k + 5) + 1 from rfl, packet_Bytes.l0, if_pos (by decide), if_pos (by decide +kernel), hu, show shl .u64 1 (wrap64 (wrap64 (8 * 4) - 1)) = 2147483648 from by decide +kernel, if_pos hd]
theorem u64_range (n : Int) : 0 ≤ IntKind.u64.wrap n ∧ IntKind.u64.wrap n < 18446744073709551616 := by rw [IntKind.wrap_u64]; omega
theorem PacketNear : ∀ (a0 : Int) (a1 : Int) (a2 : Int), (Lit.int .i64 a0).wf = true → (Lit.int .i64 a1).wf = true → (Lit.int .i64 a2).wf = true → ∃ k, rhynelaw08_PacketNear.f k a0 a1 a2 = some true := by
  intro a0 a1 a2 _ _ _
  obtain ⟨N, hN, hN0, hN1⟩ : ∃ N : Int, wrap64 (Int.tmod (IntKind.u64.wrap a0) 4611686018427387904) = N ∧ 0 ≤ N ∧ N ≤ 4611686018427387903 := by
    have h := u64_range a0
    refine ⟨_, rfl, ?_⟩
    rw [Int.tmod_eq_emod_of_nonneg h.1]; unfold wrap64; omega
  obtain ⟨F, hF, hF0, hF1⟩ : ∃ F : Int, wrap64 (1 + wrap64 (Int.tmod (IntKind.u64.wrap a1) 2147483647)) = F ∧ 1 ≤ F ∧ F ≤ 2147483647 := by
    have h := u64_range a1
    refine ⟨_, rfl, ?_⟩
    rw [Int.tmod_eq_emod_of_nonneg h.1]
    generalize IntKind.u64.wrap a1 = u at *
    have h0 : 0 ≤ u % 2147483647 := Int.emod_nonneg _ (by decide)
    have h1 : u % 2147483647 < 2147483647 := Int.emod_lt_of_pos _ (by decide)
    generalize u % 2147483647 = v at *
    unfold wrap64; omega
  obtain ⟨A, hA, hA0, hA1, hA2⟩ : ∃ A : Int, mx (wrap64 (N - F)) (-1) = A ∧ -1 ≤ A ∧ A < N ∧ N - A < 2147483648 := by
    refine ⟨_, rfl, ?_⟩
    rw [show wrap64 (N - F) = N - F from by unfold wrap64; omega]
    unfold mx
    split <;> omega
  have hu : IntKind.u64.wrap (wrap64 (N - A)) = N - A := by rw [IntKind.wrap_u64]; unfold wrap64; omega
  obtain ⟨E, hE, hE0, hE1⟩ : ∃ E : Int, wrap64 (wrap64 (A + 1) + wrap64 (Int.tmod (IntKind.u64.wrap a2) (N - A))) = E ∧ A + 1 ≤ E ∧ E ≤ N := by
    have h := u64_range a2
    refine ⟨_, rfl, ?_⟩
    rw [Int.tmod_eq_emod_of_nonneg h.1]
    have h0 : 0 ≤ IntKind.u64.wrap a2 % (N - A) := Int.emod_nonneg _ (by omega)
    have h1 : IntKind.u64.wrap a2 % (N - A) < N - A := Int.emod_lt_of_pos _ (by omega)
    generalize IntKind.u64.wrap a2 % (N - A) = v at *
    unfold wrap64; omega
  refine ⟨0 + 60, ?_⟩
  unfold rhynelaw08_PacketNear.f
  rw [hN, hF, hA, heads_f, show 0 + 60 = 50 + 10 from rfl, bytes_core 50 N A hA0 hA1 hN1 hA2, Option.bind_some, Option.bind_some, if_pos rfl, if_pos rfl, hu, if_neg (by omega), hE]
  rw [show 50 + 10 = 58 + 2 from rfl]
  have hd0 : N - E < N - A := by omega
  have htm : ∀ w : Int, Int.tmod N w = N % w := fun w => Int.tmod_eq_emod_of_nonneg hN0
  unfold sz
  by_cases c1 : N - A < 128
  · rw [if_pos c1]
    have hs : shl .i64 1 (wrap64 (8 * 1)) = 256 := by decide +kernel
    rw [if_pos (by decide +kernel)]
    simp only [hs, htm]
    rw [if_neg (by decide), whole_core 58 1 8 256 N E (by decide) (by decide) hs (by decide) (by decide +kernel) (by decide) (by decide) (by decide) (by omega) hE1 hN1 (by omega), Option.bind_some, if_pos rfl, beq_self_eq_true]
  rw [if_neg c1]
  by_cases c2 : N - A < 32768
  · rw [if_pos c2]
    have hs : shl .i64 1 (wrap64 (8 * 2)) = 65536 := by decide +kernel
    rw [if_pos (by decide +kernel)]
    simp only [hs, htm]
    rw [if_neg (by decide), whole_core 58 2 16 65536 N E (by decide) (by decide) hs (by decide) (by decide +kernel) (by decide) (by decide) (by decide) (by omega) hE1 hN1 (by omega), Option.bind_some, if_pos rfl, beq_self_eq_true]
  rw [if_neg c2]
  by_cases c3 : N - A < 8388608
  · rw [if_pos c3]
    have hs : shl .i64 1 (wrap64 (8 * 3)) = 16777216 := by decide +kernel
    rw [if_pos (by decide +kernel)]
    simp only [hs, htm]
    rw [if_neg (by decide), whole_core 58 3 24 16777216 N E (by decide) (by decide) hs (by decide) (by decide +kernel) (by decide) (by decide) (by decide) (by omega) hE1 hN1 (by omega), Option.bind_some, if_pos rfl, beq_self_eq_true]
  rw [if_neg c3]
  have hs : shl .i64 1 (wrap64 (8 * 4)) = 4294967296 := by decide +kernel
  rw [if_pos (by decide +kernel)]
  simp only [hs, htm]
  rw [if_neg (by decide), whole_core 58 4 32 4294967296 N E (by decide) (by decide) hs (by decide) (by decide +kernel) (by decide) (by decide) (by decide) (by omega) hE1 hN1 (by omega), Option.bind_some, if_pos rfl, beq_self_eq_true]
end Go.Proofs.YthagjeomcgphiaaDoor.Pure
