/- For all bytes n and all 32-bit numbers m one number of any kind has the same bytes, or is too big when below 0; no condition. -/
import Derived.Test.YtpbhjemieikgpaaDoorPureVlqPuts
namespace Go.Proofs.YtpbhjemieikgpaaDoor.Pure
open Go.RowKit Go.Proofs.YtpbhjemieikgpaaDoor.X Go.Proofs.YtpbhjemieikgpaaDoorW.PrintWords Go.Proofs.YtpbhjemieikgpaaDoorW.PrintLast Go.Proofs.YtpbhjemieikgpaaDoorW.PrintMore
set_option linter.unusedSimpArgs false
set_option linter.unusedVariables false

theorem VlqKinds : rhynelaw07_VlqKinds.Pure := by
  intro n m wn wm
  obtain ⟨n0, n1⟩ : 0 ≤ n ∧ n < 256 := by
    simp only [Lit.wf, IntKind.min, IntKind.max, IntKind.signed, IntKind.bits, Bool.and_eq_true, decide_eq_true_eq] at wn
    simp at wn
    omega
  obtain ⟨m0, m1⟩ : -2147483648 ≤ m ∧ m < 2147483648 := by
    simp only [Lit.wf, IntKind.min, IntKind.max, IntKind.signed, IntKind.bits, Bool.and_eq_true, decide_eq_true_eq] at wm
    simp at wm
    omega
  refine ⟨40, ?_⟩
  unfold rhynelaw07_VlqKinds.f
  rw [show wrap64 n = n from by unfold wrap64; omega, u64_id n n0 (by omega), show (40 : Nat) = 16 + 24 from rfl, put_uint8 16 n (by omega) (by omega), put_int 16 n (by omega) (by omega), put_uint64 16 n (by omega) (by omega), show (16 + 24 : Nat) = 10 + 30 from rfl, vlq_counts]
  simp only [Option.bind_some, if_true]
  simp only [if_pos (show 0 ≤ n ∧ n < 4611686018427387904 from ⟨n0, by omega⟩), if_true, bne_self_eq_false]
  rw [show (10 + 30 : Nat) = 39 + 1 from rfl, rhynelaw07_VlqKinds.j0, if_neg (by decide +kernel), show wrap64 m = m from by unfold wrap64; omega, show (39 : Nat) = 15 + 24 from rfl, put_int32 15 m (by omega) (by omega), put_ticks 15 m (by omega) (by omega), put_int64 15 m (by omega) (by omega)]
  simp only [Option.bind_some]
  by_cases h : 0 ≤ m
  · simp only [if_pos (show 0 ≤ m ∧ m < 4611686018427387904 from ⟨h, by omega⟩), if_true, decide_eq_false (show ¬ m < 0 from by omega), decide_eq_true (show m ≥ 0 from h)]
    decide +kernel
  · simp only [if_neg (show ¬ (0 ≤ m ∧ m < 4611686018427387904) from by omega), if_true, decide_eq_true (show m < 0 from by omega), decide_eq_false (show ¬ m ≥ 0 from h)]
    decide +kernel

end Go.Proofs.YtpbhjemieikgpaaDoor.Pure
