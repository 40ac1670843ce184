/- For all numbers n, m and all sizes the program's Put and PutIn tell what the chapter's do, for numbers below 0 that they are too big; no condition. -/
import Derived.Test.YtpbhjemieikgpaaDoorX3
import Derived.Test.YtpbhjemieikgpaaDoorM2
namespace Go.Proofs.YtpbhjemieikgpaaDoor.Pure
open Go.RowKit Go.Proofs.YtpbhjemieikgpaaDoor.X Go.Proofs.YtpbhjemieikgpaaDoorW.PrintWords Go.Proofs.YtpbhjemieikgpaaDoorW.PrintLast Go.Proofs.YtpbhjemieikgpaaDoorW.PrintMore
set_option linter.unusedSimpArgs false
set_option linter.unusedVariables false

theorem wf_u64 {n : Int} (h : (Lit.int .u64 n).wf = true) : 0 ≤ n ∧ n < 18446744073709551616 := by
  simp only [Lit.wf, IntKind.min, IntKind.max, IntKind.signed, IntKind.bits, Bool.and_eq_true, decide_eq_true_eq] at h
  simp at h
  omega
theorem wf_i64 {n : Int} (h : (Lit.int .i64 n).wf = true) : -9223372036854775808 ≤ n ∧ n < 9223372036854775808 := by
  simp only [Lit.wf, IntKind.min, IntKind.max, IntKind.signed, IntKind.bits, Bool.and_eq_true, decide_eq_true_eq] at h
  simp at h
  omega
theorem vlq_counts (k : Nat) : rhynelaw07_counts.f (k + 30) = some true := by
  unfold rhynelaw07_counts.f
  rw [show k + 30 = (k + 6) + 24 from rfl, put_int (k + 6) 15293 (by decide +kernel) (by decide +kernel), show k + 6 + 24 = (k + 10) + 20 from rfl, putin_uint8 (k + 10) 37 2 (by decide +kernel) (by decide +kernel)]
  decide +kernel

theorem VlqPuts : rhynelaw07_VlqPuts.Pure := by
  intro n m size wn wm ws
  obtain ⟨n0, n1⟩ := wf_u64 wn
  obtain ⟨m0, m1⟩ := wf_i64 wm
  refine ⟨40, ?_⟩
  unfold rhynelaw07_VlqPuts.f
  rw [show (40 : Nat) = 16 + 24 from rfl, refput 16 n n0 n1, put_uint64 16 n (by omega) n1, show (16 + 24 : Nat) = 20 + 20 from rfl, refputin 20 n size n0 n1, putin_uint64 20 n size (by omega) n1, show (20 + 20 : Nat) = 10 + 30 from rfl, vlq_counts]
  simp only [Option.bind_some, if_true]
  have hj : rhynelaw07_VlqPuts.j0 (10 + 30) m false = some true := by
    rw [show (10 + 30 : Nat) = 39 + 1 from rfl, rhynelaw07_VlqPuts.j0, if_neg (by decide +kernel), show (39 : Nat) = 15 + 24 from rfl, put_int 15 m m0 (by omega)]
    by_cases h : 0 ≤ m
    · rw [u64_id m h (by omega), refput 15 m h (by omega)]
      simp only [Option.bind_some]
      by_cases hb : m < 4611686018427387904
      · simp only [if_pos (show 0 ≤ m ∧ m < 4611686018427387904 from ⟨h, hb⟩), if_pos hb, if_true]; rfl
      · simp only [if_neg (show ¬ (0 ≤ m ∧ m < 4611686018427387904) from by omega), if_neg hb]; decide +kernel
    · rw [show IntKind.u64.wrap m = m + 18446744073709551616 from by rw [IntKind.wrap_u64]; omega, refput 15 _ (by omega) (by omega)]
      simp only [Option.bind_some, if_neg (show ¬ (0 ≤ m ∧ m < 4611686018427387904) from by omega), if_neg (show ¬ (m + 18446744073709551616 < 4611686018427387904) from by omega)]
      decide +kernel
  have hs : ∀ (A B : ByteArray × Int) (A' B' : List Int × Int), (A.1.toList = (strOfNums A'.1).toList ∧ A.2 = A'.2) → (B.1.toList = (strOfNums B'.1).toList ∧ B.2 = B'.2) →
      (if A.1.toList = (strOfNums A'.1).toList then (if A.2 = A'.2 then (if B.1.toList = (strOfNums B'.1).toList then rhynelaw07_VlqPuts.j0 (10 + 30) m (B.2 != B'.2) else rhynelaw07_VlqPuts.j0 (10 + 30) m true) else rhynelaw07_VlqPuts.j0 (10 + 30) m true) else rhynelaw07_VlqPuts.j0 (10 + 30) m true) = some true := by
    intro A B A' B' ⟨a1, a2⟩ ⟨b1, b2⟩
    rw [if_pos a1, if_pos a2, if_pos b1, b2, bne_self_eq_false]
    exact hj
  apply hs
  · by_cases hb : n < 4611686018427387904
    · rw [if_pos hb, if_pos (show 0 ≤ n ∧ n < 4611686018427387904 from ⟨n0, hb⟩)]; exact ⟨rfl, rfl⟩
    · rw [if_neg hb, if_neg (show ¬ (0 ≤ n ∧ n < 4611686018427387904) from by omega)]; exact ⟨by decide +kernel, rfl⟩
  · by_cases hc : capS size = 0
    · rw [if_pos hc, if_pos hc]; exact ⟨by decide +kernel, rfl⟩
    · rw [if_neg hc, if_neg hc]
      by_cases hf : n < capS size
      · rw [if_pos hf, if_pos (show 0 ≤ n ∧ n < capS size from ⟨n0, hf⟩)]; exact ⟨rfl, rfl⟩
      · rw [if_neg hf, if_neg (show ¬ (0 ≤ n ∧ n < capS size) from by omega)]; exact ⟨by decide +kernel, rfl⟩

end Go.Proofs.YtpbhjemieikgpaaDoor.Pure
