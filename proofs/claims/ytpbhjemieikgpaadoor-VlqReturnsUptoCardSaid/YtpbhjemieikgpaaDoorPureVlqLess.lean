/- For all numbers a, b (taken below 2^62): a lesser number hasn't more bytes, of one count of bytes the lesser number's come first, byte by byte, and in more bytes it is the same number; no condition. -/
import Derived.Test.YtpbhjemieikgpaaDoorX6
import Derived.Test.YtpbhjemieikgpaaDoorM4
import Derived.Test.YtpbhjemieikgpaaDoorPureVlqPuts
namespace Go.Proofs.YtpbhjemieikgpaaDoor.Pure
open Go.RowKit Go.Proofs.YtpbhjemieikgpaaDoor.X Go.Proofs.YtpbhjemieikgpaaDoorW.PrintWords Go.Proofs.YtpbhjemieikgpaaDoorW.PrintLast Go.Proofs.YtpbhjemieikgpaaDoorW.PrintMore
set_option linter.unusedSimpArgs false
set_option linter.unusedVariables false

theorem numL_enc (n size : Int) (h0 : 0 ≤ n) (h : n < capS size) : numL (encS n size) = n + (if size = 1 then 0 else if size = 2 then 16384 else if size = 4 then 2147483648 else 13835058055282163712) := by
  rcases cap_cases size with hs | ⟨hc, _⟩
  · rcases hs with rfl | rfl | rfl | rfl
    · simp [numL, valS, encS]
    · have hb : n < 16384 := by simpa [capS] using h
      simp [numL, valS, encS]; omega
    · have hb : n < 1073741824 := by simpa [capS] using h
      simp [numL, valS, encS]; omega
    · have hb : n < 4611686018427387904 := by simpa [capS] using h
      simp [numL, valS, encS]; omega
  · omega
/-- The least size. -/
def szS (n : Int) : Int := if n < 64 then 1 else if n < 16384 then 2 else if n < 1073741824 then 4 else 8
theorem szS_spec (n : Int) (h : n < 4611686018427387904) : (szS n = 1 ∧ n < 64) ∨ (szS n = 2 ∧ 64 ≤ n ∧ n < 16384) ∨ (szS n = 4 ∧ 16384 ≤ n ∧ n < 1073741824) ∨ (szS n = 8 ∧ 1073741824 ≤ n) := by
  unfold szS
  by_cases h1 : n < 64
  · rw [if_pos h1]; omega
  · by_cases h2 : n < 16384
    · rw [if_neg h1, if_pos h2]; omega
    · by_cases h4 : n < 1073741824
      · rw [if_neg h1, if_neg h2, if_pos h4]; omega
      · rw [if_neg h1, if_neg h2, if_neg h4]; omega
theorem szS_cap (n : Int) (h : n < 4611686018427387904) : n < capS (szS n) := by
  rcases szS_spec n h with ⟨e, _⟩ | ⟨e, _⟩ | ⟨e, _⟩ | ⟨e, _⟩ <;> rw [e] <;> simp [capS] <;> omega
theorem less_round (k : Nat) (a s : Int) (h0 : 0 ≤ a) (hs : s = 1 ∨ s = 2 ∨ s = 4 ∨ s = 8) (h : a < capS s) : rhynelaw07_VlqLess.l0 (k + 30 + 1) a s = rhynelaw07_VlqLess.l0 (k + 30) a (s * 2) := by
  have hcap : capS s ≤ 4611686018427387904 := by rcases hs with rfl | rfl | rfl | rfl <;> decide +kernel
  have hc0 : capS s ≠ 0 := by rcases hs with rfl | rfl | rfl | rfl <;> decide +kernel
  rw [rhynelaw07_VlqLess.l0, if_pos (by omega), show k + 30 = (k + 10) + 20 from rfl, putin_uint64 (k + 10) a s (by omega) (by omega), if_neg hc0, if_pos ⟨h0, h⟩]
  simp only [Option.bind_some]
  rw [show k + 10 + 20 = (k + 20) + 10 from rfl, vlqget (k + 20) _ (encS_bytes a s h0 h)]
  have e := getS_enc a s [] h0 h
  rw [List.append_nil] at e
  rw [e]
  simp only [Option.bind_some, if_true]
  rw [show wrap64 (s * 2) = s * 2 from by unfold wrap64; omega]
theorem less_loop (k : Nat) (a s : Int) (h0 : 0 ≤ a) (hs : s = 1 ∨ s = 2 ∨ s = 4 ∨ s = 8) (h : a < capS s) : rhynelaw07_VlqLess.l0 (k + 35) a s = some true := by
  have stop : ∀ m : Nat, rhynelaw07_VlqLess.l0 (m + 1) a 16 = some true := by
    intro m; rw [rhynelaw07_VlqLess.l0, if_neg (by decide +kernel)]
  have r8 : ∀ m : Nat, a < 4611686018427387904 → rhynelaw07_VlqLess.l0 (m + 32) a 8 = some true := by
    intro m hb
    rw [show m + 32 = (m + 1) + 30 + 1 from by omega, less_round (m + 1) a 8 h0 (by decide +kernel) (by simpa [capS] using hb)]
    exact stop _
  have r4 : ∀ m : Nat, a < 1073741824 → rhynelaw07_VlqLess.l0 (m + 33) a 4 = some true := by
    intro m hb
    rw [show m + 33 = (m + 2) + 30 + 1 from by omega, less_round (m + 2) a 4 h0 (by decide +kernel) (by simpa [capS] using hb)]
    exact r8 m (by omega)
  have r2 : ∀ m : Nat, a < 16384 → rhynelaw07_VlqLess.l0 (m + 34) a 2 = some true := by
    intro m hb
    rw [show m + 34 = (m + 3) + 30 + 1 from by omega, less_round (m + 3) a 2 h0 (by decide +kernel) (by simpa [capS] using hb)]
    exact r4 m (by omega)
  rcases hs with rfl | rfl | rfl | rfl
  · have hb : a < 64 := by simpa [capS] using h
    rw [show k + 35 = (k + 4) + 30 + 1 from by omega, less_round (k + 4) a 1 h0 (by decide +kernel) h]
    exact r2 k (by omega)
  · exact r2 (k + 1) (by simpa [capS] using h)
  · exact r4 (k + 2) (by simpa [capS] using h)
  · exact r8 (k + 3) (by simpa [capS] using h)

theorem VlqLess : rhynelaw07_VlqLess.Pure := by
  intro a0 b0 wa wb
  obtain ⟨a00, a01⟩ := wf_u64 wa
  obtain ⟨b00, b01⟩ := wf_u64 wb
  refine ⟨60, ?_⟩
  unfold rhynelaw07_VlqLess.f
  rw [Int.tmod_eq_emod_of_nonneg a00, Int.tmod_eq_emod_of_nonneg b00]
  obtain ⟨a, ea⟩ : ∃ a, a0 % 4611686018427387904 = a := ⟨_, rfl⟩
  obtain ⟨b, eb⟩ : ∃ b, b0 % 4611686018427387904 = b := ⟨_, rfl⟩
  have ha : 0 ≤ a ∧ a < 4611686018427387904 := by omega
  have hb : 0 ≤ b ∧ b < 4611686018427387904 := by omega
  rw [ea, eb]
  clear ea eb a00 a01 b00 b01 wa wb
  rw [show (60 : Nat) = 36 + 24 from rfl, put_uint64 36 a (by omega) (by omega), put_uint64 36 b (by omega) (by omega), show (36 + 24 : Nat) = 30 + 30 from rfl, vlq_counts, if_pos ha, if_pos hb]
  simp only [Option.bind_some, if_true]
  rw [show (if a < 64 then (1 : Int) else if a < 16384 then 2 else if a < 1073741824 then 4 else 8) = szS a from rfl, show (if b < 64 then (1 : Int) else if b < 16384 then 2 else if b < 1073741824 then 4 else 8) = szS b from rfl]
  have ca := szS_cap a ha.2
  have cb := szS_cap b hb.2
  have sa : szS a = 1 ∨ szS a = 2 ∨ szS a = 4 ∨ szS a = 8 := by rcases szS_spec a ha.2 with h | h | h | h <;> omega
  have sb : szS b = 1 ∨ szS b = 2 ∨ szS b = 4 ∨ szS b = 8 := by rcases szS_spec b hb.2 with h | h | h | h <;> omega
  have la := encS_length a (szS a) sa
  have lb := encS_length b (szS b) sb
  have fin : rhynelaw07_VlqLess.j0 (30 + 30) a (encS a (szS a)) false = some true := by
    rw [show (30 + 30 : Nat) = 24 + 35 + 1 from rfl, rhynelaw07_VlqLess.j0, if_neg (by decide +kernel), la]
    exact less_loop 24 a (szS a) ha.1 sa ca
  rw [la, lb]
  have same : szS a = szS b → (decide (a < b) != Op.bytesLess (strOfNums (encS a (szS a))).toList (strOfNums (encS b (szS b))).toList) = false := by
    intro e
    rw [less_num _ _ (encS_bytes _ _ ha.1 ca) (encS_bytes _ _ hb.1 cb) (by omega), numL_enc _ _ ha.1 ca, numL_enc _ _ hb.1 cb, e, bne_eq_false_iff_eq]
    exact decide_eq_decide.2 (by omega)
  have mono : a < b → szS a ≤ szS b := by
    intro h
    rcases szS_spec a ha.2 with h1 | h1 | h1 | h1 <;> rcases szS_spec b hb.2 with h2 | h2 | h2 | h2 <;> omega
  by_cases h : a < b
  · rw [if_pos h, if_neg (by have := mono h; omega)]
    by_cases e : szS a = szS b
    · rw [if_pos e, same e]; exact fin
    · rw [if_neg e]; exact fin
  · rw [if_neg h]
    by_cases e : szS a = szS b
    · rw [if_pos e, same e]; exact fin
    · rw [if_neg e]; exact fin

end Go.Proofs.YtpbhjemieikgpaaDoor.Pure
