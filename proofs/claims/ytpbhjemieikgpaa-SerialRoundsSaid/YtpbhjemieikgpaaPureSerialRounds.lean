/- For all numbers a, b and n the program's Less and Add tell what the chapter's DocLess and DocAdd do, and what is further by less than half the round comes behind; no condition. -/
import Derived.Test.YtpbhjemieikgpaaPSerialRoundsx1
namespace Go.Proofs.Ytpbhjemieikgpaa.Pure
open Go.RowKit Go.Proofs.Ytpbhjemieikgpaa.PSerialRounds Go.Proofs.YtpbhjemieikgpaaW.PrintWords Go.Proofs.YtpbhjemieikgpaaW.PrintLast

theorem ser_is (a : Int) : serial_isSerial.f a = some (decide (0 ≤ a ∧ a < 4294967296)) := by
  unfold serial_isSerial.f
  by_cases h : a ≥ 0
  · rw [if_pos h]; congr 1; apply decide_eq_decide.2; omega
  · rw [if_neg h]; congr 1; symm; apply decide_eq_false; omega
theorem ser_right (a : Int) : rhyneref20_Right.f a = some (decide (0 ≤ a ∧ a < 4294967296)) := by
  unfold rhyneref20_Right.f
  by_cases h : a ≥ 0
  · rw [if_pos h]; congr 1; apply decide_eq_decide.2; omega
  · rw [if_neg h]; congr 1; symm; apply decide_eq_false; omega
/-- Is b ahead of a, by less than half the round? -/
def aheadS (a b : Int) : Prop := 0 ≤ a ∧ a < 4294967296 ∧ 0 ≤ b ∧ b < 4294967296 ∧ ((a < b ∧ b - a < 2147483648) ∨ (b < a ∧ a - b > 2147483648))
instance (a b : Int) : Decidable (aheadS a b) := by unfold aheadS; exact inferInstance
theorem ser_less (a b : Int) : serial_Less.f a b = some (decide (aheadS a b)) := by
  unfold serial_Less.f
  rw [ser_is, ser_is]
  simp only [Option.bind_some]
  by_cases ha : 0 ≤ a ∧ a < 4294967296
  · rw [if_pos (decide_eq_true ha)]
    by_cases hb : 0 ≤ b ∧ b < 4294967296
    · rw [if_pos (decide_eq_true hb)]
      congr 1
      apply decide_eq_decide.2
      unfold aheadS wrap32
      omega
    · rw [if_neg (by simpa using hb)]
      congr 1; symm; apply decide_eq_false; unfold aheadS; omega
  · rw [if_neg (by simpa using ha)]
    congr 1; symm; apply decide_eq_false; unfold aheadS; omega
theorem ser_doc (k : Nat) (a b : Int) : rhyneref20_DocLess.f (k + 1) a b = some (decide (aheadS a b)) := by
  unfold rhyneref20_DocLess.f
  rw [ser_right, ser_right]
  simp only [Option.bind_some]
  by_cases ha : 0 ≤ a ∧ a < 4294967296
  · rw [if_pos (decide_eq_true ha)]
    by_cases hb : 0 ≤ b ∧ b < 4294967296
    · rw [if_pos (decide_eq_true hb)]
      simp only [rhyneref20_DocLess.j0]
      by_cases he : a = b
      · rw [if_pos (by simpa using he)]
        congr 1; symm; apply decide_eq_false; unfold aheadS; omega
      · rw [if_neg (by simpa using he)]
        by_cases hl : a < b
        · rw [if_pos hl]; congr 1; apply decide_eq_decide.2; unfold aheadS wrap64; omega
        · rw [if_neg hl]; congr 1; apply decide_eq_decide.2; unfold aheadS wrap64; omega
    · rw [if_neg (by simpa using hb)]
      simp only [rhyneref20_DocLess.j0, if_true]
      congr 1; symm; apply decide_eq_false; unfold aheadS; omega
  · rw [if_neg (by simpa using ha)]
    simp only [rhyneref20_DocLess.j0, if_true]
    congr 1; symm; apply decide_eq_false; unfold aheadS; omega
theorem ser_add_ok (a n : Int) (ha : 0 ≤ a ∧ a < 4294967296) (hn : 0 ≤ n ∧ n < 2147483648) : serial_Add.f a n = some ((a + n) % 4294967296, 0) := by
  unfold serial_Add.f
  rw [ser_is]
  simp only [Option.bind_some]
  rw [if_pos (decide_eq_true ha), if_neg (by omega), if_neg (by omega)]
  congr 2
  omega
theorem ser_add_no (a n : Int) (h : ¬ ((0 ≤ a ∧ a < 4294967296) ∧ 0 ≤ n ∧ n < 2147483648)) : serial_Add.f a n = some (0, 1) := by
  unfold serial_Add.f
  rw [ser_is]
  simp only [Option.bind_some]
  by_cases ha : 0 ≤ a ∧ a < 4294967296
  · rw [if_pos (decide_eq_true ha)]
    by_cases h1 : n < 0
    · rw [if_pos h1]
    · rw [if_neg h1, if_pos (by omega)]
  · rw [if_neg (by simpa using ha)]
theorem ser_docadd (a n : Int) : rhyneref20_DocAdd.f a n = serial_Add.f a n := by
  by_cases h : (0 ≤ a ∧ a < 4294967296) ∧ 0 ≤ n ∧ n < 2147483648
  · rw [ser_add_ok a n h.1 h.2]
    unfold rhyneref20_DocAdd.f
    rw [ser_right]
    simp only [Option.bind_some]
    rw [if_pos (decide_eq_true h.1), if_neg (by omega), if_neg (by omega)]
    congr 2
    rw [show wrap64 (a + n) = a + n from by unfold wrap64; omega, Int.tmod_eq_emod_of_nonneg (by omega)]
  · rw [ser_add_no a n h]
    unfold rhyneref20_DocAdd.f
    rw [ser_right]
    simp only [Option.bind_some]
    by_cases ha : 0 ≤ a ∧ a < 4294967296
    · rw [if_pos (decide_eq_true ha)]
      by_cases h1 : n < 0
      · rw [if_pos h1]
      · rw [if_neg h1, if_pos (by omega)]
    · rw [if_neg (by simpa using ha)]
theorem ser_rounds : rhynelaw20_rounds.f = some true := by
  unfold rhynelaw20_rounds.f
  rw [ser_add_ok 4294967295 2 (by omega) (by omega), ser_less, ser_less, ser_less]
  simp [aheadS]

theorem SerialRounds : rhynelaw20_SerialRounds.Pure := by
  intro a b n _ _ _
  refine ⟨1, ?_⟩
  unfold rhynelaw20_SerialRounds.f
  rw [ser_docadd a n, ser_rounds, ser_less, ser_doc 0 a b]
  by_cases h : (0 ≤ a ∧ a < 4294967296) ∧ 0 ≤ n ∧ n < 2147483648
  · rw [ser_add_ok a n h.1 h.2]
    simp only [Option.bind_some, if_true, bne_self_eq_false, Bool.false_eq_true, if_false, rhynelaw20_SerialRounds.j0]
    by_cases h0 : n = 0
    · rw [if_pos h0]
    · rw [if_neg h0, ser_less, ser_less]
      simp only [Option.bind_some]
      rw [if_pos (decide_eq_true (by unfold aheadS; omega))]
      congr 1
      rw [decide_eq_false (by unfold aheadS; omega)]; rfl
  · rw [ser_add_no a n h]
    simp [rhynelaw20_SerialRounds.j0]

end Go.Proofs.Ytpbhjemieikgpaa.Pure
