/- For all serials a and all b, c, taken within a quarter of the round: the order of three serials is one, a serial and what is half the round away are in no order, and adding goes round; no condition. -/
import Derived.Test.YtpbhjemieikgpaaPSerialWaysx1
namespace Go.Proofs.Ytpbhjemieikgpaa.Pure
open Go.RowKit Go.Proofs.Ytpbhjemieikgpaa.PSerialWays Go.Proofs.YtpbhjemieikgpaaW.PrintWords Go.Proofs.YtpbhjemieikgpaaW.PrintLast

theorem ser_is (a : Int) : serial_isSerial.f a = some (decide (0 ≤ a ∧ a < 4294967296)) := by
  unfold serial_isSerial.f
  by_cases h : a ≥ 0
  · rw [if_pos h]; congr 1; apply decide_eq_decide.2; omega
  · rw [if_neg h]; congr 1; symm; apply decide_eq_false; omega
/-- Is b ahead of a, by less than half the round? -/
def aheadS (a b : Int) : Prop := 0 ≤ a ∧ a < 4294967296 ∧ 0 ≤ b ∧ b < 4294967296 ∧ ((a < b ∧ b - a < 2147483648) ∨ (b < a ∧ a - b > 2147483648))
instance (a b : Int) : Decidable (aheadS a b) := by unfold aheadS; exact inferInstance
theorem ser_less (a b : Int) : serial_Less.f a b = some (decide (aheadS a b)) := by
  unfold serial_Less.f
  rw [ser_is, ser_is]
  simp only [Option.bind_some]
  by_cases ha : 0 ≤ a ∧ a < 4294967296
  · rw [if_pos (decide_eq_true ha)]
    by_cases hb : 0 ≤ b ∧ b < 4294967296
    · rw [if_pos (decide_eq_true hb)]
      congr 1
      apply decide_eq_decide.2
      unfold aheadS wrap32
      omega
    · rw [if_neg (by simpa using hb)]
      congr 1; symm; apply decide_eq_false; unfold aheadS; omega
  · rw [if_neg (by simpa using ha)]
    congr 1; symm; apply decide_eq_false; unfold aheadS; omega
theorem ser_add_ok (a n : Int) (ha : 0 ≤ a ∧ a < 4294967296) (hn : 0 ≤ n ∧ n < 2147483648) : serial_Add.f a n = some ((a + n) % 4294967296, 0) := by
  unfold serial_Add.f
  rw [ser_is]
  simp only [Option.bind_some]
  rw [if_pos (decide_eq_true ha), if_neg (by omega), if_neg (by omega)]
  congr 2
  omega
theorem ser_add_no (a n : Int) (h : ¬ ((0 ≤ a ∧ a < 4294967296) ∧ 0 ≤ n ∧ n < 2147483648)) : serial_Add.f a n = some (0, 1) := by
  unfold serial_Add.f
  rw [ser_is]
  simp only [Option.bind_some]
  by_cases ha : 0 ≤ a ∧ a < 4294967296
  · rw [if_pos (decide_eq_true ha)]
    by_cases h1 : n < 0
    · rw [if_pos h1]
    · rw [if_neg h1, if_pos (by omega)]
  · rw [if_neg (by simpa using ha)]
theorem ser_rounds : rhynelaw20_rounds.f = some true := by
  unfold rhynelaw20_rounds.f
  rw [ser_add_ok 4294967295 2 (by omega) (by omega), ser_less, ser_less, ser_less]
  simp [aheadS]

theorem ways_mod (n m : Int) (hm : 0 < m) (hb : m ≤ 4294967296) : ∃ x, wrap64 (Int.tmod (IntKind.u64.wrap n) m) = x ∧ 0 ≤ x ∧ x < m := by
  have h0 : 0 ≤ IntKind.u64.wrap n := by
    unfold IntKind.wrap; simp [IntKind.signed, IntKind.bits]; omega
  have h1 := Int.emod_nonneg (IntKind.u64.wrap n) (by omega : m ≠ 0)
  have h2 := Int.emod_lt_of_pos (IntKind.u64.wrap n) hm
  rw [Int.tmod_eq_emod_of_nonneg h0]
  refine ⟨_, rfl, ?_, ?_⟩ <;> (unfold wrap64; omega)
theorem ways_core (a b c : Int) (ha : 0 ≤ a ∧ a < 4294967296) (hb : 0 ≤ b ∧ b < 1073741824) (hc : 0 ≤ c ∧ c < 1073741824) :
    rhynelaw20_SerialWays.j0 2 a b c ((a + b) % 4294967296) (((a + b) % 4294967296 + c) % 4294967296) ((a + 2147483647) % 4294967296) (((a + 2147483647) % 4294967296 + 1) % 4294967296) false = some true := by
  have hw : wrap64 (b + c) = b + c := by unfold wrap64; omega
  have e1 : (aheadS a ((a + b) % 4294967296)) ↔ b > 0 := by unfold aheadS; omega
  have e2 : (aheadS ((a + b) % 4294967296) (((a + b) % 4294967296 + c) % 4294967296)) ↔ c > 0 := by unfold aheadS; omega
  have e3 : (aheadS a (((a + b) % 4294967296 + c) % 4294967296)) ↔ b + c > 0 := by unfold aheadS; omega
  have e4 : ¬ (aheadS a (((a + 2147483647) % 4294967296 + 1) % 4294967296)) := by unfold aheadS; omega
  have e5 : ¬ (aheadS (((a + 2147483647) % 4294967296 + 1) % 4294967296) a) := by unfold aheadS; omega
  have e6 : aheadS a ((a + 2147483647) % 4294967296) := by unfold aheadS; omega
  have e7 : ¬ ((((a + 2147483647) % 4294967296 + 1) % 4294967296) = a) := by omega
  simp only [rhynelaw20_SerialWays.j0, rhynelaw20_SerialWays.j1, ser_less, Option.bind_some, hw, decide_eq_decide.2 e1, decide_eq_decide.2 e2, decide_eq_decide.2 e3, decide_eq_false e4, decide_eq_false e5, decide_eq_true e6, bne_self_eq_false, Bool.false_eq_true, if_false, if_neg e7]

theorem SerialWays : rhynelaw20_SerialWays.Pure := by
  intro a0 b0 c0 wa wb wc
  obtain ⟨a, ea, ha0, ha1⟩ := ways_mod a0 4294967296 (by omega) (by omega)
  obtain ⟨b, eb, hb0, hb1⟩ := ways_mod b0 1073741824 (by omega) (by omega)
  obtain ⟨c, ec, hc0, hc1⟩ := ways_mod c0 1073741824 (by omega) (by omega)
  refine ⟨2, ?_⟩
  unfold rhynelaw20_SerialWays.f
  rw [ea, eb, ec]
  have hw : wrap64 (b + c) = b + c := by unfold wrap64; omega
  rw [hw, ser_add_ok a b ⟨ha0, ha1⟩ (by omega), ser_add_ok a (b + c) ⟨ha0, ha1⟩ (by omega), ser_add_ok a 2147483647 ⟨ha0, ha1⟩ (by omega), ser_rounds]
  simp only [Option.bind_some]
  rw [ser_add_ok ((a + b) % 4294967296) c (by omega) (by omega)]
  simp only [Option.bind_some]
  rw [ser_add_ok ((a + 2147483647) % 4294967296) 1 (by omega) (by omega)]
  simp only [Option.bind_some, if_true]
  rw [show ((((a + b) % 4294967296 + c) % 4294967296) != ((a + (b + c)) % 4294967296)) = false from by rw [bne_eq_false_iff_eq]; omega]
  exact ways_core a b c ⟨ha0, ha1⟩ ⟨hb0, hb1⟩ ⟨hc0, hc1⟩

end Go.Proofs.Ytpbhjemieikgpaa.Pure
