/- Numbers told by their lowest bytes, and the statements' first check, over plain numbers. -/
import Derived.Test.YthagjeomcgphiaaDoorX5
import Derived.Test.YthagjeomcgphiaaDoorM3
namespace Go.Proofs.YthagjeomcgphiaaDoor.Pure
open Go.RowKit Go.Proofs.YthagjeomcgphiaaDoor.X Go.Proofs.YthagjeomcgphiaaDoorW.PrintWords Go.Proofs.YthagjeomcgphiaaDoorW.PrintLast Go.Proofs.YthagjeomcgphiaaDoorW.PrintMore
set_option linter.unusedSimpArgs false
set_option linter.unusedVariables false

theorem nat_clear (i A : Nat) (hi : i ≤ 64) (hA : A < 2 ^ 64) : A &&& (2 ^ 64 - 1 - (2 ^ i - 1)) = A / 2 ^ i * 2 ^ i := by
  have hp : 2 ^ (64 - i) * 2 ^ i = 2 ^ 64 := by rw [← Nat.pow_add, Nat.sub_add_cancel hi]
  have hM : 2 ^ 64 - 1 - (2 ^ i - 1) = (2 ^ (64 - i) - 1) * 2 ^ i := by
    have h1 : 0 < 2 ^ i := Nat.two_pow_pos i
    rw [Nat.sub_mul, hp, Nat.one_mul]; omega
  apply Nat.eq_of_testBit_eq; intro j
  rw [Nat.testBit_and, hM, Nat.testBit_mul_two_pow, Nat.testBit_mul_two_pow, Nat.testBit_two_pow_sub_one, Nat.testBit_div_two_pow]
  by_cases h : i ≤ j
  · rw [decide_eq_true h, Bool.true_and, Bool.true_and, Nat.sub_add_cancel h]
    by_cases h2 : j - i < 64 - i
    · rw [decide_eq_true h2, Bool.and_true]
    · rw [decide_eq_false h2, Bool.and_false]
      symm
      exact Nat.testBit_lt_two_pow (Nat.lt_of_lt_of_le hA (Nat.pow_le_pow_right (by decide) (by omega)))
  · rw [decide_eq_false h]; simp
theorem clear_low (i : Nat) (hi : i ≤ 62) (x : Int) (h0 : 0 ≤ x) (h1 : x < 9223372036854775808) : Go.bits .andNot .i64 x (2 ^ i - 1) = x / 2 ^ i * 2 ^ i := by
  obtain ⟨A, rfl⟩ := Int.eq_ofNat_of_zero_le h0
  have hA : A < 9223372036854775808 := by omega
  have hpos : 0 < 2 ^ i := Nat.two_pow_pos i
  have hle : 2 ^ i ≤ 2 ^ 62 := Nat.pow_le_pow_right (by decide) hi
  have hc : ((2 : Int) ^ i - 1) = ((2 ^ i - 1 : Nat) : Int) := by rw [Int.natCast_sub hpos]; simp
  have hm : 2 ^ i - 1 < 2 ^ 64 := Nat.lt_of_lt_of_le (Nat.sub_lt hpos (by decide)) (Nat.pow_le_pow_right (by decide) (by omega))
  rw [hc]
  show IntKind.i64.wrap ((BitVec.ofInt 64 ((A : Nat) : Int) &&& ~~~BitVec.ofInt 64 ((2 ^ i - 1 : Nat) : Int)).toNat : Int) = _
  rw [BitVec.toNat_and, BitVec.toNat_not, BitVec.ofInt_natCast, BitVec.ofInt_natCast, BitVec.toNat_ofNat, BitVec.toNat_ofNat, Nat.mod_eq_of_lt (Nat.lt_of_lt_of_le hA (by decide)), Nat.mod_eq_of_lt hm, nat_clear i A (by omega) (Nat.lt_of_lt_of_le hA (by decide)), IntKind.wrap_i64]
  have hle2 : A / 2 ^ i * 2 ^ i ≤ A := Nat.div_mul_le_self A (2 ^ i)
  have hcast : ((A / 2 ^ i * 2 ^ i : Nat) : Int) = (A : Int) / 2 ^ i * 2 ^ i := by simp
  rw [← hcast]
  omega
theorem wraps_i64 (n : Int) (h0 : 0 ≤ n) (h1 : n < 2 ^ 63) : IntKind.i64.wrap n = n := by rw [IntKind.wrap_i64]; omega
theorem whole_core (k : Nat) (s : Int) (i : Nat) (w N E : Int) (hw : w = 2 ^ i) (hi : i ≤ 62) (hs : shl .i64 1 (wrap64 (8 * s)) = w) (hs1 : 1 ≤ s ∧ s ≤ 4) (hw8 : 0 ≤ wrap64 (8 * s))
    (hw0 : 256 ≤ w) (hw1 : w ≤ 4294967296) (h2 : w % 2 = 0) (hE : 0 ≤ E) (hEN : E ≤ N) (hN : N ≤ 4611686018427387903) (hd : N - E < w / 2) : packet_Whole.f (k + 2) (N % w) s E = some (N, 0) := by
  have hr0 : 0 ≤ N % w := Int.emod_nonneg _ (by omega)
  have hr1 : N % w < w := Int.emod_lt_of_pos _ (by omega)
  have hww : wrap64 (w - 1) = w - 1 := by unfold wrap64; omega
  have hmul : E / w * w ≤ E := by have := Int.emod_add_mul_ediv E w; have := Int.emod_nonneg E (show w ≠ 0 by omega); rw [Int.mul_comm]; omega
  have hmul0 : 0 ≤ E / w * w := Int.mul_nonneg (Int.ediv_nonneg hE (by omega)) (by omega)
  have hn : Go.bits .or .i64 (Go.bits .andNot .i64 E (wrap64 (w - 1))) (N % w) = E / w * w + N % w := by
    rw [hww]
    have h1 := clear_low i hi E hE (by omega)
    rw [← hw] at h1
    rw [h1]
    refine bits_join .i64 63 (by decide) wraps_i64 i _ _ hmul0 (by rw [← hw]; exact Int.mul_emod_left _ _) (by simp; omega) hr0 (by rw [← hw]; exact hr1) (by simp; omega)
  have hq1 : E / w ≤ N / w := Int.ediv_le_ediv (by omega) hEN
  have hq2 : N / w ≤ E / w + 1 := by
    have h := Int.ediv_le_ediv (show 0 < w by omega) (show N ≤ E + 1 * w by omega)
    rwa [Int.add_mul_ediv_right _ _ (show w ≠ 0 by omega)] at h
  have hNq : N / w * w + N % w = N := by have := Int.emod_add_mul_ediv N w; rw [Int.mul_comm]; omega
  have ht : wrap64 (Int.tdiv w 2) = w / 2 := by rw [Int.tdiv_eq_ediv_of_nonneg (by omega)]; unfold wrap64; omega
  have hv1 : wrap64 (E - w / 2) = E - w / 2 := by unfold wrap64; omega
  have hv2 : wrap64 (4611686018427387903 - w) = 4611686018427387903 - w := by unfold wrap64; omega
  have hv3 : wrap64 (E + w / 2) = E + w / 2 := by unfold wrap64; omega
  unfold packet_Whole.f
  rw [within_f, decide_eq_true hs1, Option.bind_some, if_pos rfl, if_pos hw8, hs, within_f, decide_eq_true (show 0 ≤ N % w ∧ N % w ≤ wrap64 (w - 1) by rw [hww]; omega), Option.bind_some, if_pos rfl, within_f, decide_eq_true (show 0 ≤ E ∧ E ≤ 4611686018427387903 by omega), Option.bind_some]
  rw [show k + 2 = (k + 1) + 1 from rfl, packet_Whole.j0, if_neg (by decide), if_pos hw8, hs, hn, ht, hv1, hv2]
  have hcase : N / w = E / w ∨ N / w = E / w + 1 := by omega
  rcases hcase with hc | hc
  · have hx : E / w * w + N % w = N := by rw [← hc]; exact hNq
    rw [hx, if_neg (by omega), packet_Whole.j1, if_neg (by decide), ht, hv3, if_neg (by omega)]
  · have hx : E / w * w + N % w = N - w := by rw [hc, Int.add_mul] at hNq; omega
    rw [hx, if_pos (by omega), packet_Whole.j1, if_pos (decide_eq_true (by omega)), show wrap64 (N - w + w) = N from by unfold wrap64; omega]
theorem heads_f (k : Nat) : rhynelaw08_heads.f (k + 60) = some true := by
  have hw : packet_Whole.f ((k + 58) + 2) 39730 2 2821665003 = some (2821692210, 0) := whole_core (k + 58) 2 16 65536 2821692210 2821665003 (by decide) (by decide) (by decide +kernel) (by decide) (by decide +kernel) (by decide) (by decide) (by decide) (by decide) (by decide) (by decide) (by decide)
  unfold rhynelaw08_heads.f
  rw [put_put 4 0 _ _ _ 0 258 1 false [] k (by decide +kernel), Option.bind_some, show k + 60 = (k + 58) + 2 from rfl, hw, Option.bind_some]
  decide +kernel
theorem sum_ones (l : List Int) : (l.map fun _ => 1).sum = l.length := by
  induction l with
  | nil => rfl
  | cons x l ih => simp [ih]; omega
end Go.Proofs.YthagjeomcgphiaaDoor.Pure
