/- What the chapter's ways to put a number into bytes come to, over plain numbers and lists. -/
import Derived.Test.YtpbhjemieikgpaaDoorM1
namespace Go.Proofs.YtpbhjemieikgpaaDoor.Pure
open Go.RowKit Go.Proofs.YtpbhjemieikgpaaDoor.X Go.Proofs.YtpbhjemieikgpaaDoorW.PrintWords Go.Proofs.YtpbhjemieikgpaaDoorW.PrintLast Go.Proofs.YtpbhjemieikgpaaDoorW.PrintMore
set_option linter.unusedSimpArgs false
set_option linter.unusedVariables false

theorem most_ref (size : Int) : rhyneref07_Most.f size = some (capS size) := by
  unfold rhyneref07_Most.f capS
  by_cases h1 : size = 1
  · rw [if_pos h1, if_pos h1]
  by_cases h2 : size = 2
  · rw [if_neg h1, if_pos h2, if_neg h1, if_pos h2]
  by_cases h4 : size = 4
  · rw [if_neg h1, if_neg h2, if_pos h4, if_neg h1, if_neg h2, if_pos h4]
  by_cases h8 : size = 8
  · rw [if_neg h1, if_neg h2, if_neg h4, if_pos h8, if_neg h1, if_neg h2, if_neg h4, if_pos h8]
  rw [if_neg h1, if_neg h2, if_neg h4, if_neg h8, if_neg h1, if_neg h2, if_neg h4, if_neg h8]

theorem refloop (size : Int) (j : Nat) : ∀ (k : Nat) (x : Int) (l : List Int), j ≤ l.length → l.length ≤ 8 → 0 ≤ x → x < 18446744073709551616 →
    rhyneref07_PutIn.l0 (k + j + 1) x size l ((j : Int) - 1) = rhyneref07_PutIn.l1 k size ((List.range j).map (fun i => x / 256 ^ (j - 1 - i) % 256) ++ l.drop j) 0 := by
  induction j with
  | zero => intro k x l _ _ _ _; rw [rhyneref07_PutIn.l0, if_neg (by omega)]; simp
  | succ j ih =>
    intro k x l hj hl h0 h1
    rw [show k + (j + 1) + 1 = (k + j + 1) + 1 from by omega, rhyneref07_PutIn.l0, if_pos (by omega), if_pos (by omega), if_pos (by omega)]
    rw [show wrap64 (((j + 1 : Nat) : Int) - 1 - 1) = (j : Int) - 1 from by unfold wrap64; omega, Int.tdiv_eq_ediv_of_nonneg h0, Int.tmod_eq_emod_of_nonneg h0, u64_id _ (by omega) (by omega)]
    rw [show (((j + 1 : Nat) : Int) - 1).toNat = j from by omega, ih k (x / 256) (l.set j (x % 256 % 256)) (by simp; omega) (by simpa using hl) (by omega) (by omega)]
    congr 1
    rw [List.range_succ, List.map_append, List.append_assoc]
    congr 1
    · apply List.map_congr_left
      intro i hi
      have hi := List.mem_range.1 hi
      rw [Int.ediv_ediv_of_nonneg (by decide +kernel), show j + 1 - 1 - i = (j - 1 - i) + 1 from by omega, Int.pow_succ, Int.mul_comm]
    · rw [List.drop_set, if_neg (Nat.lt_irrefl j)]
      have hd : l.drop j = l[j] :: l.drop (j + 1) := List.drop_eq_getElem_cons (by omega)
      rw [Nat.sub_self, hd, List.set_cons_zero, Int.emod_emod_of_dvd _ (by decide +kernel)]
      simp only [List.map_cons, List.map_nil, List.cons_append, List.nil_append, show j + 1 - 1 - j = 0 from by omega, Int.pow_zero, Int.ediv_one]
theorem refloop1 (k : Nat) (size : Int) (l : List Int) (hl : 0 < l.length) (hs : size = 1 ∨ size = 2 ∨ size = 4 ∨ size = 8) :
    rhyneref07_PutIn.l1 (k + 4) size l 0 = some (strOfNums (l.set 0 ((rd l 0 + (if size = 1 then 0 else if size = 2 then 64 else if size = 4 then 128 else 192)) % 256)), 0) := by
  have s0 : shl .i64 1 0 = 1 := by decide +kernel
  have s1 : shl .i64 1 1 = 2 := by decide +kernel
  have s2 : shl .i64 1 2 = 4 := by decide +kernel
  have s3 : shl .i64 1 3 = 8 := by decide +kernel
  have w0 : wrap64 (0 + 1) = 1 := by decide +kernel
  have w1 : wrap64 (1 + 1) = 2 := by decide +kernel
  have w2 : wrap64 (2 + 1) = 3 := by decide +kernel
  have v0 : wrap64 (64 * 0) % 256 = 0 := by decide +kernel
  have v1 : wrap64 (64 * 1) % 256 = 64 := by decide +kernel
  have v2 : wrap64 (64 * 2) % 256 = 128 := by decide +kernel
  have v3 : wrap64 (64 * 3) % 256 = 192 := by decide +kernel
  have hl' : (0 : Int) < (l.length : Int) := by omega
  rcases hs with rfl | rfl | rfl | rfl
  · rw [rhyneref07_PutIn.l1, if_pos (by decide +kernel), s0, if_neg (by decide +kernel), if_pos hl', v0]; rfl
  · rw [rhyneref07_PutIn.l1, if_pos (by decide +kernel), s0, if_pos (by decide +kernel), w0, rhyneref07_PutIn.l1, if_pos (by decide +kernel), s1, if_neg (by decide +kernel), if_pos hl', v1]; rfl
  · rw [rhyneref07_PutIn.l1, if_pos (by decide +kernel), s0, if_pos (by decide +kernel), w0, rhyneref07_PutIn.l1, if_pos (by decide +kernel), s1, if_pos (by decide +kernel), w1, rhyneref07_PutIn.l1, if_pos (by decide +kernel), s2, if_neg (by decide +kernel), if_pos hl', v2]; rfl
  · rw [rhyneref07_PutIn.l1, if_pos (by decide +kernel), s0, if_pos (by decide +kernel), w0, rhyneref07_PutIn.l1, if_pos (by decide +kernel), s1, if_pos (by decide +kernel), w1, rhyneref07_PutIn.l1, if_pos (by decide +kernel), s2, if_pos (by decide +kernel), w2, rhyneref07_PutIn.l1, if_pos (by decide +kernel), s3, if_neg (by decide +kernel), if_pos hl', v3]; rfl
theorem refputin (k : Nat) (n size : Int) (h0 : 0 ≤ n) (hn : n < 18446744073709551616) :
    rhyneref07_PutIn.f (k + 20) n size = some (if capS size = 0 then (⟨#[]⟩, 1) else if n < capS size then (strOfNums (encS n size), 0) else (⟨#[]⟩, 5)) := by
  unfold rhyneref07_PutIn.f
  rw [most_ref]
  simp only [Option.bind_some]
  rcases cap_cases size with hs | ⟨hc, _⟩
  · have hcap : capS size ≠ 0 := by rcases hs with rfl | rfl | rfl | rfl <;> decide +kernel
    rw [if_neg hcap, if_neg hcap]
    by_cases hf : n < capS size
    · rw [if_neg (by omega), if_pos hf, if_pos (by omega), if_pos (by omega)]
      rcases hs with rfl | rfl | rfl | rfl
      · rw [show wrap64 (1 - 1) = ((1 : Nat) : Int) - 1 from by decide +kernel, show k + 20 = (k + 14 + 4) + 1 + 1 from rfl, refloop 1 1 _ n _ (by decide +kernel) (by decide +kernel) h0 hn, refloop1 _ 1 _ (by simp [List.range_succ]) (by decide +kernel)]
        have hb : n < 64 := by simpa [capS] using hf
        congr 3
        simp [List.range_succ, encS, rd]; omega
      · rw [show wrap64 (2 - 1) = ((2 : Nat) : Int) - 1 from by decide +kernel, show k + 20 = (k + 13 + 4) + 2 + 1 from rfl, refloop 2 2 _ n _ (by decide +kernel) (by decide +kernel) h0 hn, refloop1 _ 2 _ (by simp [List.range_succ]) (by decide +kernel)]
        have hb : n < 16384 := by simpa [capS] using hf
        congr 3
        simp [List.range_succ, encS, rd]; omega
      · rw [show wrap64 (4 - 1) = ((4 : Nat) : Int) - 1 from by decide +kernel, show k + 20 = (k + 11 + 4) + 4 + 1 from rfl, refloop 4 4 _ n _ (by decide +kernel) (by decide +kernel) h0 hn, refloop1 _ 4 _ (by simp [List.range_succ]) (by decide +kernel)]
        have hb : n < 1073741824 := by simpa [capS] using hf
        congr 3
        simp [List.range_succ, encS, rd]; omega
      · rw [show wrap64 (8 - 1) = ((8 : Nat) : Int) - 1 from by decide +kernel, show k + 20 = (k + 7 + 4) + 8 + 1 from rfl, refloop 8 8 _ n _ (by decide +kernel) (by decide +kernel) h0 hn, refloop1 _ 8 _ (by simp [List.range_succ]) (by decide +kernel)]
        have hb : n < 4611686018427387904 := by simpa [capS] using hf
        congr 3
        simp [List.range_succ, encS, rd]; omega
    · rw [if_pos (by omega), if_neg hf]
  · rw [if_pos hc, if_pos hc]
theorem refput (k : Nat) (n : Int) (h0 : 0 ≤ n) (hn : n < 18446744073709551616) :
    rhyneref07_Put.f (k + 24) n = some (if n < 4611686018427387904 then (strOfNums (encS n (if n < 64 then 1 else if n < 16384 then 2 else if n < 1073741824 then 4 else 8)), 0) else (⟨#[]⟩, 5)) := by
  unfold rhyneref07_Put.f
  have round : ∀ (j : Nat) (size : Int), size = 1 ∨ size = 2 ∨ size = 4 ∨ size = 8 → rhyneref07_Put.l0 (k + 20 + j + 1) n size = if n < capS size then some (strOfNums (encS n size), 0) else rhyneref07_Put.l0 (k + 20 + j) n (size * 2) := by
    intro j size hs
    have hcap : capS size ≠ 0 := by rcases hs with rfl | rfl | rfl | rfl <;> decide +kernel
    rw [rhyneref07_Put.l0, if_pos (by omega), show k + 20 + j = (k + j) + 20 from by omega, refputin (k + j) n size h0 hn, if_neg hcap]
    simp only [Option.bind_some]
    rw [show wrap64 (size * 2) = size * 2 from by unfold wrap64; omega]
    by_cases hf : n < capS size
    · simp only [if_pos hf, if_true]
    · simp only [if_neg hf]
      rw [if_neg (by decide +kernel)]
  rw [show k + 24 = k + 20 + 3 + 1 from rfl, round 3 1 (by decide +kernel), show k + 20 + 3 = k + 20 + 2 + 1 from rfl, round 2 (1 * 2) (by decide +kernel), show k + 20 + 2 = k + 20 + 1 + 1 from rfl, round 1 (1 * 2 * 2) (by decide +kernel), show k + 20 + 1 = k + 20 + 0 + 1 from rfl, round 0 (1 * 2 * 2 * 2) (by decide +kernel)]
  have hend : rhyneref07_Put.l0 (k + 20 + 0) n (1 * 2 * 2 * 2 * 2) = some (⟨#[]⟩, 5) := by
    rw [show k + 20 + 0 = k + 19 + 1 from rfl, rhyneref07_Put.l0, if_neg (by decide +kernel)]
  rw [hend, show capS 1 = 64 from rfl, show capS (1 * 2) = 16384 from rfl, show capS (1 * 2 * 2) = 1073741824 from rfl, show capS (1 * 2 * 2 * 2) = 4611686018427387904 from rfl]
  by_cases h1 : n < 64
  · rw [if_pos h1, if_pos (by omega), if_pos h1]
  · by_cases h2 : n < 16384
    · rw [if_neg (by omega), if_pos h2, if_pos (by omega), if_neg h1, if_pos h2]; rfl
    · by_cases h4 : n < 1073741824
      · rw [if_neg (by omega), if_neg (by omega), if_pos h4, if_pos (by omega), if_neg h1, if_neg h2, if_pos h4]; rfl
      · by_cases h8 : n < 4611686018427387904
        · rw [if_neg (by omega), if_neg (by omega), if_neg (by omega), if_pos h8, if_pos h8, if_neg h1, if_neg h2, if_neg h4]; rfl
        · rw [if_neg (by omega), if_neg (by omega), if_neg (by omega), if_neg (by omega), if_neg (by omega)]
end Go.Proofs.YtpbhjemieikgpaaDoor.Pure
