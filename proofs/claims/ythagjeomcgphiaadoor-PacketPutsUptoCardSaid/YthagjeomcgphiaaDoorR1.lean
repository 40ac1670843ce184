/- What the chapter tells, over plain numbers, texts and lists. -/
import Derived.Test.YthagjeomcgphiaaDoorX9
import Derived.Test.YthagjeomcgphiaaDoorM3
namespace Go.Proofs.YthagjeomcgphiaaDoor.Pure
open Go.RowKit Go.Proofs.YthagjeomcgphiaaDoor.X Go.Proofs.YthagjeomcgphiaaDoorW.PrintWords Go.Proofs.YthagjeomcgphiaaDoorW.PrintLast Go.Proofs.YthagjeomcgphiaaDoorW.PrintMore
set_option linter.unusedSimpArgs false
set_option linter.unusedVariables false

/-! ### the chapter -/
theorem most_ref (size : Int) : rhyneref07_Most.f size = some (capS size) := by
  unfold rhyneref07_Most.f capS
  by_cases h1 : size = 1
  · rw [if_pos h1, if_pos h1]
  by_cases h2 : size = 2
  · rw [if_neg h1, if_pos h2, if_neg h1, if_pos h2]
  by_cases h4 : size = 4
  · rw [if_neg h1, if_neg h2, if_pos h4, if_neg h1, if_neg h2, if_pos h4]
  by_cases h8 : size = 8
  · rw [if_neg h1, if_neg h2, if_neg h4, if_pos h8, if_neg h1, if_neg h2, if_neg h4, if_pos h8]
  rw [if_neg h1, if_neg h2, if_neg h4, if_neg h8, if_neg h1, if_neg h2, if_neg h4, if_neg h8]

theorem refloop (size : Int) (j : Nat) : ∀ (k : Nat) (x : Int) (l : List Int), j ≤ l.length → l.length ≤ 8 → 0 ≤ x → x < 18446744073709551616 →
    rhyneref07_PutIn.l0 (k + j + 1) x size l ((j : Int) - 1) = rhyneref07_PutIn.l1 k size ((List.range j).map (fun i => x / 256 ^ (j - 1 - i) % 256) ++ l.drop j) 0 := by
  induction j with
  | zero => intro k x l _ _ _ _; rw [rhyneref07_PutIn.l0, if_neg (by omega)]; simp
  | succ j ih =>
    intro k x l hj hl h0 h1
    rw [show k + (j + 1) + 1 = (k + j + 1) + 1 from by omega, rhyneref07_PutIn.l0, if_pos (by omega), if_pos (by omega), if_pos (by omega)]
    rw [show wrap64 (((j + 1 : Nat) : Int) - 1 - 1) = (j : Int) - 1 from by unfold wrap64; omega, Int.tdiv_eq_ediv_of_nonneg h0, Int.tmod_eq_emod_of_nonneg h0, u64_id _ (by omega) (by omega)]
    rw [show (((j + 1 : Nat) : Int) - 1).toNat = j from by omega, ih k (x / 256) (l.set j (x % 256 % 256)) (by simp; omega) (by simpa using hl) (by omega) (by omega)]
    congr 1
    rw [List.range_succ, List.map_append, List.append_assoc]
    congr 1
    · apply List.map_congr_left
      intro i hi
      have hi := List.mem_range.1 hi
      rw [Int.ediv_ediv_of_nonneg (by decide +kernel), show j + 1 - 1 - i = (j - 1 - i) + 1 from by omega, Int.pow_succ, Int.mul_comm]
    · rw [List.drop_set, if_neg (Nat.lt_irrefl j)]
      have hd : l.drop j = l[j] :: l.drop (j + 1) := List.drop_eq_getElem_cons (by omega)
      rw [Nat.sub_self, hd, List.set_cons_zero, Int.emod_emod_of_dvd _ (by decide +kernel)]
      simp only [List.map_cons, List.map_nil, List.cons_append, List.nil_append, show j + 1 - 1 - j = 0 from by omega, Int.pow_zero, Int.ediv_one]
theorem refloop1 (k : Nat) (size : Int) (l : List Int) (hl : 0 < l.length) (hs : size = 1 ∨ size = 2 ∨ size = 4 ∨ size = 8) :
    rhyneref07_PutIn.l1 (k + 4) size l 0 = some (strOfNums (l.set 0 ((rd l 0 + (if size = 1 then 0 else if size = 2 then 64 else if size = 4 then 128 else 192)) % 256)), 0) := by
  have s0 : shl .i64 1 0 = 1 := by decide +kernel
  have s1 : shl .i64 1 1 = 2 := by decide +kernel
  have s2 : shl .i64 1 2 = 4 := by decide +kernel
  have s3 : shl .i64 1 3 = 8 := by decide +kernel
  have w0 : wrap64 (0 + 1) = 1 := by decide +kernel
  have w1 : wrap64 (1 + 1) = 2 := by decide +kernel
  have w2 : wrap64 (2 + 1) = 3 := by decide +kernel
  have v0 : wrap64 (64 * 0) % 256 = 0 := by decide +kernel
  have v1 : wrap64 (64 * 1) % 256 = 64 := by decide +kernel
  have v2 : wrap64 (64 * 2) % 256 = 128 := by decide +kernel
  have v3 : wrap64 (64 * 3) % 256 = 192 := by decide +kernel
  have hl' : (0 : Int) < (l.length : Int) := by omega
  rcases hs with rfl | rfl | rfl | rfl
  · rw [rhyneref07_PutIn.l1, if_pos (by decide +kernel), s0, if_neg (by decide +kernel), if_pos hl', v0]; rfl
  · rw [rhyneref07_PutIn.l1, if_pos (by decide +kernel), s0, if_pos (by decide +kernel), w0, rhyneref07_PutIn.l1, if_pos (by decide +kernel), s1, if_neg (by decide +kernel), if_pos hl', v1]; rfl
  · rw [rhyneref07_PutIn.l1, if_pos (by decide +kernel), s0, if_pos (by decide +kernel), w0, rhyneref07_PutIn.l1, if_pos (by decide +kernel), s1, if_pos (by decide +kernel), w1, rhyneref07_PutIn.l1, if_pos (by decide +kernel), s2, if_neg (by decide +kernel), if_pos hl', v2]; rfl
  · rw [rhyneref07_PutIn.l1, if_pos (by decide +kernel), s0, if_pos (by decide +kernel), w0, rhyneref07_PutIn.l1, if_pos (by decide +kernel), s1, if_pos (by decide +kernel), w1, rhyneref07_PutIn.l1, if_pos (by decide +kernel), s2, if_pos (by decide +kernel), w2, rhyneref07_PutIn.l1, if_pos (by decide +kernel), s3, if_neg (by decide +kernel), if_pos hl', v3]; rfl
theorem refputin (k : Nat) (n size : Int) (h0 : 0 ≤ n) (hn : n < 18446744073709551616) :
    rhyneref07_PutIn.f (k + 20) n size = some (if capS size = 0 then (⟨#[]⟩, 1) else if n < capS size then (strOfNums (encS n size), 0) else (⟨#[]⟩, 5)) := by
  unfold rhyneref07_PutIn.f
  rw [most_ref]
  simp only [Option.bind_some]
  rcases cap_cases size with hs | ⟨hc, _⟩
  · have hcap : capS size ≠ 0 := by rcases hs with rfl | rfl | rfl | rfl <;> decide +kernel
    rw [if_neg hcap, if_neg hcap]
    by_cases hf : n < capS size
    · rw [if_neg (by omega), if_pos hf, if_pos (by omega), if_pos (by omega)]
      rcases hs with rfl | rfl | rfl | rfl
      · rw [show wrap64 (1 - 1) = ((1 : Nat) : Int) - 1 from by decide +kernel, show k + 20 = (k + 14 + 4) + 1 + 1 from rfl, refloop 1 1 _ n _ (by decide +kernel) (by decide +kernel) h0 hn, refloop1 _ 1 _ (by simp [List.range_succ]) (by decide +kernel)]
        have hb : n < 64 := by simpa [capS] using hf
        congr 3
        simp [List.range_succ, encS, rd]; omega
      · rw [show wrap64 (2 - 1) = ((2 : Nat) : Int) - 1 from by decide +kernel, show k + 20 = (k + 13 + 4) + 2 + 1 from rfl, refloop 2 2 _ n _ (by decide +kernel) (by decide +kernel) h0 hn, refloop1 _ 2 _ (by simp [List.range_succ]) (by decide +kernel)]
        have hb : n < 16384 := by simpa [capS] using hf
        congr 3
        simp [List.range_succ, encS, rd]; omega
      · rw [show wrap64 (4 - 1) = ((4 : Nat) : Int) - 1 from by decide +kernel, show k + 20 = (k + 11 + 4) + 4 + 1 from rfl, refloop 4 4 _ n _ (by decide +kernel) (by decide +kernel) h0 hn, refloop1 _ 4 _ (by simp [List.range_succ]) (by decide +kernel)]
        have hb : n < 1073741824 := by simpa [capS] using hf
        congr 3
        simp [List.range_succ, encS, rd]; omega
      · rw [show wrap64 (8 - 1) = ((8 : Nat) : Int) - 1 from by decide +kernel, show k + 20 = (k + 7 + 4) + 8 + 1 from rfl, refloop 8 8 _ n _ (by decide +kernel) (by decide +kernel) h0 hn, refloop1 _ 8 _ (by simp [List.range_succ]) (by decide +kernel)]
        have hb : n < 4611686018427387904 := by simpa [capS] using hf
        congr 3
        simp [List.range_succ, encS, rd]; omega
    · rw [if_pos (by omega), if_neg hf]
  · rw [if_pos hc, if_pos hc]
theorem refput (k : Nat) (n : Int) (h0 : 0 ≤ n) (hn : n < 18446744073709551616) :
    rhyneref07_Put.f (k + 24) n = some (if n < 4611686018427387904 then (strOfNums (encS n (if n < 64 then 1 else if n < 16384 then 2 else if n < 1073741824 then 4 else 8)), 0) else (⟨#[]⟩, 5)) := by
  unfold rhyneref07_Put.f
  have round : ∀ (j : Nat) (size : Int), size = 1 ∨ size = 2 ∨ size = 4 ∨ size = 8 → rhyneref07_Put.l0 (k + 20 + j + 1) n size = if n < capS size then some (strOfNums (encS n size), 0) else rhyneref07_Put.l0 (k + 20 + j) n (size * 2) := by
    intro j size hs
    have hcap : capS size ≠ 0 := by rcases hs with rfl | rfl | rfl | rfl <;> decide +kernel
    rw [rhyneref07_Put.l0, if_pos (by omega), show k + 20 + j = (k + j) + 20 from by omega, refputin (k + j) n size h0 hn, if_neg hcap]
    simp only [Option.bind_some]
    rw [show wrap64 (size * 2) = size * 2 from by unfold wrap64; omega]
    by_cases hf : n < capS size
    · simp only [if_pos hf, if_true]
    · simp only [if_neg hf]
      rw [if_neg (by decide +kernel)]
  rw [show k + 24 = k + 20 + 3 + 1 from rfl, round 3 1 (by decide +kernel), show k + 20 + 3 = k + 20 + 2 + 1 from rfl, round 2 (1 * 2) (by decide +kernel), show k + 20 + 2 = k + 20 + 1 + 1 from rfl, round 1 (1 * 2 * 2) (by decide +kernel), show k + 20 + 1 = k + 20 + 0 + 1 from rfl, round 0 (1 * 2 * 2 * 2) (by decide +kernel)]
  have hend : rhyneref07_Put.l0 (k + 20 + 0) n (1 * 2 * 2 * 2 * 2) = some (⟨#[]⟩, 5) := by
    rw [show k + 20 + 0 = k + 19 + 1 from rfl, rhyneref07_Put.l0, if_neg (by decide +kernel)]
  rw [hend, show capS 1 = 64 from rfl, show capS (1 * 2) = 16384 from rfl, show capS (1 * 2 * 2) = 1073741824 from rfl, show capS (1 * 2 * 2 * 2) = 4611686018427387904 from rfl]
  by_cases h1 : n < 64
  · rw [if_pos h1, if_pos (by omega), if_pos h1]
  · by_cases h2 : n < 16384
    · rw [if_neg (by omega), if_pos h2, if_pos (by omega), if_neg h1, if_pos h2]; rfl
    · by_cases h4 : n < 1073741824
      · rw [if_neg (by omega), if_neg (by omega), if_pos h4, if_pos (by omega), if_neg h1, if_neg h2, if_pos h4]; rfl
      · by_cases h8 : n < 4611686018427387904
        · rw [if_neg (by omega), if_neg (by omega), if_neg (by omega), if_pos h8, if_pos h8, if_neg h1, if_neg h2, if_neg h4]; rfl
        · rw [if_neg (by omega), if_neg (by omega), if_neg (by omega), if_neg (by omega), if_neg (by omega)]
theorem low_ref_l (s : Nat) (j : Nat) : ∀ (k : Nat) (x : Int) (l : List Int), j ≤ s → s ≤ 8 → l.length + j ≤ 16 →
    rhyneref08_low.l0 (k + j + 1) x (s : Int) (strOfNums l) ((s : Int) - j) = some (strOfNums (lowL x j ++ l)) := by
  induction j with
  | zero => intro k x l _ _ _; rw [rhyneref08_low.l0, if_neg (by omega)]; rfl
  | succ j ih =>
    intro k x l hj hs hl
    rw [show k + (j + 1) + 1 = (k + j + 1) + 1 from by omega, rhyneref08_low.l0, if_pos (by omega)]
    simp only [Option.bind_some]
    rw [if_pos (by rw [nums_size, nums_size]; simp; omega), nums_app, show wrap64 ((s : Int) - ((j + 1 : Nat) : Int) + 1) = (s : Int) - j from by unfold wrap64; omega]
    rw [ih k (x / 256) ([x % 256] ++ l) (by omega) hs (by simp; omega), lowL, List.append_assoc]
theorem low_ref (k : Nat) (x : Int) (s : Nat) (hs : s ≤ 8) : rhyneref08_low.f (k + 10) x (s : Int) = some (strOfNums (lowL x s)) := by
  unfold rhyneref08_low.f
  have h := low_ref_l s s (k + 9 - s) x [] (Nat.le_refl _) hs (by simp; omega)
  rw [show k + 9 - s + s + 1 = k + 10 from by omega, List.append_nil, Int.sub_self] at h
  exact h
theorem word_ref (x : Int) : rhyneref08_word.f x = some (wordOK x) := by
  unfold rhyneref08_word.f wordOK
  by_cases h : x ≥ 0
  · rw [if_pos h]; congr 1; rw [Bool.eq_iff_iff]; simp; omega
  · rw [if_neg h]; congr 1; symm; apply decide_eq_false; omega
theorem text_ref (k : Nat) (s : ByteArray) (h : s.size ≤ 512) : rhyneref07_Text.f (k + 24) s = some (strOfNums (textL s), 0) := by
  unfold rhyneref07_Text.f
  rw [if_neg (by omega), u64_id _ (by omega) (by omega), refput k _ (by omega) (by omega), if_pos (by omega)]
  simp only [Option.bind_some]
  have := encS_len (s.size : Int) (szS (s.size : Int))
  rw [show (if (s.size : Int) < 64 then (1 : Int) else if (s.size : Int) < 16384 then 2 else if (s.size : Int) < 1073741824 then 4 else 8) = szS (s.size : Int) from rfl, if_pos (by rw [nums_size]; omega), app_bytesOf]
  rfl
theorem len_ref (k : Nat) (n : Int) (h0 : 0 ≤ n) (h : n ≤ 16383) : rhyneref07_PutIn.f (k + 20) (IntKind.u64.wrap n) 2 = some (strOfNums (encS n 2), 0) := by
  rw [u64_id _ h0 (by omega), refputin k n 2 h0 (by omega), if_neg (by decide +kernel), if_pos (by show n < 16384; omega)]
theorem low_ref1 (k : Nat) (x : Int) (h0 : 0 ≤ x) (h : x < 256) : rhyneref08_low.f (k + 10) x 1 = some (strOfNums [x]) := by
  rw [show (1 : Int) = ((1 : Nat) : Int) from rfl, low_ref k x 1 (by decide), low1 x h0 h]
theorem low_ref4 (k : Nat) (x : Int) : rhyneref08_low.f (k + 10) x 4 = some (strOfNums (lowL x 4)) := low_ref k x 4 (by decide)
theorem low_refs (k : Nat) (x s : Int) (h0 : 0 ≤ s) (h : s ≤ 4) : rhyneref08_low.f (k + 10) x s = some (strOfNums (lowL x s.toNat)) := by
  have h1 := low_ref k x s.toNat (by omega)
  rw [Int.toNat_of_nonneg h0] at h1; exact h1
section
variable (a0 a1 : Int) (a2 a3 a4 : ByteArray) (a5 a6 a7 : Int) (a8 : Bool) (l : List Int)
theorem ref_j2 (k : Nat) : rhyneref08_Right.j2 (k + 1) a0 (decide (a0 = 0 ∨ a0 = 1 ∨ a0 = 2)) a0 a1 a2 a3 a4 a5 a6 a7 a8 l = some (kindOK a0 a1 a3 a4 a5 a6 a7 a8 l.length) := by
  rw [rhyneref08_Right.j2]
  unfold kindOK
  by_cases h : a0 = 0 ∨ a0 = 1 ∨ a0 = 2
  · rw [if_pos (decide_eq_true h), if_pos h]
    repeat' split
    all_goals simp_all
    all_goals first | omega | (rw [Bool.eq_iff_iff]; simp [List.length_pos_iff, *]; done)
  · rw [if_neg (by simpa using h), if_neg h]
    repeat' split
    all_goals simp_all
    all_goals first | omega | (rw [Bool.eq_iff_iff]; simp [List.length_pos_iff, *]; done)
theorem ref_end (k : Nat) : (if a0 = 0 then (rhyneref08_Right.j2 (k + 1) a0 (a0 == 0) a0 a1 a2 a3 a4 a5 a6 a7 a8 l) else (if a0 = 1 then (rhyneref08_Right.j2 (k + 1) a0 (a0 == 1) a0 a1 a2 a3 a4 a5 a6 a7 a8 l) else (rhyneref08_Right.j2 (k + 1) a0 (a0 == 2) a0 a1 a2 a3 a4 a5 a6 a7 a8 l))) = some (kindOK a0 a1 a3 a4 a5 a6 a7 a8 l.length) := by
  rw [← ref_j2 a0 a1 a2 a3 a4 a5 a6 a7 a8 l k, ← k012]
  repeat' split
  all_goals rfl
theorem ref_l (k : Nat) (hl : l.length ≤ 16) (j : Nat) : ∀ i : Nat, i + j = l.length →
    rhyneref08_Right.l0 (k + 1 + j + 1) i a0 a1 a2 a3 a4 a5 a6 a7 a8 l = some ((l.drop i).all wordOK && kindOK a0 a1 a3 a4 a5 a6 a7 a8 l.length) := by
  induction j with
  | zero =>
    intro i hi
    rw [rhyneref08_Right.l0, if_neg (by omega), show k + 1 + 0 = k + 1 from rfl, ref_end, List.drop_eq_nil_of_le (by omega)]; rfl
  | succ j ih =>
    intro i hi
    rw [show k + 1 + (j + 1) + 1 = (k + 1 + j + 1) + 1 from by omega, rhyneref08_Right.l0, if_pos (by omega), if_pos (by omega), word_ref]
    simp only [Option.bind_some]
    have hd : l.drop i = rd l i :: l.drop (i + 1) := by
      rw [List.drop_eq_getElem_cons (by omega)]
      congr 1
      simp [rd, List.getD_eq_getElem?_getD, List.getElem?_eq_getElem (show i < l.length by omega)]
    rw [hd, List.all_cons]
    by_cases hw : wordOK (rd l i) = true
    · rw [if_pos hw, show wrap64 ((i : Int) + 1) = ((i + 1 : Nat) : Int) from by unfold wrap64; omega, ih (i + 1) (by omega), hw, Bool.true_and]
    · rw [if_neg hw, Bool.eq_false_iff.2 hw]; rfl
theorem ref_j0t (k : Nat) : rhyneref08_Right.j0 (k + 1) true a0 a1 a2 a3 a4 a5 a6 a7 a8 l = some false := by rw [rhyneref08_Right.j0, if_pos rfl]
theorem right_ref (k : Nat) : rhyneref08_Right.f (k + 30) a0 a1 a2 a3 a4 a5 a6 a7 a8 l = some (okH a0 a1 a2 a3 a4 a5 a6 a7 a8 l) := by
  unfold rhyneref08_Right.f okH
  rw [show k + 30 = (k + 29) + 1 from rfl, ref_j0t, word_ref]
  by_cases c1 : (a2.size : Int) > 20
  · rw [if_pos c1, decide_eq_false (by omega : ¬ a2.size ≤ 20)]; rfl
  rw [if_neg c1, decide_eq_true (by omega : a2.size ≤ 20)]
  by_cases c2 : (a3.size : Int) > 20
  · rw [if_pos c2, decide_eq_false (by omega : ¬ a3.size ≤ 20)]; rfl
  rw [if_neg c2, decide_eq_true (by omega : a3.size ≤ 20)]
  simp only [Option.bind_some, Bool.true_and]
  by_cases cw : wordOK a1 = true
  rotate_left
  · rw [if_neg cw, Bool.eq_false_iff.2 cw]; simp
  rw [if_pos cw, cw]
  by_cases c3 : (a4.size : Int) > 512
  · rw [if_pos c3, decide_eq_false (by omega : ¬ a4.size ≤ 512)]; rfl
  rw [if_neg c3, decide_eq_true (by omega : a4.size ≤ 512)]
  by_cases c4 : a5 < 0
  · rw [if_pos c4, decide_eq_false (by omega : ¬ (0 ≤ a5 ∧ a5 ≤ 16383))]; rfl
  rw [if_neg c4]
  by_cases c5 : a5 > 16383
  · rw [if_pos c5, decide_eq_false (by omega : ¬ (0 ≤ a5 ∧ a5 ≤ 16383))]; rfl
  rw [if_neg c5, decide_eq_true (by omega : (0 ≤ a5 ∧ a5 ≤ 16383))]
  by_cases c6 : a6 < 0
  · rw [if_pos c6, decide_eq_false (by omega : ¬ (0 ≤ a6 ∧ a6 ≤ 4611686018427387903))]; rfl
  rw [if_neg c6]
  by_cases c7 : a6 > 4611686018427387903
  · rw [if_pos c7, decide_eq_false (by omega : ¬ (0 ≤ a6 ∧ a6 ≤ 4611686018427387903))]; rfl
  rw [if_neg c7, decide_eq_true (by omega : (0 ≤ a6 ∧ a6 ≤ 4611686018427387903))]
  by_cases c8 : (l.length : Int) > 16
  · rw [decide_eq_true c8, ref_j0t, decide_eq_false (by omega : ¬ l.length ≤ 16)]; rfl
  rw [decide_eq_false c8, decide_eq_true (by omega : l.length ≤ 16), rhyneref08_Right.j0, if_neg (by decide)]
  have h := ref_l a0 a1 a2 a3 a4 a5 a6 a7 a8 l (k + 29 - 2 - l.length) (by omega) l.length 0 (by omega)
  rw [show k + 29 - 2 - l.length + 1 + l.length + 1 = k + 29 from by omega] at h
  rw [show (0 : Int) = ((0 : Nat) : Int) from rfl, h]
  simp
theorem names_ref (k : Nat) (h2 : a2.size ≤ 20) (h3 : a3.size ≤ 20) : rhyneref08_names.f (k + 10) a0 a1 a2 a3 a4 a5 a6 a7 a8 l = some (strOfNums (namesL a2 a3)) := by
  unfold rhyneref08_names.f
  rw [show (1 : Int) = ((1 : Nat) : Int) from rfl, low_ref k _ 1 (by decide), low_ref k _ 1 (by decide)]
  simp only [Option.bind_some]
  rw [app_bytesOf, nums_app, app_bytesOf]
  simp only [nums_size, List.length_append, lowL_length, bytesOf_len]
  rw [if_pos (by omega), if_pos (by omega), if_pos (by omega)]
  rfl
theorem doc_l (k : Nat) (hl : l.length ≤ 16) (j : Nat) : ∀ (i : Nat) (acc : List Int), i + j = l.length → acc.length + 4 * j ≤ 1000 →
    rhyneref08_DocPut.l0 (k + 10 + j + 1) (strOfNums acc) i a0 a1 a2 a3 a4 a5 a6 a7 a8 l = some (strOfNums (acc ++ flatL (l.drop i)), 0) := by
  induction j with
  | zero =>
    intro i acc hi _
    rw [rhyneref08_DocPut.l0, if_neg (by omega), List.drop_eq_nil_of_le (by omega)]
    simp [flatL]
  | succ j ih =>
    intro i acc hi ha
    rw [show k + 10 + (j + 1) + 1 = (k + 10 + j + 1) + 1 from by omega, rhyneref08_DocPut.l0, if_pos (by omega), if_pos (by omega), show k + 10 + j + 1 = (k + j + 1) + 10 from by omega, low_ref4]
    simp only [Option.bind_some]
    rw [if_pos (by rw [nums_size, nums_size, lowL_length]; omega), nums_app, show wrap64 ((i : Int) + 1) = ((i + 1 : Nat) : Int) from by unfold wrap64; omega, show (k + j + 1) + 10 = k + 10 + j + 1 from by omega, ih (i + 1) _ (by omega) (by rw [List.length_append, lowL_length]; omega)]
    have hd : l.drop i = rd l i :: l.drop (i + 1) := by
      rw [List.drop_eq_getElem_cons (by omega)]
      congr 1
      simp [rd, List.getD_eq_getElem?_getD, List.getElem?_eq_getElem (show i < l.length by omega)]
    rw [hd]
    simp only [flatL, List.flatMap_cons, List.append_assoc]
theorem doc_put (k : Nat) (h : okH a0 a1 a2 a3 a4 a5 a6 a7 a8 l = true) : rhyneref08_DocPut.f (k + 60) a0 a1 a2 a3 a4 a5 a6 a7 a8 l = some (strOfNums (headL a0 a1 a2 a3 a4 a5 a6 a7 a8 l), 0) := by
  obtain ⟨h2, h3, h4, h5, h5', h6, h6', hl, h0, h0', h7⟩ := ok_facts a0 a1 a2 a3 a4 a5 a6 a7 a8 l h
  unfold rhyneref08_DocPut.f headL
  rw [show k + 60 = (k + 30) + 30 from rfl, right_ref, h]
  simp only [Option.bind_some, if_true]
  rw [show (k + 30) + 30 = (k + 50) + 10 from rfl, low_ref4, low_ref4, names_ref a0 a1 a2 a3 a4 a5 a6 a7 a8 l _ h2 h3]
  simp only [Option.bind_some]
  rw [show (⟨#[240]⟩ : ByteArray) = strOfNums [240] from rfl, show (⟨#[192]⟩ : ByteArray) = strOfNums [192] from rfl]
  simp only [app_bytesOf _ a4, app_bytesOf _ a2, nums_app, nums_size, List.length_append, lowL_length, bytesOf_len, namesL_len, List.length_singleton]
  by_cases c3 : a0 = 3
  · rw [if_pos c3, if_pos c3, if_pos (by decide), if_pos (by omega), if_pos (by omega)]
  rw [if_neg c3, if_neg c3]
  by_cases c4 : a0 = 4
  · obtain ⟨h7a, h7b⟩ := h7 (by omega)
    rw [if_pos c4, if_pos c4, low_refs _ a6 a7 (by omega) h7b]
    cases a8 with
    | true =>
      rw [if_pos rfl, show wrap64 (wrap64 (wrap64 (64 + a7) - 1) + 4) = firstL a7 true from by unfold wrap64 firstL; rw [if_pos rfl]; omega, low_ref1 _ _ (by unfold firstL; rw [if_pos rfl]; omega) (by unfold firstL; rw [if_pos rfl]; omega)]
      simp only [Option.bind_some, app_bytesOf _ a2, nums_app, nums_size, List.length_append, lowL_length, bytesOf_len, List.length_singleton]
      rw [if_pos (by omega), if_pos (by omega)]
    | false =>
      rw [if_neg (by decide), show wrap64 (wrap64 (64 + a7) - 1) = firstL a7 false from by unfold wrap64 firstL; rw [if_neg (by decide)]; omega, low_ref1 _ _ (by unfold firstL; rw [if_neg (by decide)]; omega) (by unfold firstL; rw [if_neg (by decide)]; omega)]
      simp only [Option.bind_some, app_bytesOf _ a2, nums_app, nums_size, List.length_append, lowL_length, bytesOf_len, List.length_singleton]
      rw [if_pos (by omega), if_pos (by omega)]
  rw [if_neg c4, if_neg c4]
  by_cases c5 : a0 = 5
  · rw [if_pos c5, if_pos c5, if_pos (by decide), if_pos (by omega)]
    have hd := doc_l a0 a1 a2 a3 a4 a5 a6 a7 a8 l (k + 49 - l.length) hl l.length 0 (([192] ++ lowL 0 4) ++ namesL a2 a3) (by omega) (by simp only [List.length_append, lowL_length, namesL_len, List.length_singleton]; omega)
    rw [show k + 49 - l.length + 10 + l.length + 1 = k + 50 + 10 from by omega] at hd
    exact hd
  rw [if_neg c5, if_neg c5]
  obtain ⟨h7a, h7b⟩ := h7 (by omega)
  rw [show wrap64 (wrap64 (wrap64 (192 + wrap64 (16 * a0)) + a7) - 1) = 192 + 16 * a0 + a7 - 1 from by unfold wrap64; omega, low_ref1 _ _ (by omega) (by omega), low_refs _ a6 a7 (by omega) h7b]
  rw [show k + 50 + 10 = (k + 40) + 20 from rfl, len_ref _ a5 h5 h5', show k + 40 + 20 = (k + 36) + 24 from rfl, text_ref _ a4 h4]
  have he := encS_len a5 2
  have ht := textL_len a4
  have hq : (lowL a6 a7.toNat).length = a7.toNat := lowL_length _ _
  simp only [Option.bind_some, nums_app, nums_size, List.length_append, lowL_length, namesL_len, List.length_singleton]
  rw [if_pos (by decide), if_pos (by omega)]
  by_cases c0 : a0 = 0
  · rw [if_pos c0, if_pos c0, if_pos (by omega), if_pos (by omega), if_pos (by omega)]
  · rw [if_neg c0, if_neg c0, if_pos (by omega), if_pos (by omega), List.append_nil]
theorem doc_no (k : Nat) (h : okH a0 a1 a2 a3 a4 a5 a6 a7 a8 l = false) : rhyneref08_DocPut.f (k + 60) a0 a1 a2 a3 a4 a5 a6 a7 a8 l = some (⟨#[]⟩, 2) := by
  unfold rhyneref08_DocPut.f
  rw [show k + 60 = (k + 30) + 30 from rfl, right_ref, h]; rfl
end
end Go.Proofs.YthagjeomcgphiaaDoor.Pure
