/- Which headers are in form, as the program and the chapter tell it: over plain numbers, texts and lists. -/
import Derived.Test.YthagjeomcgphiaaDoorX2
import Derived.Test.YthagjeomcgphiaaDoorM1
namespace Go.Proofs.YthagjeomcgphiaaDoor.Pure
open Go.RowKit Go.Proofs.YthagjeomcgphiaaDoor.X Go.Proofs.YthagjeomcgphiaaDoorW.PrintWords Go.Proofs.YthagjeomcgphiaaDoorW.PrintLast Go.Proofs.YthagjeomcgphiaaDoorW.PrintMore
set_option linter.unusedSimpArgs false
set_option linter.unusedVariables false

def wordOK (x : Int) : Bool := decide (0 ≤ x ∧ x < 4294967296)
theorem within_f (a lo hi : Int) : packet_within.f a lo hi = some (decide (lo ≤ a ∧ a ≤ hi)) := by
  unfold packet_within.f
  by_cases h : a ≥ lo
  · rw [if_pos h]; congr 1; rw [Bool.eq_iff_iff]; simp; omega
  · rw [if_neg h]; congr 1; symm; apply decide_eq_false; omega
theorem word_put (x : Int) : packet_isWord.f x = some (wordOK x) := by
  unfold packet_isWord.f
  rw [within_f]
  simp only [Option.bind_some, wordOK]
  congr 1; rw [Bool.eq_iff_iff]; simp; omega
theorem clos_f (x : Int) : packet_Header_right_1.f x = some (!wordOK x) := by
  unfold packet_Header_right_1.f
  rw [word_put]; rfl
/-- What a kind asks for. -/
def kindOK (a0 a1 : Int) (a3 a4 : ByteArray) (a5 a6 a7 : Int) (a8 : Bool) (n : Nat) : Bool :=
  if a0 = 0 ∨ a0 = 1 ∨ a0 = 2 then decide (a1 ≠ 0 ∧ a8 = false ∧ n = 0 ∧ (a0 = 0 ∨ a4.toList = []) ∧ 1 ≤ a7 ∧ a7 ≤ 4)
  else if a0 = 3 then decide (a1 ≠ 0 ∧ a5 = 0 ∧ a6 = 0 ∧ a7 = 0 ∧ a8 = false ∧ n = 0)
  else if a0 = 4 then decide (a1 = 0 ∧ a5 = 0 ∧ a3.toList = [] ∧ a4.toList = [] ∧ n = 0 ∧ 1 ≤ a7 ∧ a7 ≤ 4)
  else if a0 = 5 then decide (a1 = 0 ∧ a5 = 0 ∧ a6 = 0 ∧ a7 = 0 ∧ a8 = false ∧ a4.toList = [] ∧ 0 < n)
  else false
def okH (a0 a1 : Int) (a2 a3 a4 : ByteArray) (a5 a6 a7 : Int) (a8 : Bool) (l : List Int) : Bool :=
  decide (a2.size ≤ 20) && decide (a3.size ≤ 20) && decide (a4.size ≤ 512) && wordOK a1 && decide (0 ≤ a5 ∧ a5 ≤ 16383) && decide (0 ≤ a6 ∧ a6 ≤ 4611686018427387903) && decide (l.length ≤ 16) && l.all wordOK && kindOK a0 a1 a3 a4 a5 a6 a7 a8 l.length
theorem k012 (a0 : Int) : (if a0 = 0 then (a0 == 0) else if a0 = 1 then (a0 == 1) else (a0 == 2)) = decide (a0 = 0 ∨ a0 = 1 ∨ a0 = 2) := by
  by_cases h0 : a0 = 0
  · subst h0; rfl
  by_cases h1 : a0 = 1
  · subst h1; rfl
  rw [if_neg h0, if_neg h1, Bool.eq_iff_iff]; simp [h0, h1]
section
variable (a0 a1 : Int) (a2 a3 a4 : ByteArray) (a5 a6 a7 : Int) (a8 : Bool) (l : List Int)
theorem idx_l (k : Nat) (hl : l.length ≤ 16) (j : Nat) : ∀ i : Nat, i + j = l.length →
    ∃ r : Int, slices_IndexFunc_int_int_56.l0 (k + j + 1) l l.length i = some r ∧ decide (r ≥ 0) = !(l.drop i).all wordOK := by
  induction j with
  | zero =>
    intro i hi
    refine ⟨-1, ?_, ?_⟩
    · rw [slices_IndexFunc_int_int_56.l0, if_neg (by omega)]
    · rw [List.drop_eq_nil_of_le (by omega)]; rfl
  | succ j ih =>
    intro i hi
    rw [show k + (j + 1) + 1 = (k + j + 1) + 1 from by omega, slices_IndexFunc_int_int_56.l0, if_pos (by omega), if_pos (by omega), if_pos (by omega), clos_f]
    simp only [Option.bind_some]
    have hd : l.drop i = rd l i :: l.drop (i + 1) := by
      rw [List.drop_eq_getElem_cons (by omega)]
      congr 1
      simp [rd, List.getD_eq_getElem?_getD, List.getElem?_eq_getElem (show i < l.length by omega)]
    rw [hd, List.all_cons]
    by_cases hw : wordOK (rd l i) = true
    · rw [hw, if_neg (by decide), show wrap64 ((i : Int) + 1) = ((i + 1 : Nat) : Int) from by unfold wrap64; omega, Bool.true_and]
      exact ih (i + 1) (by omega)
    · rw [Bool.eq_false_iff.2 hw, if_pos (by decide)]
      exact ⟨i, rfl, by simp⟩
theorem contains_f (k : Nat) (hl : l.length ≤ 16) : slices_ContainsFunc_int_int_56.f (k + 20) l () = some (!l.all wordOK) := by
  unfold slices_ContainsFunc_int_int_56.f slices_IndexFunc_int_int_56.f
  obtain ⟨r, h1, h2⟩ := idx_l l (k + 19 - l.length) hl l.length 0 (by omega)
  rw [show k + 19 - l.length + l.length + 1 = k + 20 from by omega] at h1
  rw [show (0 : Int) = ((0 : Nat) : Int) from rfl, h1]
  simp only [Option.bind_some]
  rw [show ((0 : Nat) : Int) = 0 from rfl, h2]; rfl
theorem put_j2 (k : Nat) : packet_Header_right.j2 (k + 1) ((l.length : Int) == 0) (decide (1 ≤ a7 ∧ a7 ≤ 4)) (decide (a5 = 0 ∧ a6 = 0 ∧ a7 = 0 ∧ a8 = false)) a0 (decide (a0 = 0 ∨ a0 = 1 ∨ a0 = 2)) a0 a1 a2 a3 a4 a5 a6 a7 a8 l = some (kindOK a0 a1 a3 a4 a5 a6 a7 a8 l.length) := by
  rw [packet_Header_right.j2]
  unfold kindOK
  by_cases h : a0 = 0 ∨ a0 = 1 ∨ a0 = 2
  · rw [if_pos (decide_eq_true h), if_pos h]
    repeat' split
    all_goals simp_all
    all_goals first | omega | (rw [Bool.eq_iff_iff]; simp [List.length_pos_iff, *]; done)
  · rw [if_neg (by simpa using h), if_neg h]
    repeat' split
    all_goals simp_all
    all_goals first | omega | (rw [Bool.eq_iff_iff]; simp [List.length_pos_iff, *]; done)
theorem put_j1 (k : Nat) (b1 b2 b3 : Bool) (h1 : b1 = ((l.length : Int) == 0)) (h2 : b2 = decide (1 ≤ a7 ∧ a7 ≤ 4)) (h3 : b3 = decide (a5 = 0 ∧ a6 = 0 ∧ a7 = 0 ∧ a8 = false)) : packet_Header_right.j1 (k + 2) b1 b2 b3 a0 a1 a2 a3 a4 a5 a6 a7 a8 l = some (kindOK a0 a1 a3 a4 a5 a6 a7 a8 l.length) := by
  subst h1 h2 h3
  rw [show k + 2 = (k + 1) + 1 from rfl, packet_Header_right.j1, ← put_j2 a0 a1 a2 a3 a4 a5 a6 a7 a8 l k, ← k012]
  repeat' split
  all_goals rfl
theorem put_j0 (k : Nat) (b : Bool) : packet_Header_right.j0 (k + 3) b a0 a1 a2 a3 a4 a5 a6 a7 a8 l = some (!b && kindOK a0 a1 a3 a4 a5 a6 a7 a8 l.length) := by
  rw [show k + 3 = (k + 2) + 1 from rfl, packet_Header_right.j0]
  cases b with
  | true => rfl
  | false =>
    rw [if_neg (by decide), within_f]
    simp only [Option.bind_some, Bool.not_false, Bool.true_and]
    by_cases c5 : a5 = 0
    · rw [if_pos c5]
      by_cases c6 : a6 = 0
      · rw [if_pos c6]
        by_cases c7 : a7 = 0
        · rw [if_pos c7]
          exact put_j1 a0 a1 a2 a3 a4 a5 a6 a7 a8 l k _ _ _ rfl rfl (by cases a8 <;> simp [c5, c6, c7])
        · rw [if_neg c7]
          exact put_j1 a0 a1 a2 a3 a4 a5 a6 a7 a8 l k _ _ _ rfl rfl (by simp [c7])
      · rw [if_neg c6]
        exact put_j1 a0 a1 a2 a3 a4 a5 a6 a7 a8 l k _ _ _ rfl rfl (by simp [c6])
    · rw [if_neg c5]
      exact put_j1 a0 a1 a2 a3 a4 a5 a6 a7 a8 l k _ _ _ rfl rfl (by simp [c5])
theorem right_put (k : Nat) : packet_Header_right.f (k + 30) a0 a1 a2 a3 a4 a5 a6 a7 a8 l = some (okH a0 a1 a2 a3 a4 a5 a6 a7 a8 l) := by
  unfold packet_Header_right.f okH
  rw [show k + 30 = (k + 27) + 3 from rfl, put_j0, word_put, within_f, within_f]
  by_cases c1 : (a2.size : Int) > 20
  · rw [if_pos c1, decide_eq_false (by omega : ¬ a2.size ≤ 20)]; rfl
  rw [if_neg c1, decide_eq_true (by omega : a2.size ≤ 20)]
  by_cases c2 : (a3.size : Int) > 20
  · rw [if_pos c2, decide_eq_false (by omega : ¬ a3.size ≤ 20)]; rfl
  rw [if_neg c2, decide_eq_true (by omega : a3.size ≤ 20)]
  by_cases c3 : (a4.size : Int) > 512
  · rw [if_pos c3, decide_eq_false (by omega : ¬ a4.size ≤ 512)]; rfl
  rw [if_neg c3, decide_eq_true (by omega : a4.size ≤ 512)]
  simp only [Option.bind_some, Bool.true_and]
  cases hw : wordOK a1
  · rfl
  simp only [if_true, Bool.true_and]
  cases h5 : decide (0 ≤ a5 ∧ a5 ≤ 16383)
  · rfl
  simp only [if_true, Bool.true_and]
  cases h6 : decide (0 ≤ a6 ∧ a6 ≤ 4611686018427387903)
  · rfl
  simp only [if_true, Bool.true_and]
  by_cases c8 : (l.length : Int) > 16
  · rw [if_pos c8, decide_eq_false (by omega : ¬ l.length ≤ 16)]; rfl
  rw [if_neg c8, decide_eq_true (by omega : l.length ≤ 16), show k + 27 + 3 = (k + 10) + 20 from rfl, contains_f l (k + 10) (by omega)]
  simp only [Option.bind_some]
  rw [show k + 10 + 20 = (k + 27) + 3 from rfl, put_j0]
  simp
end
end Go.Proofs.YthagjeomcgphiaaDoor.Pure
