/- What stands ahead of a packet, as the program and the chapter put it, over plain numbers, texts and lists. -/
import Derived.Test.YthagjeomcgphiaaDoorX4
import Derived.Test.YthagjeomcgphiaaDoorM2
namespace Go.Proofs.YthagjeomcgphiaaDoor.Pure
open Go.RowKit Go.Proofs.YthagjeomcgphiaaDoor.X Go.Proofs.YthagjeomcgphiaaDoorW.PrintWords Go.Proofs.YthagjeomcgphiaaDoorW.PrintLast Go.Proofs.YthagjeomcgphiaaDoorW.PrintMore
set_option linter.unusedSimpArgs false
set_option linter.unusedVariables false

def szS (n : Int) : Int := if n < 64 then 1 else if n < 16384 then 2 else if n < 1073741824 then 4 else 8
theorem encS_len (n size : Int) : (encS n size).length ≤ 8 := by
  unfold encS; repeat' split
  all_goals simp
def textL (s : ByteArray) : List Int := encS (s.size : Int) (szS (s.size : Int)) ++ bytesOf s
theorem text_put (k : Nat) (s : ByteArray) (h : s.size ≤ 512) : vlq_Text.f (k + 24) s = some (textL s, 0) := by
  unfold vlq_Text.f
  rw [if_neg (by omega), put_int k _ (by omega) (by omega), if_pos (by omega)]
  simp only [Option.bind_some]
  have := encS_len (s.size : Int) (szS (s.size : Int))
  rw [show (if (s.size : Int) < 64 then (1 : Int) else if (s.size : Int) < 16384 then 2 else if (s.size : Int) < 1073741824 then 4 else 8) = szS (s.size : Int) from rfl, if_pos (by omega)]
  rfl
theorem textL_len (s : ByteArray) : (textL s).length ≤ s.size + 8 := by
  have := encS_len (s.size : Int) (szS (s.size : Int))
  rw [textL, List.length_append, bytesOf_len]; omega
theorem len_put (k : Nat) (n : Int) (h0 : 0 ≤ n) (h : n ≤ 16383) : vlq_PutIn_int.f (k + 20) n 2 = some (encS n 2, 0) := by
  rw [putin_int k n 2 (by omega) (by omega), if_neg (by decide +kernel), if_pos ⟨h0, by show n < 16384; omega⟩]
theorem low1 (x : Int) (h0 : 0 ≤ x) (h : x < 256) : lowL x 1 = [x] := by
  simp only [lowL, List.nil_append]; congr 1; omega
theorem low_puts (k : Nat) (b : List Int) (hb : b.length ≤ 2000) (x s : Int) (h0 : 0 ≤ s) (h : s ≤ 4) : packet_low.f (k + 10) b x s = some (b ++ lowL x s.toNat) := by
  have h1 := low_put k b x s.toNat (by omega) (Nat.le_trans hb (by decide))
  rw [Int.toNat_of_nonneg h0] at h1; exact h1
theorem low_put4 (k : Nat) (b : List Int) (hb : b.length ≤ 2000) (x : Int) : packet_low.f (k + 10) b x 4 = some (b ++ lowL x 4) := low_put k b x 4 (by decide) (Nat.le_trans hb (by decide))
/-- Both names. -/
def namesL (a2 a3 : ByteArray) : List Int := lowL (a2.size : Int) 1 ++ bytesOf a2 ++ lowL (a3.size : Int) 1 ++ bytesOf a3
theorem namesL_len (a2 a3 : ByteArray) : (namesL a2 a3).length = a2.size + a3.size + 2 := by
  simp only [namesL, List.length_append, lowL_length, bytesOf_len]; omega
def flatL (l : List Int) : List Int := l.flatMap (fun x => lowL x 4)
def firstL (a7 : Int) (a8 : Bool) : Int := 64 + a7 - 1 + (if a8 = true then 4 else 0)
def headL (a0 a1 : Int) (a2 a3 a4 : ByteArray) (a5 a6 a7 : Int) (a8 : Bool) (l : List Int) : List Int :=
  if a0 = 3 then [240] ++ lowL a1 4 ++ namesL a2 a3 ++ bytesOf a4
  else if a0 = 4 then [firstL a7 a8] ++ bytesOf a2 ++ lowL a6 a7.toNat
  else if a0 = 5 then [192] ++ lowL 0 4 ++ namesL a2 a3 ++ flatL l
  else [192 + 16 * a0 + a7 - 1] ++ lowL a1 4 ++ namesL a2 a3 ++ (if a0 = 0 then textL a4 else []) ++ encS a5 2 ++ lowL a6 a7.toNat
section
variable (a0 a1 : Int) (a2 a3 a4 : ByteArray) (a5 a6 a7 : Int) (a8 : Bool) (l : List Int)
theorem names_put (k : Nat) (b : List Int) (hb : b.length ≤ 1000) (h2 : a2.size ≤ 20) (h3 : a3.size ≤ 20) : packet_Header_names.f (k + 10) a0 a1 a2 a3 a4 a5 a6 a7 a8 l b = some (b ++ lowL a1 4 ++ namesL a2 a3) := by
  unfold packet_Header_names.f
  rw [low_put4 k b (by omega)]
  simp only [Option.bind_some]
  have hl : (b ++ lowL a1 4).length ≤ 1004 := by rw [List.length_append, lowL_length]; omega
  rw [show k + 10 = (k + 9) + 1 from rfl, packet_Header_names.l0, if_pos (by decide), if_pos rfl, if_pos (by omega)]
  simp only [Option.bind_some]
  rw [if_pos (by simp only [List.length_append, List.length_singleton] at *; omega)]
  rw [show k + 9 = (k + 8) + 1 from rfl, packet_Header_names.l0, if_pos (by decide +kernel), if_neg (by decide +kernel), if_pos (by decide +kernel), if_pos (by simp only [List.length_append, bytesOf_len, List.length_singleton] at *; omega)]
  simp only [Option.bind_some]
  rw [if_pos (by simp only [List.length_append, bytesOf_len, List.length_singleton] at *; omega)]
  rw [show k + 8 = (k + 7) + 1 from rfl, packet_Header_names.l0, if_neg (by decide +kernel)]
  simp only [namesL, lowL, List.nil_append, List.append_assoc, List.cons_append]
theorem put_l (k : Nat) (hl : l.length ≤ 16) (j : Nat) : ∀ (i : Nat) (acc : List Int), i + j = l.length → acc.length + 4 * j ≤ 1000 →
    packet_Put.l0 (k + 10 + j + 1) acc l l.length i = some (acc ++ flatL (l.drop i), 0) := by
  induction j with
  | zero =>
    intro i acc hi _
    rw [packet_Put.l0, if_neg (by omega), List.drop_eq_nil_of_le (by omega)]
    simp [flatL]
  | succ j ih =>
    intro i acc hi ha
    rw [show k + 10 + (j + 1) + 1 = (k + 10 + j + 1) + 1 from by omega, packet_Put.l0, if_pos (by omega), if_pos (by omega), if_pos (by omega), show k + 10 + j + 1 = (k + j + 1) + 10 from by omega, low_put4 _ _ (by omega)]
    rw [Option.bind_some, show wrap64 ((i : Int) + 1) = ((i + 1 : Nat) : Int) from by unfold wrap64; omega, show (k + j + 1) + 10 = k + 10 + j + 1 from by omega, ih (i + 1) _ (by omega) (by rw [List.length_append, lowL_length]; omega)]
    have hd : l.drop i = rd l i :: l.drop (i + 1) := by
      rw [List.drop_eq_getElem_cons (by omega)]
      congr 1
      simp [rd, List.getD_eq_getElem?_getD, List.getElem?_eq_getElem (show i < l.length by omega)]
    rw [hd]
    simp only [flatL, List.flatMap_cons, List.append_assoc]
/-- What is asked of a header in form. -/
theorem ok_facts (h : okH a0 a1 a2 a3 a4 a5 a6 a7 a8 l = true) : a2.size ≤ 20 ∧ a3.size ≤ 20 ∧ a4.size ≤ 512 ∧ 0 ≤ a5 ∧ a5 ≤ 16383 ∧ 0 ≤ a6 ∧ a6 ≤ 4611686018427387903 ∧ l.length ≤ 16 ∧ 0 ≤ a0 ∧ a0 ≤ 5 ∧ ((a0 ≠ 3 ∧ a0 ≠ 5) → 1 ≤ a7 ∧ a7 ≤ 4) := by
  simp only [okH, Bool.and_eq_true, decide_eq_true_eq] at h
  obtain ⟨⟨⟨⟨⟨⟨⟨⟨h2, h3⟩, h4⟩, _⟩, h5⟩, h6⟩, hl⟩, _⟩, hk⟩ := h
  refine ⟨h2, h3, h4, h5.1, h5.2, h6.1, h6.2, hl, ?_⟩
  unfold kindOK at hk
  split at hk
  · simp only [decide_eq_true_eq] at hk; omega
  split at hk
  · omega
  split at hk
  · simp only [decide_eq_true_eq] at hk; omega
  split at hk
  · omega
  · exact absurd hk (by decide)
theorem four (a7 : Int) (h0 : 1 ≤ a7) (h1 : a7 ≤ 4) : a7 = 1 ∨ a7 = 2 ∨ a7 = 3 ∨ a7 = 4 := by omega
theorem put_put (k : Nat) (h : okH a0 a1 a2 a3 a4 a5 a6 a7 a8 l = true) : packet_Put.f (k + 60) a0 a1 a2 a3 a4 a5 a6 a7 a8 l = some (headL a0 a1 a2 a3 a4 a5 a6 a7 a8 l, 0) := by
  obtain ⟨h2, h3, h4, h5, h5', h6, h6', hl, h0, h0', h7⟩ := ok_facts a0 a1 a2 a3 a4 a5 a6 a7 a8 l h
  unfold packet_Put.f headL
  rw [show k + 60 = (k + 30) + 30 from rfl, right_put, h]
  simp only [Option.bind_some, if_true]
  rw [show (k + 30) + 30 = (k + 50) + 10 from rfl, names_put a0 a1 a2 a3 a4 a5 a6 a7 a8 l _ _ (by decide) h2 h3, names_put a0 a1 a2 a3 a4 a5 a6 a7 a8 l _ _ (by decide) h2 h3, names_put a0 a1 a2 a3 a4 a5 a6 a7 a8 l _ _ (by simp) h2 h3]
  simp only [Option.bind_some]
  by_cases c4 : a0 = 4
  · obtain ⟨h7a, h7b⟩ := h7 (by omega)
    rw [if_pos c4, if_neg (show ¬ a0 = 3 by omega), if_pos c4]
    have hx1 : Go.bits .or .u8 (wrap64 (Go.bits .or .i64 64 a7 - 1) % 256) 4 = firstL a7 true := by
      rcases four a7 h7a h7b with e | e | e | e <;> subst e <;> decide +kernel
    have hx2 : wrap64 (Go.bits .or .i64 64 a7 - 1) % 256 = firstL a7 false := by
      rcases four a7 h7a h7b with e | e | e | e <;> subst e <;> decide +kernel
    cases a8 with
    | true =>
      rw [if_pos rfl, hx1, if_pos (by simp; omega), low_puts _ _ (by simp [bytesOf_len]; omega) a6 a7 (by omega) h7b]; rfl
    | false =>
      rw [if_neg (by decide), hx2, if_pos (by simp; omega), low_puts _ _ (by simp [bytesOf_len]; omega) a6 a7 (by omega) h7b]; rfl
  rw [if_neg c4]
  by_cases c3 : a0 = 3
  · rw [if_pos c3, if_pos c3, if_pos (by simp only [List.length_append, lowL_length, namesL_len, List.length_singleton]; omega)]
  rw [if_neg c3, if_neg c3, if_neg c4]
  by_cases c5 : a0 = 5
  · rw [if_pos c5, if_pos c5]
    have ha1 : a1 = 0 := by
      simp only [okH, Bool.and_eq_true, decide_eq_true_eq] at h
      have hk := h.2
      unfold kindOK at hk
      rw [if_neg (by omega), if_neg (by omega), if_neg (by omega), if_pos c5] at hk
      exact (of_decide_eq_true hk).1
    subst ha1
    have hd := put_l l (k + 49 - l.length) hl l.length 0 (([192] ++ lowL 0 4) ++ namesL a2 a3) (by omega) (by simp only [List.length_append, lowL_length, namesL_len, List.length_singleton]; omega)
    rw [show k + 49 - l.length + 10 + l.length + 1 = k + 50 + 10 from by omega] at hd
    exact hd
  rw [if_neg c5, if_neg c5]
  obtain ⟨h7a, h7b⟩ := h7 (by omega)
  have hx : wrap64 (Go.bits .or .i64 (Go.bits .or .i64 192 (wrap64 (a0 * 16))) a7 - 1) % 256 = 192 + 16 * a0 + a7 - 1 := by
    have : a0 = 0 ∨ a0 = 1 ∨ a0 = 2 := by omega
    rcases this with e0 | e0 | e0 <;> subst e0 <;> rcases four a7 h7a h7b with e | e | e | e <;> subst e <;> decide +kernel
  rw [hx]
  have he := encS_len a5 2
  have ht := textL_len a4
  rw [show k + 50 + 10 = (k + 40) + 20 from rfl, len_put _ a5 h5 h5', show k + 40 + 20 = (k + 36) + 24 from rfl, text_put _ a4 h4]
  simp only [Option.bind_some]
  by_cases c0 : a0 = 0
  · rw [if_pos c0, if_pos c0, if_pos (by simp only [List.length_append, lowL_length, namesL_len, List.length_singleton]; omega), if_pos (by simp only [List.length_append, lowL_length, namesL_len, List.length_singleton]; omega), show k + 36 + 24 = (k + 50) + 10 from rfl, low_puts _ _ (by simp only [List.length_append, lowL_length, namesL_len, List.length_singleton]; omega) a6 a7 (by omega) h7b]; rfl
  · rw [if_neg c0, if_neg c0, if_pos (by simp only [List.length_append, lowL_length, namesL_len, List.length_singleton]; omega), show k + 36 + 24 = (k + 50) + 10 from rfl, low_puts _ _ (by simp only [List.length_append, lowL_length, namesL_len, List.length_singleton]; omega) a6 a7 (by omega) h7b, List.append_nil]; rfl
theorem put_no (k : Nat) (h : okH a0 a1 a2 a3 a4 a5 a6 a7 a8 l = false) : packet_Put.f (k + 60) a0 a1 a2 a3 a4 a5 a6 a7 a8 l = some ([], 2) := by
  unfold packet_Put.f
  rw [show k + 60 = (k + 30) + 30 from rfl, right_put, h]; rfl
end
end Go.Proofs.YthagjeomcgphiaaDoor.Pure
