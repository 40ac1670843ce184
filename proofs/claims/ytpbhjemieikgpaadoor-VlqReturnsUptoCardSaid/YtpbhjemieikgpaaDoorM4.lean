/- What is put is got: over plain numbers and lists. -/
import Derived.Test.YtpbhjemieikgpaaDoorM3
namespace Go.Proofs.YtpbhjemieikgpaaDoor.Pure
open Go.RowKit Go.Proofs.YtpbhjemieikgpaaDoor.X Go.Proofs.YtpbhjemieikgpaaDoorW.PrintWords Go.Proofs.YtpbhjemieikgpaaDoorW.PrintLast Go.Proofs.YtpbhjemieikgpaaDoorW.PrintMore
set_option linter.unusedSimpArgs false
set_option linter.unusedVariables false

theorem encS_bytes (n size : Int) (h0 : 0 ≤ n) (h : n < capS size) : isBytes (encS n size) := by
  have hs := cap_cases size
  rcases hs with hs | ⟨hc, _⟩
  · intro x hx
    rcases hs with rfl | rfl | rfl | rfl
    · have hb : n < 64 := by simpa [capS] using h
      simp [encS] at hx; omega
    · have hb : n < 16384 := by simpa [capS] using h
      simp [encS] at hx; omega
    · have hb : n < 1073741824 := by simpa [capS] using h
      simp [encS] at hx; omega
    · have hb : n < 4611686018427387904 := by simpa [capS] using h
      simp [encS] at hx; omega
  · omega
theorem encS_length (n size : Int) (hs : size = 1 ∨ size = 2 ∨ size = 4 ∨ size = 8) : ((encS n size).length : Int) = size := by
  rcases hs with rfl | rfl | rfl | rfl <;> simp [encS]
/-- What is put is got, whatever stands behind. -/
theorem getS_enc (n size : Int) (rest : List Int) (h0 : 0 ≤ n) (h : n < capS size) : getS (encS n size ++ rest) = (n, size, 0) := by
  rcases cap_cases size with hs | ⟨hc, _⟩
  · rcases hs with rfl | rfl | rfl | rfl
    · have hb : n < 64 := by simpa [capS] using h
      have e : sizeS (encS n 1 ++ rest) = 1 := by simp [sizeS, encS, rd]; omega
      unfold getS
      rw [if_neg (by simp [encS]), e, if_neg (by simp [encS])]
      simp [encS, rd, valS]; omega
    · have hb : n < 16384 := by simpa [capS] using h
      have e : sizeS (encS n 2 ++ rest) = 2 := by simp [sizeS, encS, rd, show (64 + n / 256) / 64 = 1 from by omega]
      unfold getS
      rw [if_neg (by simp [encS]), e, if_neg (by simp [encS])]
      simp [encS, rd, valS]; omega
    · have hb : n < 1073741824 := by simpa [capS] using h
      have e : sizeS (encS n 4 ++ rest) = 4 := by simp [sizeS, encS, rd, show (128 + n / 16777216) / 64 = 2 from by omega]
      unfold getS
      rw [if_neg (by simp [encS]), e, if_neg (by simp [encS])]
      simp [encS, rd, valS]; omega
    · have hb : n < 4611686018427387904 := by simpa [capS] using h
      have e : sizeS (encS n 8 ++ rest) = 8 := by simp [sizeS, encS, rd, show (192 + n / 72057594037927936) / 64 = 3 from by omega]
      unfold getS
      rw [if_neg (by simp [encS]), e, if_neg (by simp [encS])]
      simp [encS, rd, valS]; omega
  · omega
/-- A beginning of the bytes ends too soon. -/
theorem getS_cut (n size : Int) (h0 : 0 ≤ n) (h : n < capS size) : getS ((encS n size).take (size - 1).toNat) = (0, 0, 3) := by
  rcases cap_cases size with hs | ⟨hc, _⟩
  · rcases hs with rfl | rfl | rfl | rfl
    · rfl
    · have hb : n < 16384 := by simpa [capS] using h
      have e : sizeS ((encS n 2).take 1) = 2 := by simp [sizeS, encS, rd, show (64 + n / 256) / 64 = 1 from by omega]
      unfold getS
      rw [show ((2 : Int) - 1).toNat = 1 from rfl, if_neg (by simp [encS]), e, if_pos (by simp [encS])]
    · have hb : n < 1073741824 := by simpa [capS] using h
      have e : sizeS ((encS n 4).take 3) = 4 := by simp [sizeS, encS, rd, show (128 + n / 16777216) / 64 = 2 from by omega]
      unfold getS
      rw [show ((4 : Int) - 1).toNat = 3 from rfl, if_neg (by simp [encS]), e, if_pos (by simp [encS])]
    · have hb : n < 4611686018427387904 := by simpa [capS] using h
      have e : sizeS ((encS n 8).take 7) = 8 := by simp [sizeS, encS, rd, show (192 + n / 72057594037927936) / 64 = 3 from by omega]
      unfold getS
      rw [show ((8 : Int) - 1).toNat = 7 from rfl, if_neg (by simp [encS]), e, if_pos (by simp [encS])]
  · omega
/-- The number of bytes. -/
def numL (l : List Int) : Int := valS 0 l
theorem valS_split (l : List Int) : ∀ a : Int, valS a l = a * 256 ^ l.length + numL l := by
  induction l with
  | nil => intro a; simp [valS, numL]
  | cons x l ih =>
    intro a
    have e1 : valS a (x :: l) = valS (a * 256 + x) l := rfl
    have e2 : numL (x :: l) = valS (0 * 256 + x) l := rfl
    rw [e1, e2, ih, ih (0 * 256 + x), List.length_cons, Int.pow_succ, Int.zero_mul, Int.zero_add, Int.add_mul, Int.mul_assoc, Int.mul_comm 256 (256 ^ l.length)]
    omega
theorem numL_bound (l : List Int) (h : isBytes l) : 0 ≤ numL l ∧ numL l < 256 ^ l.length := by
  induction l with
  | nil => simp [numL, valS]
  | cons x l ih =>
    obtain ⟨i0, i1⟩ := ih (fun y hy => h y (List.mem_cons_of_mem _ hy))
    have hx := h x (List.mem_cons_self ..)
    have e : numL (x :: l) = x * 256 ^ l.length + numL l := by
      have : numL (x :: l) = valS (0 * 256 + x) l := rfl
      rw [this, valS_split]; simp
    have hp : (0 : Int) ≤ 256 ^ l.length := Int.pow_nonneg (by decide +kernel)
    rw [e, List.length_cons, Int.pow_succ]
    generalize (256 : Int) ^ l.length = p at *
    have m1 : 0 ≤ x * p := Int.mul_nonneg hx.1 hp
    have m2 : x * p ≤ 255 * p := Int.mul_le_mul_of_nonneg_right (by omega) hp
    omega
theorem less_num (l m : List Int) (hl : isBytes l) (hm : isBytes m) (h : l.length = m.length) : Op.bytesLess (strOfNums l).toList (strOfNums m).toList = decide (numL l < numL m) := by
  rw [Go.Lib.strOfNums_toList, Go.Lib.strOfNums_toList]
  induction l generalizing m with
  | nil => cases m with
    | nil => decide +kernel
    | cons y m => simp at h
  | cons x l ih => cases m with
    | nil => simp at h
    | cons y m =>
      have hx := hl x (List.mem_cons_self ..)
      have hy := hm y (List.mem_cons_self ..)
      have bl := numL_bound l (fun z hz => hl z (List.mem_cons_of_mem _ hz))
      have bm := numL_bound m (fun z hz => hm z (List.mem_cons_of_mem _ hz))
      have hlen : l.length = m.length := by simpa using h
      have i := ih m (fun z hz => hl z (List.mem_cons_of_mem _ hz)) (fun z hz => hm z (List.mem_cons_of_mem _ hz)) hlen
      have e1 : numL (x :: l) = x * 256 ^ l.length + numL l := by
        have : numL (x :: l) = valS (0 * 256 + x) l := rfl
        rw [this, valS_split]; simp
      have e2 : numL (y :: m) = y * 256 ^ l.length + numL m := by
        have : numL (y :: m) = valS (0 * 256 + y) m := rfl
        rw [this, valS_split, hlen]; simp
      rw [e1, e2]
      rw [← hlen] at bm
      have hp : (0 : Int) < 256 ^ l.length := Int.pow_pos (by decide +kernel)
      have eq1 : (UInt8.ofNat x.toNat < UInt8.ofNat y.toNat) ↔ x < y := by
        rw [UInt8.lt_iff_toNat_lt]; simp only [UInt8.toNat_ofNat']; rw [Nat.mod_eq_of_lt (by omega), Nat.mod_eq_of_lt (by omega)]; omega
      have eq2 : (UInt8.ofNat x.toNat = UInt8.ofNat y.toNat) ↔ x = y := by
        constructor
        · intro e
          have := congrArg UInt8.toNat e
          simp only [UInt8.toNat_ofNat'] at this; rw [Nat.mod_eq_of_lt (by omega), Nat.mod_eq_of_lt (by omega)] at this; omega
        · intro e; rw [e]
      have e3 : Op.bytesLess (Go.Lib.bytesOf (x :: l)) (Go.Lib.bytesOf (y :: m)) = (decide (x < y) || (decide (x = y) && decide (numL l < numL m))) := by
        rw [← i]
        show (decide (UInt8.ofNat x.toNat < UInt8.ofNat y.toNat) || (UInt8.ofNat x.toNat == UInt8.ofNat y.toNat && Op.bytesLess (Go.Lib.bytesOf l) (Go.Lib.bytesOf m))) = _
        rw [decide_eq_decide.2 eq1]
        congr 2
        rw [Bool.eq_iff_iff]; simp [eq2]
      rw [e3, Bool.eq_iff_iff]
      simp only [Bool.or_eq_true, Bool.and_eq_true, decide_eq_true_eq]
      generalize (256 : Int) ^ l.length = p at *
      constructor
      · rintro (c | ⟨c, d⟩)
        · have m1 : (x + 1) * p ≤ y * p := Int.mul_le_mul_of_nonneg_right (by omega) (by omega)
          rw [Int.add_mul] at m1
          omega
        · subst c; omega
      · intro c
        by_cases d : x < y
        · exact .inl d
        · right
          by_cases f : x = y
          · subst f; exact ⟨rfl, by omega⟩
          · exfalso
            have m1 : (y + 1) * p ≤ x * p := Int.mul_le_mul_of_nonneg_right (by omega) (by omega)
            rw [Int.add_mul] at m1
            omega
end Go.Proofs.YtpbhjemieikgpaaDoor.Pure
