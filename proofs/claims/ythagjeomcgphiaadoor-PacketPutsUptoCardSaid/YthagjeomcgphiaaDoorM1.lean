/- What the program's and the chapter's ways to put a number into bytes come to, over plain numbers and lists. -/
import Derived.Test.YthagjeomcgphiaaDoorX3
namespace Go.Proofs.YthagjeomcgphiaaDoor.Pure
open Go.RowKit Go.Proofs.YthagjeomcgphiaaDoor.X Go.Proofs.YthagjeomcgphiaaDoorW.PrintWords Go.Proofs.YthagjeomcgphiaaDoorW.PrintLast Go.Proofs.YthagjeomcgphiaaDoorW.PrintMore
set_option linter.unusedSimpArgs false
set_option linter.unusedVariables false

/-- Below what a number must be for so many bytes. -/
def capS (size : Int) : Int := if size = 1 then 64 else if size = 2 then 16384 else if size = 4 then 1073741824 else if size = 8 then 4611686018427387904 else 0
/-- Its bytes. -/
def encS (n size : Int) : List Int :=
  if size = 1 then [n] else if size = 2 then [64 + n / 256, n % 256] else if size = 4 then [128 + n / 16777216, n / 65536 % 256, n / 256 % 256, n % 256]
  else [192 + n / 72057594037927936, n / 281474976710656 % 256, n / 1099511627776 % 256, n / 4294967296 % 256, n / 16777216 % 256, n / 65536 % 256, n / 256 % 256, n % 256]
theorem cap_cases (size : Int) : (size = 1 ∨ size = 2 ∨ size = 4 ∨ size = 8) ∨ (capS size = 0 ∧ size ≠ 1 ∧ size ≠ 2 ∧ size ≠ 4 ∧ size ≠ 8) := by
  by_cases h1 : size = 1
  · exact .inl (.inl h1)
  by_cases h2 : size = 2
  · exact .inl (.inr (.inl h2))
  by_cases h4 : size = 4
  · exact .inl (.inr (.inr (.inl h4)))
  by_cases h8 : size = 8
  · exact .inl (.inr (.inr (.inr h8)))
  exact .inr ⟨by simp [capS, h1, h2, h4, h8], h1, h2, h4, h8⟩
theorem u64_id (x : Int) (h0 : 0 ≤ x) (h1 : x < 18446744073709551616) : IntKind.u64.wrap x = x := by rw [IntKind.wrap_u64]; omega
theorem u64_wraps (n : Int) (h0 : 0 ≤ n) (h1 : n < 2 ^ 64) : IntKind.u64.wrap n = n := u64_id n h0 (by simpa using h1)
theorem or_join (i : Nat) (x y : Int) (hy0 : 0 ≤ y) (hy : y < 2 ^ i) (hx0 : 0 ≤ x) (hx : x % 2 ^ i = 0) (hx1 : x < 2 ^ 64) (hy1 : y < 2 ^ 64) : Go.bits .or .u64 x y = x + y :=
  bits_join .u64 64 (by decide +kernel) u64_wraps i x y hx0 hx hx1 hy0 hy hy1
theorem bits_or_comm (x y : Int) : Go.bits .or .u64 x y = Go.bits .or .u64 y x := by
  simp only [Go.bits]; rw [BitVec.or_comm]
theorem or_tag (i : Nat) (n t : Int) (h0 : 0 ≤ n) (hn : n < 2 ^ i) (ht0 : 0 ≤ t) (ht : t % 2 ^ i = 0) (ht1 : t < 2 ^ 64) (hn1 : n < 2 ^ 64) : Go.bits .or .u64 n t = n + t := by
  rw [bits_or_comm, or_join i t n h0 hn ht0 ht ht1 hn1, Int.add_comm]
theorem shr_at (x : Int) (j : Nat) (hj : j ≤ 64) : shr .u64 x (j : Int) = x / 2 ^ j := by
  unfold shr; simp [IntKind.bits, Nat.min_eq_left hj]
theorem and_pow (size : Int) (h1 : 1 ≤ size) (h8 : size ≤ 8) : (Go.bits .and .i64 size (wrap64 (size - 1)) != 0) = !(decide (size = 1 ∨ size = 2 ∨ size = 4 ∨ size = 8)) := by
  have h : size = 1 ∨ size = 2 ∨ size = 3 ∨ size = 4 ∨ size = 5 ∨ size = 6 ∨ size = 7 ∨ size = 8 := by omega
  rcases h with h | h | h | h | h | h | h | h <;> subst h <;> decide +kernel

/-! ### int -/
theorem fits_int (n size : Int) (hs : size = 1 ∨ size = 2 ∨ size = 4 ∨ size = 8) (hn : n < 18446744073709551616) : vlq_fits_int.f n size = some (decide (0 ≤ n ∧ n < capS size)) := by
  unfold vlq_fits_int.f
  by_cases h : n ≥ 0
  · rw [if_pos h]; rw [u64_id n h hn]
    rcases hs with rfl | rfl | rfl | rfl
    · rw [show wrap64 (wrap64 (8 * 1) - 2) = ((6 : Nat) : Int) from by decide +kernel, if_pos (by decide +kernel), shr_at _ 6 (by decide +kernel)]
      congr 1
      rw [Bool.eq_iff_iff]; simp [capS]; omega
    · rw [show wrap64 (wrap64 (8 * 2) - 2) = ((14 : Nat) : Int) from by decide +kernel, if_pos (by decide +kernel), shr_at _ 14 (by decide +kernel)]
      congr 1
      rw [Bool.eq_iff_iff]; simp [capS]; omega
    · rw [show wrap64 (wrap64 (8 * 4) - 2) = ((30 : Nat) : Int) from by decide +kernel, if_pos (by decide +kernel), shr_at _ 30 (by decide +kernel)]
      congr 1
      rw [Bool.eq_iff_iff]; simp [capS]; omega
    · rw [show wrap64 (wrap64 (8 * 8) - 2) = ((62 : Nat) : Int) from by decide +kernel, if_pos (by decide +kernel), shr_at _ 62 (by decide +kernel)]
      congr 1
      rw [Bool.eq_iff_iff]; simp [capS]; omega
  · rw [if_neg h]; congr 1; symm; apply decide_eq_false; omega
theorem loop_int (x : Int) (j : Nat) : ∀ (k : Nat) (l : List Int), j ≤ 8 → l.length + j ≤ 8 → vlq_PutIn_int.l0 (k + j + 1) x l (8 * (j : Int) - 8) = some (l ++ (List.range j).map (fun i => shr .u64 x (8 * ((j - 1 - i : Nat) : Int)) % 256), 0) := by
  induction j with
  | zero => intro k l _ _; simp [vlq_PutIn_int.l0]
  | succ j ih =>
    intro k l hj hl
    rw [show k + (j + 1) + 1 = (k + j + 1) + 1 from by omega]
    rw [vlq_PutIn_int.l0]
    rw [if_pos (by omega), if_pos (by omega), if_pos (by omega)]
    rw [show wrap64 (8 * ((j + 1 : Nat) : Int) - 8 - 8) = 8 * (j : Int) - 8 from by unfold wrap64; omega]
    rw [ih k (l ++ [shr .u64 x (8 * ((j + 1 : Nat) : Int) - 8) % 256]) (by omega) (by simp; omega)]
    congr 1; congr 1
    rw [List.range_succ_eq_map, List.map_cons, List.map_map, List.append_assoc]
    congr 1
    rw [show (8 * ((j + 1 : Nat) : Int) - 8) = 8 * ((j + 1 - 1 - 0 : Nat) : Int) from by omega]
    simp only [List.cons_append, List.nil_append, List.cons.injEq, true_and]
    apply List.map_congr_left
    intro i _
    simp only [Function.comp]
    rw [show j + 1 - 1 - (i + 1) = j - 1 - i from by omega]
theorem putin_int (k : Nat) (n size : Int) (hlo : -9223372036854775808 ≤ n) (hn : n < 18446744073709551616) :
    vlq_PutIn_int.f (k + 20) n size = some (if capS size = 0 then ([], 1) else if 0 ≤ n ∧ n < capS size then (encS n size, 0) else ([], 5)) := by
  unfold vlq_PutIn_int.f
  have hj : ∀ b : Bool, vlq_PutIn_int.j0 (k + 20) n size b = if b = true then some ([], 1) else (vlq_fits_int.f n size).bind fun t => (if t = true then ((bits_TrailingZeros.f (IntKind.u64.wrap size)).bind fun z => (if 0 ≤ wrap64 (wrap64 (8 * size) - 2) then vlq_PutIn_int.l0 (k + 19) (Go.bits .or .u64 (IntKind.u64.wrap n) (shl .u64 (IntKind.u64.wrap z) (wrap64 (wrap64 (8 * size) - 2)))) [] (wrap64 (8 * wrap64 (size - 1))) else none)) else some ([], 5)) := by
    intro b; rw [show k + 20 = (k + 19) + 1 from rfl]; simp only [vlq_PutIn_int.j0]
  rcases cap_cases size with hs | ⟨hc, h1, h2, h4, h8⟩
  · rw [if_neg (by omega), if_neg (by omega), and_pow size (by omega) (by omega), decide_eq_true hs, hj]
    rw [show (!true) = false from rfl, if_neg (by decide +kernel), fits_int n size hs hn]
    simp only [Option.bind_some]
    have hcap : capS size ≠ 0 := by rcases hs with rfl | rfl | rfl | rfl <;> decide +kernel
    rw [if_neg hcap]
    by_cases hf : 0 ≤ n ∧ n < capS size
    · rw [if_pos (decide_eq_true hf), if_pos hf]
      obtain ⟨hf0, hf1⟩ := hf
      rw [u64_id n hf0 hn]
      rcases hs with rfl | rfl | rfl | rfl
      · rw [show bits_TrailingZeros.f (IntKind.u64.wrap 1) = some 0 from by decide +kernel]
        simp only [Option.bind_some]
        rw [if_pos (by decide +kernel), show shl .u64 (IntKind.u64.wrap 0) (wrap64 (wrap64 (8 * 1) - 2)) = 0 from by decide +kernel]
        have hb : n < 64 := by simpa [capS] using hf1
        rw [or_tag 6 n 0 hf0 (by simpa using hb) (by decide +kernel) (by decide +kernel) (by decide +kernel) (by simp; omega)]
        rw [show wrap64 (8 * wrap64 (1 - 1)) = 8 * ((1 : Nat) : Int) - 8 from by decide +kernel, show k + 19 = (k + 17) + 1 + 1 from rfl, loop_int _ 1 (k + 17) [] (by decide +kernel) (by decide +kernel)]
        simp [List.range_succ, shr, IntKind.bits, encS]
        omega
      · rw [show bits_TrailingZeros.f (IntKind.u64.wrap 2) = some 1 from by decide +kernel]
        simp only [Option.bind_some]
        rw [if_pos (by decide +kernel), show shl .u64 (IntKind.u64.wrap 1) (wrap64 (wrap64 (8 * 2) - 2)) = 16384 from by decide +kernel]
        have hb : n < 16384 := by simpa [capS] using hf1
        rw [or_tag 14 n 16384 hf0 (by simpa using hb) (by decide +kernel) (by decide +kernel) (by decide +kernel) (by simp; omega)]
        rw [show wrap64 (8 * wrap64 (2 - 1)) = 8 * ((2 : Nat) : Int) - 8 from by decide +kernel, show k + 19 = (k + 16) + 2 + 1 from rfl, loop_int _ 2 (k + 16) [] (by decide +kernel) (by decide +kernel)]
        simp [List.range_succ, shr, IntKind.bits, encS]
        omega
      · rw [show bits_TrailingZeros.f (IntKind.u64.wrap 4) = some 2 from by decide +kernel]
        simp only [Option.bind_some]
        rw [if_pos (by decide +kernel), show shl .u64 (IntKind.u64.wrap 2) (wrap64 (wrap64 (8 * 4) - 2)) = 2147483648 from by decide +kernel]
        have hb : n < 1073741824 := by simpa [capS] using hf1
        rw [or_tag 30 n 2147483648 hf0 (by simpa using hb) (by decide +kernel) (by decide +kernel) (by decide +kernel) (by simp; omega)]
        rw [show wrap64 (8 * wrap64 (4 - 1)) = 8 * ((4 : Nat) : Int) - 8 from by decide +kernel, show k + 19 = (k + 14) + 4 + 1 from rfl, loop_int _ 4 (k + 14) [] (by decide +kernel) (by decide +kernel)]
        simp [List.range_succ, shr, IntKind.bits, encS]
        omega
      · rw [show bits_TrailingZeros.f (IntKind.u64.wrap 8) = some 3 from by decide +kernel]
        simp only [Option.bind_some]
        rw [if_pos (by decide +kernel), show shl .u64 (IntKind.u64.wrap 3) (wrap64 (wrap64 (8 * 8) - 2)) = 13835058055282163712 from by decide +kernel]
        have hb : n < 4611686018427387904 := by simpa [capS] using hf1
        rw [or_tag 62 n 13835058055282163712 hf0 (by simpa using hb) (by decide +kernel) (by decide +kernel) (by decide +kernel) (by simp; omega)]
        rw [show wrap64 (8 * wrap64 (8 - 1)) = 8 * ((8 : Nat) : Int) - 8 from by decide +kernel, show k + 19 = (k + 10) + 8 + 1 from rfl, loop_int _ 8 (k + 10) [] (by decide +kernel) (by decide +kernel)]
        simp [List.range_succ, shr, IntKind.bits, encS]
        omega
    · rw [if_neg (by simpa using hf), if_neg hf]
  · rw [if_pos hc]
    have hx : ∀ b, b = true → vlq_PutIn_int.j0 (k + 20) n size b = some ([], 1) := by intro b hb; rw [hj, if_pos hb]
    by_cases c1 : size < 1
    · rw [if_pos c1, hx _ rfl]
    · rw [if_neg c1]
      by_cases c2 : size > 8
      · rw [if_pos c2, hx _ rfl]
      · rw [if_neg c2, and_pow size (by omega) (by omega), decide_eq_false (by omega)]
        exact hx _ rfl
/-- What Put comes to. -/
theorem put_int (k : Nat) (n : Int) (hlo : -9223372036854775808 ≤ n) (hn : n < 18446744073709551616) :
    vlq_Put_int.f (k + 24) n = some (if 0 ≤ n ∧ n < 4611686018427387904 then (encS n (if n < 64 then 1 else if n < 16384 then 2 else if n < 1073741824 then 4 else 8), 0) else ([], 5)) := by
  unfold vlq_Put_int.f
  have round : ∀ (j : Nat) (size : Int), size = 1 ∨ size = 2 ∨ size = 4 ∨ size = 8 → vlq_Put_int.l0 (k + 20 + j + 1) n size = if 0 ≤ n ∧ n < capS size then some (encS n size, 0) else vlq_Put_int.l0 (k + 20 + j) n (size * 2) := by
    intro j size hs
    rw [vlq_Put_int.l0, if_pos (by omega), fits_int n size hs hn]
    simp only [Option.bind_some]
    have hcap : capS size ≠ 0 := by rcases hs with rfl | rfl | rfl | rfl <;> decide +kernel
    rw [show wrap64 (size * 2) = size * 2 from by unfold wrap64; omega]
    by_cases hf : 0 ≤ n ∧ n < capS size
    · rw [if_pos (decide_eq_true hf), if_pos hf, show k + 20 + j = (k + j) + 20 from by omega, putin_int (k + j) n size hlo hn, if_neg hcap, if_pos hf]
      rfl
    · rw [if_neg (by simpa using hf), if_neg hf]
  rw [show k + 24 = k + 20 + 3 + 1 from rfl, round 3 1 (by decide +kernel), show k + 20 + 3 = k + 20 + 2 + 1 from rfl, round 2 (1 * 2) (by decide +kernel), show k + 20 + 2 = k + 20 + 1 + 1 from rfl, round 1 (1 * 2 * 2) (by decide +kernel), show k + 20 + 1 = k + 20 + 0 + 1 from rfl, round 0 (1 * 2 * 2 * 2) (by decide +kernel)]
  have hend : vlq_Put_int.l0 (k + 20 + 0) n (1 * 2 * 2 * 2 * 2) = some ([], 5) := by
    rw [show k + 20 + 0 = k + 19 + 1 from rfl, vlq_Put_int.l0, if_neg (by decide +kernel)]
  rw [hend, show capS 1 = 64 from rfl, show capS (1 * 2) = 16384 from rfl, show capS (1 * 2 * 2) = 1073741824 from rfl, show capS (1 * 2 * 2 * 2) = 4611686018427387904 from rfl]
  by_cases h0 : 0 ≤ n
  · by_cases h1 : n < 64
    · rw [if_pos ⟨h0, h1⟩, if_pos ⟨h0, by omega⟩, if_pos h1]
    · by_cases h2 : n < 16384
      · rw [if_neg (by omega), if_pos ⟨h0, h2⟩, if_pos ⟨h0, by omega⟩, if_neg h1, if_pos h2]; rfl
      · by_cases h4 : n < 1073741824
        · rw [if_neg (by omega), if_neg (by omega), if_pos ⟨h0, h4⟩, if_pos ⟨h0, by omega⟩, if_neg h1, if_neg h2, if_pos h4]; rfl
        · by_cases h8 : n < 4611686018427387904
          · rw [if_neg (by omega), if_neg (by omega), if_neg (by omega), if_pos ⟨h0, h8⟩, if_pos ⟨h0, h8⟩, if_neg h1, if_neg h2, if_neg h4]; rfl
          · rw [if_neg (by omega), if_neg (by omega), if_neg (by omega), if_neg (by omega), if_neg (by omega)]
  · rw [if_neg (by omega), if_neg (by omega), if_neg (by omega), if_neg (by omega), if_neg (by omega)]

/-! ### texts and their bytes -/
theorem nums_size (l : List Int) : (strOfNums l).size = l.length := by simp [strOfNums, ByteArray.size]
theorem nums_app (a b : List Int) : strOfNums a ++ strOfNums b = strOfNums (a ++ b) := by
  apply ByteArray.ext
  rw [ByteArray.data_append]
  simp [strOfNums]
theorem strOf_bytesOf (s : ByteArray) : strOfNums (bytesOf s) = s := by
  obtain ⟨⟨l⟩⟩ := s
  simp [strOfNums, bytesOf, Function.comp_def]
theorem bytesOf_len (s : ByteArray) : (bytesOf s).length = s.size := by
  unfold bytesOf
  rw [List.length_map, Array.length_toList]; rfl
theorem app_bytesOf (l : List Int) (s : ByteArray) : strOfNums l ++ s = strOfNums (l ++ bytesOf s) := by
  rw [← nums_app, strOf_bytesOf]
/-- The lowest bytes of a number, the highest first. -/
def lowL : Int → Nat → List Int
  | _, 0 => []
  | x, s + 1 => lowL (x / 256) s ++ [x % 256]
theorem lowL_length (s : Nat) : ∀ x : Int, (lowL x s).length = s := by
  induction s with
  | zero => intro x; rfl
  | succ s ih => intro x; rw [lowL, List.length_append, ih]; rfl
theorem lowL_front (s : Nat) : ∀ x : Int, lowL x (s + 1) = (x / 256 ^ s % 256) :: lowL x s := by
  induction s with
  | zero => intro x; simp [lowL]
  | succ s ih =>
    intro x
    rw [lowL, ih (x / 256)]
    conv => rhs; rw [lowL]
    rw [List.cons_append, Int.ediv_ediv_of_nonneg (by decide +kernel), Int.pow_succ, Int.mul_comm (256 ^ s) 256]
theorem shr_i64 (x : Int) (j : Nat) (hj : j ≤ 64) : shr .i64 x (j : Int) = x / 2 ^ j := by
  unfold shr; simp [IntKind.bits, Nat.min_eq_left hj]
theorem low_put_l (x : Int) (j : Nat) : ∀ (k : Nat) (l : List Int), j ≤ 8 → l.length + j ≤ 100000000 →
    packet_low.l0 (k + j + 1) l x (8 * (j : Int) - 8) = some (l ++ lowL x j) := by
  induction j with
  | zero => intro k l _ _; rw [packet_low.l0, if_neg (by omega), lowL, List.append_nil]
  | succ j ih =>
    intro k l hj hl
    rw [show k + (j + 1) + 1 = (k + j + 1) + 1 from by omega, packet_low.l0, if_pos (by omega), if_pos (by omega), if_pos (by omega)]
    rw [show wrap64 (8 * ((j + 1 : Nat) : Int) - 8 - 8) = 8 * (j : Int) - 8 from by unfold wrap64; omega, show (8 * ((j + 1 : Nat) : Int) - 8) = ((8 * j : Nat) : Int) from by omega, shr_i64 x (8 * j) (by omega)]
    rw [ih k _ (by omega) (by simp; omega), lowL_front, List.append_assoc, show (2 : Int) ^ (8 * j) = 256 ^ j from by rw [Int.pow_mul]; rfl]
    rfl
theorem low_put (k : Nat) (l : List Int) (x : Int) (s : Nat) (hs : s ≤ 8) (hl : l.length ≤ 10000000) : packet_low.f (k + 10) l x (s : Int) = some (l ++ lowL x s) := by
  unfold packet_low.f
  have h := low_put_l x s (k + 9 - s) l hs (by omega)
  rw [show k + 9 - s + s + 1 = k + 10 from by omega] at h
  rw [show wrap64 (8 * wrap64 ((s : Int) - 1)) = 8 * (s : Int) - 8 from by unfold wrap64; omega]
  exact h
end Go.Proofs.YthagjeomcgphiaaDoor.Pure
