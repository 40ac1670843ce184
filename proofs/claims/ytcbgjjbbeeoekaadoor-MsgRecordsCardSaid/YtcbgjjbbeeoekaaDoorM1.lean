import Derived.Test.YtcbgjjbbeeoekaaDoorP2
set_option maxRecDepth 100000
set_option maxHeartbeats 4000000
set_option linter.unusedSimpArgs false
set_option linter.unusedVariables false
namespace Ph
open Go
/-! Messages (layer 18), plain: what data is right, how numbers are written. -/
/-- a record: its name, its type, its time, its data -/
abbrev Rec := List UInt8 × Int × Int × List UInt8
theorem getS_end (b : List UInt8) : ∀ (s : List UInt8) (e bf a : Nat), (getS b s e bf a).2.2 = 0 → e ≤ b.length → (getS b s e bf a).2.1 ≤ b.length := by
  intro s e bf a
  induction s, e, bf, a using getS.induct (b := b) with
  | case1 s e bf a h1 h2 => intro _ he; rw [getS, if_pos h1, if_pos h2]; dsimp only; split <;> omega
  | case2 s e bf a h1 h2 h3 h4 => intro h; rw [getS, if_pos h1, if_neg h2, if_pos h3, if_pos h4] at h; cases h
  | case3 s e bf a h1 h2 h3 h4 h5 => intro h; rw [getS, if_pos h1, if_neg h2, if_pos h3, if_neg h4, if_pos h5] at h; cases h
  | case4 s e bf a h1 h2 h3 h4 h5 ih =>
    intro h he
    rw [getS, if_pos h1, if_neg h2, if_pos h3, if_neg h4, if_neg h5] at h ⊢
    exact ih h (by split <;> omega)
  | case5 s e bf a h1 h2 h3 h4 => intro h; rw [getS, if_pos h1, if_neg h2, if_neg h3, if_pos h4] at h; cases h
  | case6 s e bf a h1 h2 h3 h4 h5 => intro h; rw [getS, if_pos h1, if_neg h2, if_neg h3, if_neg h4, if_pos h5] at h; exact absurd h h5
  | case7 s e bf a h1 h2 h3 h4 h5 h6 => intro h; rw [getS, if_pos h1, if_neg h2, if_neg h3, if_neg h4, if_neg h5, if_pos h6] at h; cases h
  | case8 s e bf a h1 h2 h3 h4 h5 h6 ih =>
    intro h he
    rw [getS, if_pos h1, if_neg h2, if_neg h3, if_neg h4, if_neg h5, if_neg h6] at h ⊢
    exact ih h he
  | case9 s e bf a h1 => intro h; rw [getS, if_neg h1] at h; cases h
/-- how many bytes the whole, small name has that bytes begin with -/
def plainN (b : List UInt8) : Nat :=
  if (getS b [] 0 0 0).2.2 ≠ 0 then 0 else match wireS (getS b [] 0 0 0).1 with
    | none => 0
    | some w => if (getS b [] 0 0 0).2.1 = w.length ∧ b.take w.length = w then w.length else 0
theorem plainN_le (b : List UInt8) : plainN b ≤ b.length := by
  unfold plainN
  split
  · exact Nat.zero_le _
  · rename_i h
    split
    · exact Nat.zero_le _
    · rename_i w _
      split
      · rename_i h2
        rw [← h2.1]
        exact getS_end b [] 0 0 0 (Classical.not_not.1 h) (Nat.zero_le _)
      · exact Nat.zero_le _
/-- where the texts of a TXT end -/
def txtE (d : List UInt8) (i : Nat) : Nat := if i < d.length then txtE d (i + 1 + (d.getD i 0).toNat) else i
termination_by d.length - i
/-- is the data right for the type? -/
def rightD (k : Int) (d : List UInt8) : Bool :=
  if k = 1 then decide (d.length = 4)
  else if k = 28 then decide (d.length = 16)
  else if k = 2 ∨ k = 5 then decide (0 < d.length ∧ plainN d = d.length)
  else if k = 15 then decide (2 < d.length ∧ plainN (d.drop 2) = d.length - 2)
  else if k = 6 then decide (plainN d ≠ 0 ∧ 0 < plainN (d.drop (plainN d)) ∧ d.length = plainN d + plainN (d.drop (plainN d)) + 20)
  else if k = 16 then decide (0 < txtE d 0 ∧ txtE d 0 = d.length)
  else true
def recOk (r : Rec) : Bool := (nameOf r.1).isSome && (decide (1 ≤ r.2.1 ∧ r.2.1 ≤ 65535) && (decide (0 ≤ r.2.2.1 ∧ r.2.2.1 ≤ 2147483647) && (decide (r.2.2.2.length ≤ 1000) && rightD r.2.1 r.2.2.2)))
/-- a number in so many bytes, the highest first -/
def byteZ (z : Int) : UInt8 := UInt8.ofNat (z % 256).toNat
def numS (n : Int) : Nat → List UInt8
  | 0 => []
  | k + 1 => byteZ (n / 2 ^ (8 * k)) :: numS n k
theorem numS_len (n : Int) (k : Nat) : (numS n k).length = k := by induction k with | zero => rfl | succ k ih => rw [numS, List.length_cons, ih]
end Ph
