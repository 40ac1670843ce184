import Derived.Test.YtcbgjjbbeeoekaaDoorPhLib
set_option maxRecDepth 100000
set_option maxHeartbeats 4000000
set_option linter.unusedSimpArgs false
set_option linter.unusedVariables false
namespace Ph
open Go
/-! Names (layer 17), over plain lists of bytes: their parts. -/
/-- May a part have it? -/
def letB (c : UInt8) : Bool := (decide (97 ≤ c.toNat) && decide (c.toNat ≤ 122)) || ((decide (48 ≤ c.toNat) && decide (c.toNat ≤ 57)) || (decide (c.toNat = 45) || (decide (c.toNat = 95) || decide (c.toNat = 42))))
/-- The parts of the rest of a text, of whose first part some bytes are read. -/
def partsOf : List UInt8 → List UInt8 → Option (List (List UInt8))
  | [], cur => if cur = [] then some [] else none
  | c :: r, cur => if c = 46 then (if cur = [] ∨ 63 < cur.length then none else (partsOf r []).map (cur :: ·)) else if letB c = true then partsOf r (cur ++ [c]) else none
/-- The parts of a name. -/
def nameOf (l : List UInt8) : Option (List (List UInt8)) := if l = [46] then some [] else if l = [] ∨ 254 < l.length then none else partsOf l []
/-- A byte more at the first part. -/
def pre (cur : List UInt8) : List (List UInt8) → List (List UInt8)
  | [] => []
  | p :: ps => (cur ++ p) :: ps
/-- A text cut at each dot. -/
def dots : List UInt8 → List (List UInt8)
  | [] => [[]]
  | c :: r => if c = 46 then [] :: dots r else pre [c] (dots r)
theorem dots_ne (r : List UInt8) : ∃ p ps, dots r = p :: ps := by
  induction r with
  | nil => exact ⟨_, _, rfl⟩
  | cons c r ih =>
    obtain ⟨p, ps, h⟩ := ih
    unfold dots
    by_cases hc : c = 46
    · rw [if_pos hc]; exact ⟨_, _, rfl⟩
    · rw [if_neg hc, h]; exact ⟨_, _, rfl⟩
theorem pre_nil (x : List (List UInt8)) : pre [] x = x := by cases x <;> rfl
theorem pre_pre (a b : List UInt8) (x : List (List UInt8)) : pre a (pre b x) = pre (a ++ b) x := by cases x <;> simp [pre]

def okPart (p : List UInt8) : Bool := decide (p ≠ []) && (decide (p.length ≤ 63) && p.all letB)
theorem partsOf_dots : ∀ (body cur : List UInt8), cur.all letB = true → partsOf (body ++ [46]) cur = if (pre cur (dots body)).all okPart = true then some (pre cur (dots body)) else none := by
  intro body
  induction body with
  | nil =>
    intro cur hc
    simp only [List.nil_append, partsOf, dots, pre, List.append_nil, if_true, List.all_cons, List.all_nil, Bool.and_true]
    by_cases h1 : cur = []
    · subst h1; rw [if_pos (.inl rfl), if_neg (by decide)]
    · by_cases h2 : 63 < cur.length
      · rw [if_pos (.inr h2), if_neg (by simp [okPart]; omega)]
      · rw [if_neg (by simp [h1]; omega), if_pos (by rw [okPart, hc]; simp [h1]; omega)]; rfl
  | cons c r ih =>
    intro cur hc
    rw [List.cons_append, partsOf, dots]
    by_cases h46 : c = 46
    · rw [if_pos h46, if_pos h46]
      simp only [pre, List.append_nil, List.all_cons]
      have := ih [] rfl
      rw [pre_nil] at this
      rw [this]
      by_cases h1 : cur = []
      · subst h1; rw [if_pos (.inl rfl), if_neg (by simp [okPart])]
      · by_cases h2 : 63 < cur.length
        · rw [if_pos (.inr h2), if_neg (by simp [okPart]; omega)]
        · rw [if_neg (by simp [h1]; omega)]
          have hok : okPart cur = true := by rw [okPart, hc]; simp [h1]; omega
          rw [hok, Bool.true_and]
          by_cases h3 : (dots r).all okPart = true
          · rw [if_pos h3, if_pos h3]; rfl
          · rw [if_neg h3, if_neg h3]; rfl
    · rw [if_neg h46, if_neg h46, pre_pre]
      by_cases hl : letB c = true
      · rw [if_pos hl, ih (cur ++ [c]) (by rw [List.all_append, hc]; simp [hl])]
      · rw [if_neg hl, if_neg]
        obtain ⟨p, ps, h⟩ := dots_ne r
        rw [h]
        simp [pre, okPart, hl]
theorem partsOf_end : ∀ (r cur : List UInt8), r ≠ [] → r.getLast? ≠ some 46 → partsOf r cur = none := by
  intro r
  induction r with
  | nil => intro cur h; exact absurd rfl h
  | cons c r ih =>
    intro cur _ hl
    rw [partsOf]
    cases r with
    | nil =>
      have h46 : c ≠ 46 := fun e => hl (by subst e; rfl)
      rw [if_neg h46]
      split
      · simp [partsOf]
      · rfl
    | cons d r =>
      have hl' : (d :: r).getLast? ≠ some 46 := by simpa using hl
      rw [ih [] (by simp) hl', ih (cur ++ [c]) (by simp) hl']
      split
      · split <;> rfl
      · split <;> rfl

/-! The library's cut. -/
theorem splitK_ne (c : UInt8) (h : c ≠ 46) (k : Nat) (r : List UInt8) : Go.Lib.splitK [46] 0 k (c :: r) = pre [c] (Go.Lib.splitK [46] 0 k r) := by
  cases k with
  | zero => rfl
  | succ k =>
    have hp : ([46] : List UInt8).isPrefixOf (c :: r) = false := by simp [List.isPrefixOf, Ne.symm h]
    have hix : Go.Lib.index (c :: r) [46] = if Go.Lib.index r [46] == -1 then -1 else Go.Lib.index r [46] + 1 := by rw [Go.Lib.index, hp]; simp
    by_cases hm : Go.Lib.index r [46] = -1
    · rw [Go.Lib.splitK, Go.Lib.splitK, hix, hm]; rfl
    · have hge := Go.Lib.index_ge r [46]
      obtain ⟨j, hj⟩ : ∃ j : Nat, Go.Lib.index r [46] = j := ⟨(Go.Lib.index r [46]).toNat, by omega⟩
      rw [Go.Lib.splitK, Go.Lib.splitK, hix, if_neg (fun e => hm (beq_iff_eq.1 e)), hj, if_neg (fun e => by have := beq_iff_eq.1 e; omega), if_neg (fun e => by have := beq_iff_eq.1 e; omega)]
      simp only [show ((j : Int) + 1).toNat = j + 1 from by omega, Int.toNat_natCast]
      simp only [Nat.add_zero, List.take_succ_cons, pre, List.cons_append, List.nil_append, List.length_singleton, List.drop_succ_cons]
theorem splitK_eq (k : Nat) (r : List UInt8) : Go.Lib.splitK [46] 0 (k + 1) (46 :: r) = [] :: Go.Lib.splitK [46] 0 k r := by
  have hix : Go.Lib.index (46 :: r) [46] = 0 := by rw [Go.Lib.index]; simp [List.isPrefixOf]
  rw [Go.Lib.splitK, hix]; simp
theorem splitK_dots : ∀ r : List UInt8, Go.Lib.splitK [46] 0 (r.count 46) r = dots r := by
  intro r
  induction r with
  | nil => rfl
  | cons c r ih =>
    unfold dots
    by_cases h : c = 46
    · subst h; rw [List.count_cons_self, splitK_eq, if_pos rfl, ih]
    · rw [List.count_cons_of_ne (by simpa using h), splitK_ne c h, if_neg h, ih]
theorem split_dots (l : List UInt8) : Go.Lib.splitB (str [46]) 0 (Go.Lib.countB (str l) (str [46])) (str l) = (dots l).map str ∧ Go.Lib.countB (str l) (str [46]) + 1 = (dots l).length := by
  have e := Go.Lib.splitB_data (str [46]) 0 (Go.Lib.countB (str l) (str [46])) (str l)
  have hc : Go.Lib.countB (str l) (str [46]) = l.count 46 := by have := Go.Lib.count_one 46 l; simpa [Go.Lib.countB, data_str] using this
  have hn : Go.Lib.countB (str l) (str [46]) + 1 = (Go.Lib.splitB (str [46]) 0 (Go.Lib.countB (str l) (str [46])) (str l)).length := (Go.Lib.splitB_all (str [46]) (by decide) 0 _ _ rfl).symm
  rw [hc] at e hn ⊢
  rw [data_str, data_str, splitK_dots] at e
  have e2 : Go.Lib.splitB (str [46]) 0 (l.count 46) (str l) = (dots l).map str := by
    rw [← e, List.map_map]
    rw [show (str ∘ fun x : ByteArray => x.data.toList) = id from funext fun x => by obtain ⟨m, rfl⟩ := str_ex x; simp [data_str], List.map_id]
  exact ⟨e2, by rw [hn, e2, List.length_map]⟩
/-! The library's trim. -/
def letters : List UInt8 := [97, 98, 99, 100, 101, 102, 103, 104, 105, 106, 107, 108, 109, 110, 111, 112, 113, 114, 115, 116, 117, 118, 119, 120, 121, 122, 48, 49, 50, 51, 52, 53, 54, 55, 56, 57, 45, 95, 42]
theorem letters_contains (c : UInt8) : letters.contains c = letB c := by
  have : ∀ n : Fin 256, letters.contains (UInt8.ofNat n.val) = letB (UInt8.ofNat n.val) := by decide +kernel
  have h := this ⟨c.toNat, c.toNat_lt⟩
  simpa using h
theorem trim_nil (l : List UInt8) : Go.Lib.trimS l letters = [] ↔ l.all letB = true := by
  unfold Go.Lib.trimS Go.Lib.trimLeftS Go.Lib.trimRightS
  constructor
  · intro h
    have h1 : ∀ x ∈ (l.reverse.dropWhile (letters.contains ·)).reverse, letters.contains x = true := by
      intro x hx
      have := List.takeWhile_append_dropWhile (p := (letters.contains ·)) (l := (l.reverse.dropWhile (letters.contains ·)).reverse)
      rw [h, List.append_nil] at this
      rw [← this] at hx
      exact List.all_eq_true.1 List.all_takeWhile x hx
    rw [List.all_eq_true]
    intro x hx
    rw [← letters_contains]
    have e := List.takeWhile_append_dropWhile (p := (letters.contains ·)) (l := l.reverse)
    have hx' : x ∈ l.reverse := List.mem_reverse.2 hx
    rw [← e, List.mem_append] at hx'
    rcases hx' with hx' | hx'
    · exact List.all_eq_true.1 List.all_takeWhile x hx'
    · exact h1 x (List.mem_reverse.2 hx')
  · intro h
    have hd : ∀ m : List UInt8, (∀ x ∈ m, letters.contains x = true) → m.dropWhile (letters.contains ·) = [] := by
      intro m hm
      induction m with
      | nil => rfl
      | cons x m ih => rw [List.dropWhile_cons_of_pos (hm x (by simp))]; exact ih fun y hy => hm y (by simp [hy])
    rw [hd l.reverse fun x hx => by rw [letters_contains]; exact List.all_eq_true.1 h x (List.mem_reverse.1 hx)]
    rfl
theorem dots_cnt : ∀ b : List UInt8, (dots b).length ≤ b.length + 1 ∧ ∀ p ∈ dots b, p.length ≤ b.length := by
  intro b
  induction b with
  | nil => exact ⟨by simp [dots], by simp [dots]⟩
  | cons c b ih =>
    obtain ⟨p, ps, hd⟩ := dots_ne b
    unfold dots
    by_cases hc : c = 46
    · rw [if_pos hc]; exact ⟨by simp; exact ih.1, fun p hp => by
        rcases List.mem_cons.1 hp with rfl | hp
        · simp
        · have := ih.2 p hp; simp; omega⟩
    · rw [if_neg hc]; rw [hd] at ih ⊢
      refine ⟨by have := ih.1; simp [pre] at this ⊢; omega, fun q hq => ?_⟩
      rcases List.mem_cons.1 hq with rfl | hq
      · have := ih.2 p (by simp); simp; omega
      · have := ih.2 q (by simp [hq]); simp; omega
/-- the name that ends in a dot -/
theorem nameOf_dot {body : List UInt8} (h : body ++ [46] ≠ [46]) (hl : (body ++ [46]).length ≤ 254) : nameOf (body ++ [46]) = if (dots body).all okPart = true then some (dots body) else none := by
  unfold nameOf
  rw [if_neg h, if_neg (by simp at hl ⊢; omega), partsOf_dots body [] rfl, pre_nil]
theorem nameOf_none {l : List UInt8} (h : l ≠ [46]) (hb : Go.Lib.hasSuffix l [46] = false ∨ 254 < l.length) : nameOf l = none := by
  unfold nameOf
  rw [if_neg h]
  by_cases h0 : l = [] ∨ 254 < l.length
  · rw [if_pos h0]
  · rw [if_neg h0]
    refine partsOf_end l [] (fun e => h0 (.inl e)) fun e => ?_
    rcases hb with hb | hb
    · obtain ⟨ys, rfl⟩ := List.getLast?_eq_some_iff.1 e
      have : Go.Lib.hasSuffix (ys ++ [46]) [46] = true := List.isSuffixOf_iff_suffix.2 ⟨ys, rfl⟩
      rw [this] at hb; cases hb
    · exact h0 (.inr hb)
end Ph
