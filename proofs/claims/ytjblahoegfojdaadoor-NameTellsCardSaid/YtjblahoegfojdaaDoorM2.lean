/- The program's own way to a name's parts comes to the same. -/
import Derived.Test.YtjblahoegfojdaaDoorM1
namespace Go.Proofs.YtjblahoegfojdaaDoor.Pure
open Go.RowKit Go.Proofs.YtjblahoegfojdaaDoor.X Go.Proofs.YtjblahoegfojdaaDoorW.PrintWords Go.Proofs.YtjblahoegfojdaaDoorW.PrintLast Go.Proofs.YtjblahoegfojdaaDoorW.PrintMore
set_option linter.unusedSimpArgs false
set_option linter.unusedVariables false

/-- A byte more at the first part. -/
def pre (cur : List UInt8) : List (List UInt8) → List (List UInt8)
  | [] => []
  | p :: ps => (cur ++ p) :: ps
/-- A text cut at each dot. -/
def dots : List UInt8 → List (List UInt8)
  | [] => [[]]
  | c :: r => if c = 46 then [] :: dots r else pre [c] (dots r)
theorem dots_ne (r : List UInt8) : ∃ p ps, dots r = p :: ps := by
  induction r with
  | nil => exact ⟨_, _, rfl⟩
  | cons c r ih =>
    obtain ⟨p, ps, h⟩ := ih
    unfold dots
    by_cases hc : c = 46
    · rw [if_pos hc]; exact ⟨_, _, rfl⟩
    · rw [if_neg hc, h]; exact ⟨_, _, rfl⟩
theorem pre_nil (x : List (List UInt8)) : pre [] x = x := by cases x <;> rfl
theorem pre_pre (a b : List UInt8) (x : List (List UInt8)) : pre a (pre b x) = pre (a ++ b) x := by cases x <;> simp [pre]

def okPart (p : List UInt8) : Bool := decide (p ≠ []) && (decide (p.length ≤ 63) && p.all letB)
theorem partsOf_dots : ∀ (body cur : List UInt8), cur.all letB = true → partsOf (body ++ [46]) cur = if (pre cur (dots body)).all okPart = true then some (pre cur (dots body)) else none := by
  intro body
  induction body with
  | nil =>
    intro cur hc
    simp only [List.nil_append, partsOf, dots, pre, List.append_nil, if_true, List.all_cons, List.all_nil, Bool.and_true]
    by_cases h1 : cur = []
    · subst h1; rw [if_pos (.inl rfl), if_neg (by decide)]
    · by_cases h2 : 63 < cur.length
      · rw [if_pos (.inr h2), if_neg (by simp [okPart]; omega)]
      · rw [if_neg (by simp [h1]; omega), if_pos (by rw [okPart, hc]; simp [h1]; omega)]; rfl
  | cons c r ih =>
    intro cur hc
    rw [List.cons_append, partsOf, dots]
    by_cases h46 : c = 46
    · rw [if_pos h46, if_pos h46]
      simp only [pre, List.append_nil, List.all_cons]
      have := ih [] rfl
      rw [pre_nil] at this
      rw [this]
      by_cases h1 : cur = []
      · subst h1; rw [if_pos (.inl rfl), if_neg (by simp [okPart])]
      · by_cases h2 : 63 < cur.length
        · rw [if_pos (.inr h2), if_neg (by simp [okPart]; omega)]
        · rw [if_neg (by simp [h1]; omega)]
          have hok : okPart cur = true := by rw [okPart, hc]; simp [h1]; omega
          rw [hok, Bool.true_and]
          by_cases h3 : (dots r).all okPart = true
          · rw [if_pos h3, if_pos h3]; rfl
          · rw [if_neg h3, if_neg h3]; rfl
    · rw [if_neg h46, if_neg h46, pre_pre]
      by_cases hl : letB c = true
      · rw [if_pos hl, ih (cur ++ [c]) (by rw [List.all_append, hc]; simp [hl])]
      · rw [if_neg hl, if_neg]
        obtain ⟨p, ps, h⟩ := dots_ne r
        rw [h]
        simp [pre, okPart, hl]
theorem partsOf_end : ∀ (r cur : List UInt8), r ≠ [] → r.getLast? ≠ some 46 → partsOf r cur = none := by
  intro r
  induction r with
  | nil => intro cur h; exact absurd rfl h
  | cons c r ih =>
    intro cur _ hl
    rw [partsOf]
    cases r with
    | nil =>
      have h46 : c ≠ 46 := fun e => hl (by subst e; rfl)
      rw [if_neg h46]
      split
      · simp [partsOf]
      · rfl
    | cons d r =>
      have hl' : (d :: r).getLast? ≠ some 46 := by simpa using hl
      rw [ih [] (by simp) hl', ih (cur ++ [c]) (by simp) hl']
      split
      · split <;> rfl
      · split <;> rfl

/-! The library's cut. -/
theorem splitK_ne (c : UInt8) (h : c ≠ 46) (k : Nat) (r : List UInt8) : Go.Lib.splitK [46] 0 k (c :: r) = pre [c] (Go.Lib.splitK [46] 0 k r) := by
  cases k with
  | zero => rfl
  | succ k =>
    have hp : ([46] : List UInt8).isPrefixOf (c :: r) = false := by simp [List.isPrefixOf, Ne.symm h]
    have hix : Go.Lib.index (c :: r) [46] = if Go.Lib.index r [46] == -1 then -1 else Go.Lib.index r [46] + 1 := by rw [Go.Lib.index, hp]; simp
    by_cases hm : Go.Lib.index r [46] = -1
    · rw [Go.Lib.splitK, Go.Lib.splitK, hix, hm]; rfl
    · have hge := Go.Lib.index_ge r [46]
      obtain ⟨j, hj⟩ : ∃ j : Nat, Go.Lib.index r [46] = j := ⟨(Go.Lib.index r [46]).toNat, by omega⟩
      rw [Go.Lib.splitK, Go.Lib.splitK, hix, if_neg (fun e => hm (beq_iff_eq.1 e)), hj, if_neg (fun e => by have := beq_iff_eq.1 e; omega), if_neg (fun e => by have := beq_iff_eq.1 e; omega)]
      simp only [show ((j : Int) + 1).toNat = j + 1 from by omega, Int.toNat_natCast]
      simp only [Nat.add_zero, List.take_succ_cons, pre, List.cons_append, List.nil_append, List.length_singleton, List.drop_succ_cons]
theorem splitK_eq (k : Nat) (r : List UInt8) : Go.Lib.splitK [46] 0 (k + 1) (46 :: r) = [] :: Go.Lib.splitK [46] 0 k r := by
  have hix : Go.Lib.index (46 :: r) [46] = 0 := by rw [Go.Lib.index]; simp [List.isPrefixOf]
  rw [Go.Lib.splitK, hix]; simp
theorem splitK_dots : ∀ r : List UInt8, Go.Lib.splitK [46] 0 (r.count 46) r = dots r := by
  intro r
  induction r with
  | nil => rfl
  | cons c r ih =>
    unfold dots
    by_cases h : c = 46
    · subst h; rw [List.count_cons_self, splitK_eq, if_pos rfl, ih]
    · rw [List.count_cons_of_ne (by simpa using h), splitK_ne c h, if_neg h, ih]
theorem split_dots (l : List UInt8) (h : l.length < 4294967281) : strings_Split.f (mk l) ⟨#[46]⟩ = some ((dots l).map mk) := by
  unfold strings_Split.f
  rw [mk_size, if_pos h, if_pos (by decide)]
  have e := Go.Lib.splitB_data ⟨#[46]⟩ 0 (Go.Lib.countB (mk l) ⟨#[46]⟩) (mk l)
  have hc : Go.Lib.countB (mk l) ⟨#[46]⟩ = l.count 46 := Go.Lib.count_one 46 l
  rw [hc] at e ⊢
  rw [mk_data, show (⟨#[46]⟩ : ByteArray).data.toList = [46] from rfl, splitK_dots] at e
  rw [← e, List.map_map]
  congr 1
  rw [show (mk ∘ fun x : ByteArray => x.data.toList) = id from funext fun x => mk_of x, List.map_id]

/-! The library's trim. -/
def letters : List UInt8 := [97, 98, 99, 100, 101, 102, 103, 104, 105, 106, 107, 108, 109, 110, 111, 112, 113, 114, 115, 116, 117, 118, 119, 120, 121, 122, 48, 49, 50, 51, 52, 53, 54, 55, 56, 57, 45, 95, 42]
theorem letters_contains (c : UInt8) : letters.contains c = letB c := by
  have : ∀ n : Fin 256, letters.contains (UInt8.ofNat n.val) = letB (UInt8.ofNat n.val) := by decide +kernel
  have h := this ⟨c.toNat, c.toNat_lt⟩
  simpa using h
theorem trim_nil (l : List UInt8) : Go.Lib.trimS l letters = [] ↔ l.all letB = true := by
  unfold Go.Lib.trimS Go.Lib.trimLeftS Go.Lib.trimRightS
  constructor
  · intro h
    have h1 : ∀ x ∈ (l.reverse.dropWhile (letters.contains ·)).reverse, letters.contains x = true := by
      intro x hx
      have := List.takeWhile_append_dropWhile (p := (letters.contains ·)) (l := (l.reverse.dropWhile (letters.contains ·)).reverse)
      rw [h, List.append_nil] at this
      rw [← this] at hx
      exact List.all_eq_true.1 List.all_takeWhile x hx
    rw [List.all_eq_true]
    intro x hx
    rw [← letters_contains]
    have e := List.takeWhile_append_dropWhile (p := (letters.contains ·)) (l := l.reverse)
    have hx' : x ∈ l.reverse := List.mem_reverse.2 hx
    rw [← e, List.mem_append] at hx'
    rcases hx' with hx' | hx'
    · exact List.all_eq_true.1 List.all_takeWhile x hx'
    · exact h1 x (List.mem_reverse.2 hx')
  · intro h
    have hd : ∀ m : List UInt8, (∀ x ∈ m, letters.contains x = true) → m.dropWhile (letters.contains ·) = [] := by
      intro m hm
      induction m with
      | nil => rfl
      | cons x m ih => rw [List.dropWhile_cons_of_pos (hm x (by simp))]; exact ih fun y hy => hm y (by simp [hy])
    rw [hd l.reverse fun x hx => by rw [letters_contains]; exact List.all_eq_true.1 h x (List.mem_reverse.1 hx)]
    rfl
theorem trim_let (p : List UInt8) (hp : p.length ≤ 9223372036854775807) : ∃ t, strings_Trim.f (mk p) (mk letters) = some t ∧ (t.toList = ([] : List UInt8) ↔ p.all letB = true) := by
  unfold strings_Trim.f
  rw [mk_size, if_pos hp, if_pos (by decide), if_pos (by decide)]
  exact ⟨_, rfl, by rw [← trim_nil]; show (mk _).toList = [] ↔ _; rw [mk_list]; rfl⟩

theorem rdOf_map (xs : List (List UInt8)) (i : Nat) (h : i < xs.length) : rdOf ByteArray.empty (xs.map mk) i = mk xs[i] := by
  unfold rdOf; rw [Int.toNat_natCast, List.getD_eq_getElem?_getD, List.getElem?_map, List.getElem?_eq_getElem h]; rfl

theorem labels_l0 (xs : List (List UInt8)) (hx : ∀ p ∈ xs, p.length ≤ 9223372036854775807) (hn : xs.length < 9223372036854775807) : ∀ (m k i : Nat), i + m = xs.length →
    name_Labels.l0 (k + m + 1) (xs.map mk) (xs.map mk) xs.length i = some (if (xs.drop i).all okPart = true then (xs.map mk, 0) else ([], 14)) := by
  intro m
  induction m with
  | zero =>
    intro k i hi
    rw [name_Labels.l0, if_neg (by omega), List.drop_eq_nil_of_le (by omega)]
    rfl
  | succ m ih =>
    intro k i hi
    have hlt : i < xs.length := by omega
    rw [← Nat.add_assoc, name_Labels.l0, if_pos (by omega), if_pos (by omega), List.length_map, if_pos (by omega), rdOf_map xs i hlt, mk_list, mk_size]
    rw [List.drop_eq_getElem_cons hlt, List.all_cons]
    obtain ⟨t, ht, htl⟩ := trim_let xs[i] (hx _ (List.getElem_mem hlt))
    by_cases h1 : xs[i] = []
    · rw [if_pos h1, if_neg (by simp [okPart, h1])]
    rw [if_neg h1]
    by_cases h2 : 63 < xs[i].length
    · rw [if_pos (by omega), if_neg (by simp [okPart]; omega)]
    rw [if_neg (by omega), show (⟨#[97, 98, 99, 100, 101, 102, 103, 104, 105, 106, 107, 108, 109, 110, 111, 112, 113, 114, 115, 116, 117, 118, 119, 120, 121, 122, 48, 49, 50, 51, 52, 53, 54, 55, 56, 57, 45, 95, 42]⟩ : ByteArray) = mk letters from rfl, ht, Option.bind_some]
    by_cases h3 : xs[i].all letB = true
    · rw [if_pos (htl.2 h3), w64 _ (by omega) (by omega), show ((i : Int) + 1) = ((i + 1 : Nat) : Int) from rfl, ih k (i + 1) (by omega)]
      have : okPart xs[i] = true := by rw [okPart, h3]; simp [h1]; omega
      rw [this, Bool.true_and]
    · rw [if_neg (fun e => h3 (htl.1 e)), if_neg (by rw [show okPart xs[i] = false from by rw [okPart, Bool.eq_false_iff.mpr h3]; simp]; simp)]

theorem labels (k : Nat) (a : ByteArray) (ha : a.size < 9223372036854775807) : name_Labels.f (k + 300) a = some (out (nameOf a.data.toList)) := by
  generalize hl : a.data.toList = l
  obtain rfl : a = mk l := by rw [← hl, mk_of]
  clear hl
  rw [mk_size] at ha
  unfold name_Labels.f nameOf strings_CutSuffix.f
  rw [mk_list, mk_size, mk_data, show (⟨#[46]⟩ : ByteArray).data.toList = [46] from rfl]
  by_cases h : l = [46]
  · rw [if_pos h, if_pos h]; rfl
  rw [if_neg h, if_neg h, if_pos (by omega), Option.bind_some]
  simp only
  by_cases hs : Go.Lib.hasSuffix l [46] = true
  · rw [if_pos hs]
    obtain ⟨body, rfl⟩ : ∃ b, b ++ [46] = l := List.isSuffixOf_iff_suffix.1 hs
    have htr : Go.Lib.trimSuffix (body ++ [46]) [46] = body := by unfold Go.Lib.trimSuffix; rw [if_pos hs]; simp
    rw [htr, w64 _ (by omega) (by omega)]
    by_cases hlen : 254 < (body ++ [46]).length
    · rw [if_pos (.inr hlen), decide_eq_true (by omega), show k + 300 = (k + 299) + 1 from rfl, name_Labels.j0, if_pos rfl]; rfl
    · rw [if_neg (fun e => e.elim (by simp) hlen), decide_eq_false (by omega), show k + 300 = (k + 299) + 1 from rfl, name_Labels.j0, if_neg (by decide)]
      have hb : body.length ≤ 253 := by simp at hlen; omega
      rw [show (⟨body.toArray⟩ : ByteArray) = mk body from rfl, split_dots body (by omega), Option.bind_some, List.length_map]
      have hcnt : ∀ b : List UInt8, (dots b).length ≤ b.length + 1 ∧ ∀ p ∈ dots b, p.length ≤ b.length := by
        intro b
        induction b with
        | nil => exact ⟨by simp [dots], by simp [dots]⟩
        | cons c b ih =>
          obtain ⟨p, ps, hd⟩ := dots_ne b
          unfold dots
          by_cases hc : c = 46
          · rw [if_pos hc]; exact ⟨by simp; exact ih.1, fun p hp => by
              rcases List.mem_cons.1 hp with rfl | hp
              · simp
              · have := ih.2 p hp; simp; omega⟩
          · rw [if_neg hc]; rw [hd] at ih ⊢
            refine ⟨by have := ih.1; simp [pre] at this ⊢; omega, fun q hq => ?_⟩
            rcases List.mem_cons.1 hq with rfl | hq
            · have := ih.2 p (by simp); simp; omega
            · have := ih.2 q (by simp [hq]); simp; omega
      have hl0 := labels_l0 (dots body) (fun p hp => by have := (hcnt body).2 p hp; omega) (by have := (hcnt body).1; omega) (dots body).length (k + 298 - (dots body).length) 0 (by omega)
      rw [show k + 298 - (dots body).length + (dots body).length + 1 = k + 299 from by have := (hcnt body).1; omega, List.drop_zero] at hl0
      rw [show ((0 : Nat) : Int) = 0 from rfl] at hl0
      rw [hl0, partsOf_dots body [] rfl, pre_nil]
      split <;> rfl
  · rw [if_neg hs, show k + 300 = (k + 299) + 1 from rfl, name_Labels.j0, if_pos rfl]
    by_cases h0 : l = []
    · rw [if_pos (.inl h0)]; rfl
    by_cases h1 : 254 < l.length
    · rw [if_pos (.inr h1)]; rfl
    · rw [if_neg (by simp [h0]; omega), partsOf_end l [] h0 (fun e => hs ?_)]; rfl
      obtain ⟨ys, rfl⟩ := List.getLast?_eq_some_iff.1 e
      exact List.isSuffixOf_iff_suffix.2 ⟨ys, rfl⟩
end Go.Proofs.YtjblahoegfojdaaDoor.Pure
