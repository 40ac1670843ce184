/- The order of names, over plain lists of bytes. -/
import Derived.Test.YtjblahoegfojdaaDoorM2
namespace Go.Proofs.YtjblahoegfojdaaDoor.Pure
open Go.RowKit Go.Proofs.YtjblahoegfojdaaDoor.X Go.Proofs.YtjblahoegfojdaaDoorW.PrintWords Go.Proofs.YtjblahoegfojdaaDoorW.PrintLast Go.Proofs.YtjblahoegfojdaaDoorW.PrintMore
set_option linter.unusedSimpArgs false
set_option linter.unusedVariables false

/-! The order of texts. -/
theorem bl_irrefl : ∀ a : List UInt8, Op.bytesLess a a = false
  | [] => rfl
  | x :: a => by unfold Op.bytesLess; simp [bl_irrefl a]
theorem bl_trans : ∀ a b c : List UInt8, Op.bytesLess a b = true → Op.bytesLess b c = true → Op.bytesLess a c = true
  | [], [], _ => by intro h; simp [Op.bytesLess] at h
  | [], _ :: _, [] => by intro _ h; simp [Op.bytesLess] at h
  | [], _ :: _, _ :: _ => by intro _ _; rfl
  | _ :: _, [], _ => by intro h; simp [Op.bytesLess] at h
  | _ :: _, _ :: _, [] => by intro _ h; simp [Op.bytesLess] at h
  | x :: a, y :: b, z :: c => by
    have ih := bl_trans a b c
    simp only [Op.bytesLess, Bool.or_eq_true, Bool.and_eq_true, decide_eq_true_eq, beq_iff_eq]
    rintro (h1 | ⟨rfl, h1⟩) (h2 | ⟨rfl, h2⟩)
    · exact .inl (UInt8.lt_trans h1 h2)
    · exact .inl h1
    · exact .inl h2
    · exact .inr ⟨rfl, ih h1 h2⟩
theorem bl_total : ∀ a b : List UInt8, a ≠ b → Op.bytesLess a b = false → Op.bytesLess b a = true
  | [], [] => by intro h; exact absurd rfl h
  | [], _ :: _ => by intro _ h; simp [Op.bytesLess] at h
  | _ :: _, [] => by intro _ _; rfl
  | x :: a, y :: b => by
    have ih := bl_total a b
    intro h h1
    simp only [Op.bytesLess, Bool.or_eq_false_iff, Bool.or_eq_true, Bool.and_eq_true, decide_eq_true_eq, decide_eq_false_iff_not, beq_iff_eq, Bool.and_eq_false_iff, beq_eq_false_iff_ne] at h1 ⊢
    by_cases hxy : x = y
    · subst hxy
      exact .inr ⟨rfl, ih (fun e => h (by rw [e])) (h1.2.resolve_left fun e => e rfl)⟩
    · refine .inl ?_
      have h2 : ¬ x.toNat < y.toNat := h1.1
      have h3 : x.toNat ≠ y.toNat := fun e => hxy (UInt8.toNat_inj.1 e)
      show y.toNat < x.toNat
      omega

/-- The order of lists of parts, the highest first. -/
def lt : List (List UInt8) → List (List UInt8) → Bool
  | [], [] => false
  | [], _ :: _ => true
  | _ :: _, [] => false
  | a :: x, b :: y => if a = b then lt x y else Op.bytesLess a b
theorem lt_irrefl : ∀ x, lt x x = false
  | [] => rfl
  | a :: x => by unfold lt; rw [if_pos rfl, lt_irrefl x]
theorem lt_total : ∀ x y, x ≠ y → lt x y = false → lt y x = true
  | [], [] => fun h => absurd rfl h
  | [], _ :: _ => by intro _ h; simp [lt] at h
  | _ :: _, [] => by intro _ _; rfl
  | a :: x, b :: y => by
    intro h h1
    unfold lt at h1 ⊢
    by_cases hab : a = b
    · subst hab; rw [if_pos rfl] at h1 ⊢; exact lt_total x y (fun e => h (by rw [e])) h1
    · rw [if_neg hab] at h1; rw [if_neg (Ne.symm hab)]; exact bl_total a b hab h1
theorem lt_trans : ∀ x y z, lt x y = true → lt y z = true → lt x z = true
  | [], [], _ => by intro h; simp [lt] at h
  | [], _ :: _, [] => by intro _ h; simp [lt] at h
  | [], _ :: _, _ :: _ => by intro _ _; rfl
  | _ :: _, [], _ => by intro h; simp [lt] at h
  | _ :: _, _ :: _, [] => by intro _ h; simp [lt] at h
  | a :: x, b :: y, c :: z => by
    unfold lt
    intro h1 h2
    by_cases hab : a = b
    · subst hab
      rw [if_pos rfl] at h1
      by_cases hac : a = c
      · subst hac; rw [if_pos rfl] at h2 ⊢; exact lt_trans x y z h1 h2
      · rw [if_neg hac] at h2 ⊢; exact h2
    · rw [if_neg hab] at h1
      by_cases hbc : b = c
      · subst hbc; rw [if_neg hab]; exact h1
      · rw [if_neg hbc] at h2
        have h3 := bl_trans a b c h1 h2
        rw [if_neg (fun e => by subst e; rw [bl_irrefl] at h3; cases h3)]; exact h3
theorem lt_asymm (x y) (h : lt x y = true) : lt y x = false := by
  cases h2 : lt y x with
  | false => rfl
  | true => have := lt_trans _ _ _ h h2; rw [lt_irrefl] at this; cases this
/-- What bears a list at its front comes behind it. -/
theorem lt_prefix : ∀ x y, lt x (x ++ y) = decide (y ≠ [])
  | [], [] => rfl
  | [], _ :: _ => by simp [lt]
  | a :: x, y => by rw [List.cons_append, lt, if_pos rfl, lt_prefix x y]
/-- Between a list and one that bears it at its front stands nothing else. -/
theorem lt_between : ∀ a b c, a <+: c → lt a b = true → lt b c = true → a <+: b
  | [], b, _ => fun _ _ _ => List.nil_prefix
  | _ :: _, [], _ => by intro _ h; simp [lt] at h
  | _ :: _, _ :: _, [] => by intro _ _ h; simp [lt] at h
  | p :: a, q :: b, r :: c => by
    intro h h1 h2
    obtain ⟨e, h'⟩ := List.cons_prefix_cons.1 h
    subst e
    unfold lt at h1 h2
    by_cases hpq : p = q
    · subst hpq
      rw [if_pos rfl] at h1 h2
      exact List.cons_prefix_cons.2 ⟨rfl, lt_between a b c h' h1 h2⟩
    · rw [if_neg hpq] at h1; rw [if_neg (Ne.symm hpq)] at h2
      have := bl_trans _ _ _ h1 h2
      rw [bl_irrefl] at this; cases this

/-! What Less and Under say of two names. -/
def lessS (x y : Option (List (List UInt8))) : Bool := match x, y with
  | some x, some y => lt x.reverse y.reverse
  | _, _ => false
def undS (x y : Option (List (List UInt8))) : Bool := match x, y with
  | some x, some y => decide (y.length ≤ x.length) && x.drop (x.length - y.length) == y
  | _, _ => false
theorem und_prefix (x y : List (List UInt8)) : undS (some x) (some y) = true ↔ y.reverse <+: x.reverse := by
  rw [List.reverse_prefix]
  simp only [undS, Bool.and_eq_true, decide_eq_true_eq, beq_iff_eq]
  constructor
  · rintro ⟨h1, h2⟩; rw [← h2]; exact List.drop_suffix _ _
  · intro h; exact ⟨h.length_le, (List.suffix_iff_eq_drop.1 h).symm⟩
theorem und_self (x : List (List UInt8)) : undS (some x) (some x) = true := (und_prefix x x).2 (List.prefix_refl _)
theorem und_less (x y : List (List UInt8)) (h : undS (some x) (some y) = true) : x = y ∨ lessS (some y) (some x) = true := by
  obtain ⟨z, hz⟩ := (und_prefix x y).1 h
  by_cases hn : z = []
  · subst hn; rw [List.append_nil] at hz; exact .inl (by have := congrArg List.reverse hz; simpa using this.symm)
  · refine .inr ?_
    show lt y.reverse x.reverse = true
    rw [← hz, lt_prefix]; simp [hn]
theorem less_und (a b c : List (List UInt8)) (h : undS (some c) (some a) = true) (h1 : lessS (some a) (some b) = true) (h2 : lessS (some b) (some c) = true) : undS (some b) (some a) = true :=
  (und_prefix b a).2 (lt_between _ _ _ ((und_prefix c a).1 h) h1 h2)

/-! The loops. -/
theorem rd_nat (xs : List ByteArray) (i : Nat) (h : i < xs.length) : rdOf ByteArray.empty xs i = xs[i] := by
  unfold rdOf; rw [Int.toNat_natCast, List.getD_eq_getElem?_getD, List.getElem?_eq_getElem h]; rfl

theorem rev_l0 : ∀ (m k : Nat) (xs : List ByteArray) (i j : Int), 0 ≤ i → j < xs.length → j - i < 2 * m → -1 ≤ j → xs.length < 4611686018427387904 → i ≤ xs.length → ∃ ys, slices_Reverse_string_string.l0 (k + m + 1) xs i j = some ys ∧ ys.length = xs.length ∧
    ∀ p : Nat, p < xs.length → ys[p]? = if i ≤ p ∧ (p : Int) ≤ j then xs[(i + j - p).toNat]? else xs[p]? := by
  intro m
  induction m with
  | zero =>
    intro k xs i j h0 hj hm h1 hn hi
    refine ⟨xs, by rw [slices_Reverse_string_string.l0, if_neg (by omega)], rfl, fun p hp => ?_⟩
    rw [if_neg (by omega)]
  | succ m ih =>
    intro k xs i j h0 hj hm h1 hn hi
    by_cases hij : i < j
    · rw [← Nat.add_assoc, slices_Reverse_string_string.l0, if_pos hij, if_pos (by omega), if_pos hj, if_pos h0, if_pos (by omega), w64 _ (by omega) (by omega), w64 _ (by omega) (by omega)]
      obtain ⟨ys, h, hl, hp⟩ := ih k ((xs.set i.toNat (rdOf ByteArray.empty xs j)).set j.toNat (rdOf ByteArray.empty xs i)) (i + 1) (j - 1) (by omega) (by simp; omega) (by omega) (by omega) (by simpa using hn) (by simp; omega)
      refine ⟨ys, h, by simpa using hl, fun p hpl => ?_⟩
      have hrj := rd_nat xs j.toNat (by omega)
      have hri := rd_nat xs i.toNat (by omega)
      rw [Int.toNat_of_nonneg (by omega)] at hrj hri
      rw [hp p (by simpa using hpl)]
      by_cases hin : i + 1 ≤ (p : Int) ∧ (p : Int) ≤ j - 1
      · rw [if_pos hin, if_pos (by omega), show i + 1 + (j - 1) - (p : Int) = i + j - p from by omega, List.getElem?_set_ne (by omega), List.getElem?_set_ne (by omega)]
      · rw [if_neg hin]
        by_cases hpj : (p : Int) = j
        · rw [if_pos (by omega), show (i + j - (p : Int)).toNat = i.toNat from by omega, show p = j.toNat from by omega, List.getElem?_set_self (by simp; omega), hri, List.getElem?_eq_getElem (by omega)]
        · rw [List.getElem?_set_ne (by omega)]
          by_cases hpi : (p : Int) = i
          · rw [if_pos (by omega), show (i + j - (p : Int)).toNat = j.toNat from by omega, show p = i.toNat from by omega, List.getElem?_set_self (by omega), hrj, List.getElem?_eq_getElem (by omega)]
          · rw [if_neg (by omega), List.getElem?_set_ne (by omega)]
    · refine ⟨xs, by rw [← Nat.add_assoc, slices_Reverse_string_string.l0, if_neg hij], rfl, fun p hp => ?_⟩
      by_cases hin : i ≤ (p : Int) ∧ (p : Int) ≤ j
      · rw [if_pos hin, show (i + j - (p : Int)).toNat = p from by omega]
      · rw [if_neg hin]

theorem reverse_f (k : Nat) (xs : List ByteArray) (hn : xs.length ≤ k) (hb : xs.length < 4611686018427387904) : slices_Reverse_string_string.f (k + 1) xs = some xs.reverse := by
  unfold slices_Reverse_string_string.f
  have hw : wrap64 ((xs.length : Int) - 1) = (xs.length : Int) - 1 := by unfold wrap64; omega
  rw [hw]
  obtain ⟨ys, h, hl, hp⟩ := rev_l0 xs.length (k - xs.length) xs 0 ((xs.length : Int) - 1) (by omega) (by omega) (by omega) (by omega) hb (by omega)
  rw [show k - xs.length + xs.length + 1 = k + 1 from by omega] at h
  rw [h]
  congr 1
  refine List.ext_getElem? fun p => ?_
  by_cases hpl : p < xs.length
  · rw [hp p hpl, if_pos (by omega), List.getElem?_reverse hpl, show ((0 : Int) + ((xs.length : Int) - 1) - p).toNat = xs.length - 1 - p from by omega]
  · rw [List.getElem?_eq_none (by omega), List.getElem?_eq_none (by simp; omega)]

theorem compare_l0 (x y : List (List UInt8)) (hx : x.length < 4611686018427387904) : ∀ (m k i : Nat), i + m = x.length → i ≤ y.length → x.take i = y.take i →
    ∃ c : Int, slices_Compare_string_string.l0 (k + m + 1) (x.map mk) (y.map mk) (x.map mk) x.length i = some c ∧ (c < 0 ↔ lt (x.drop i) (y.drop i) = true) := by
  intro m
  induction m with
  | zero =>
    intro k i hi hy ht
    have : x.drop i = [] := List.drop_eq_nil_of_le (by omega)
    rw [slices_Compare_string_string.l0, if_neg (by omega), List.length_map, List.length_map, this]
    by_cases hxy : x.length < y.length
    · rw [if_pos (by omega)]
      refine ⟨_, rfl, ?_⟩
      rw [List.drop_eq_getElem_cons (by omega)]
      simp [lt]
    · rw [if_neg (by omega)]
      refine ⟨_, rfl, ?_⟩
      rw [List.drop_eq_nil_of_le (by omega)]
      simp [lt]
  | succ m ih =>
    intro k i hi hy ht
    have hix : i < x.length := by omega
    rw [← Nat.add_assoc, slices_Compare_string_string.l0, if_pos (by omega), if_pos (by omega), List.length_map, if_pos (by omega), List.length_map]
    rw [List.drop_eq_getElem_cons hix]
    by_cases hiy : i < y.length
    · rw [if_neg (by omega), if_pos (by omega), rdOf_map x i hix, rdOf_map y i hiy, List.drop_eq_getElem_cons hiy, lt]
      unfold cmp_Compare_string.f
      rw [mk_list, mk_list, Option.bind_some]
      by_cases hb : Op.bytesLess x[i] y[i] = true
      · rw [if_pos hb, if_neg (by decide)]
        refine ⟨_, rfl, ?_⟩
        rw [if_neg (fun e => by rw [e, bl_irrefl] at hb; cases hb), hb]; simp
      · rw [if_neg hb]
        by_cases he : x[i] = y[i]
        · rw [if_pos he, if_pos rfl, if_pos he, w64 _ (by omega) (by omega)]
          refine ih k (i + 1) (by omega) (by omega) ?_
          rw [List.take_add_one, List.take_add_one, ht, List.getElem?_eq_getElem hix, List.getElem?_eq_getElem hiy, he]
        · rw [if_neg he, if_neg (by decide), if_neg he]
          exact ⟨_, rfl, by simp [hb]⟩
    · rw [if_pos (by omega)]
      refine ⟨_, rfl, ?_⟩
      rw [show y.drop i = [] from List.drop_eq_nil_of_le (by omega)]
      simp [lt]

theorem out_none : out none = (([] : List ByteArray), (14 : Int)) := rfl
theorem out_some (x : List (List UInt8)) : out (some x) = (x.map mk, (0 : Int)) := rfl
theorem name_bound (l : List UInt8) (ps : List (List UInt8)) (h : nameOf l = some ps) : ps.length ≤ 254 := by
  have key : ∀ (r cur : List UInt8) (qs), partsOf r cur = some qs → qs.length ≤ r.length := by
    intro r
    induction r with
    | nil => intro cur qs h; unfold partsOf at h; split at h <;> simp at h; subst h; simp
    | cons c r ih =>
      intro cur qs h
      unfold partsOf at h
      split at h
      · split at h
        · cases h
        · cases hp : partsOf r [] with
          | none => rw [hp] at h; cases h
          | some q => rw [hp] at h; have := ih _ _ hp; simp at h; subst h; simp; omega
      · split at h
        · have := ih _ _ h; simp; omega
        · cases h
  unfold nameOf at h
  split at h
  · simp at h; subst h; simp
  · split at h
    · cases h
    · rename_i h1 h2; have := key _ _ _ h; omega

theorem less (k : Nat) (a b : ByteArray) (ha : a.size < 9223372036854775807) (hb : b.size < 9223372036854775807) :
    name_Less.f (k + 600) a b = some (lessS (nameOf a.data.toList) (nameOf b.data.toList)) := by
  unfold name_Less.f
  rw [show k + 600 = (k + 300) + 300 from rfl, labels _ a ha, labels _ b hb, Option.bind_some, Option.bind_some, show k + 300 + 300 = (k + 599) + 1 from rfl]
  cases hx : nameOf a.data.toList with
  | none => rw [out_none, if_neg (by decide), name_Less.j0, if_pos rfl]; rfl
  | some x =>
    rw [out_some, if_pos rfl]
    cases hy : nameOf b.data.toList with
    | none => rw [out_none]; dsimp only; rw [show ((14 : Int) != 0) = true from by decide, name_Less.j0, if_pos rfl]; rfl
    | some y =>
      rw [out_some]; dsimp only; rw [show ((0 : Int) != 0) = false from by decide]
      have hxl := name_bound _ _ hx
      have hyl := name_bound _ _ hy
      rw [name_Less.j0, if_neg (by decide), reverse_f (k + 598) _ (by simp; omega) (by simp; omega), Option.bind_some, reverse_f (k + 598) _ (by simp; omega) (by simp; omega), Option.bind_some]
      unfold slices_Compare_string_string.f
      rw [← List.map_reverse, ← List.map_reverse, List.length_map]
      obtain ⟨c, hc, hlt⟩ := compare_l0 x.reverse y.reverse (by simp; omega) x.reverse.length (k + 598 - x.length) 0 (by omega) (by omega) rfl
      rw [show k + 598 - x.length + x.reverse.length + 1 = k + 599 from by simp; omega] at hc
      rw [show ((0 : Nat) : Int) = 0 from rfl] at hc
      rw [hc, Option.bind_some]
      congr 1
      show decide (c < 0) = lt _ _
      rw [List.drop_zero, List.drop_zero] at hlt
      cases hl : lt x.reverse y.reverse with
      | true => exact decide_eq_true (hlt.2 hl)
      | false => exact decide_eq_false fun e => by rw [hlt.1 e] at hl; cases hl
end Go.Proofs.YtjblahoegfojdaaDoor.Pure
