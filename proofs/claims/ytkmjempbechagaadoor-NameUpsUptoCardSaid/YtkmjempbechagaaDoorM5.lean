/- A name at a place of bytes: the document's reading and the program's come to the same. -/
import Derived.Test.YtkmjempbechagaaDoorM4
import Derived.Test.YtkmjempbechagaaDoorX
import Derived.Laws.BitsLemmas
namespace Go.Proofs.YtkmjempbechagaaDoor.Pure
open Go.RowKit Go.Proofs.YtkmjempbechagaaDoor.X Go.Proofs.YtkmjempbechagaaDoorW.PrintWords Go.Proofs.YtkmjempbechagaaDoorW.PrintLast Go.Proofs.YtkmjempbechagaaDoorW.PrintMore
set_option linter.unusedSimpArgs false
set_option linter.unusedVariables false

def u8 (n : Int) : UInt8 := UInt8.ofNat n.toNat
theorem u8_nat (n : Int) (h0 : 0 ≤ n) (h1 : n ≤ 255) : ((u8 n).toNat : Int) = n := by
  unfold u8; rw [UInt8.toNat_ofNat']; omega
theorem nums_mk (l : List Int) : strOfNums l = mk (l.map u8) := rfl
theorem nums_size (l : List Int) : (strOfNums l).size = l.length := by rw [nums_mk, mk_size, List.length_map]
theorem nums_app (a b : List Int) : strOfNums a ++ strOfNums b = strOfNums (a ++ b) := by rw [nums_mk, nums_mk, nums_mk, mk_app, List.map_append]
theorem nums_bt (l : List Int) (hl : ∀ x ∈ l, 0 ≤ x ∧ x ≤ 255) (i : Int) : bt (strOfNums l) i = rd l i := by
  rw [nums_mk, mk_bt]
  unfold rd
  rw [List.getD_eq_getElem?_getD, List.getD_eq_getElem?_getD, List.getElem?_map]
  by_cases h : i.toNat < l.length
  · rw [List.getElem?_eq_getElem h]
    exact u8_nat _ (hl _ (List.getElem_mem h)).1 (hl _ (List.getElem_mem h)).2
  · rw [List.getElem?_eq_none (by omega)]; rfl
theorem rd_at (l : List Int) (i : Nat) (h : i < l.length) : rd l (i : Int) = l[i] := by
  unfold rd; rw [Int.toNat_natCast, List.getD_eq_getElem?_getD, List.getElem?_eq_getElem h]; rfl
theorem letter_int (c : Int) (h0 : 0 ≤ c) (h1 : c ≤ 255) : rhyneref17_letter.f c = some (letB (u8 c)) := by
  have := letter_ref (u8 c)
  rw [u8_nat c h0 h1] at this
  exact this
theorem indexByte_neg (l : List UInt8) (c : UInt8) : Go.Lib.indexByte l c < 0 ↔ l.contains c = false := by
  induction l with
  | nil => simp [Go.Lib.indexByte]
  | cons b l ih =>
    unfold Go.Lib.indexByte
    have hge := Go.Lib.indexByte_ge l c
    by_cases h : b = c
    · subst h; simp
    · rw [if_neg (by simpa using h)]
      have hc : (b :: l).contains c = l.contains c := by rw [List.contains_cons]; simp [Ne.symm h]
      rw [hc, ← ih]
      by_cases hm : Go.Lib.indexByte l c = -1
      · rw [if_pos (beq_iff_eq.2 hm), hm]
      · rw [if_neg (fun e => hm (beq_iff_eq.1 e))]
        constructor <;> intro <;> omega
theorem index_let (c : Int) : ∃ r, strings_IndexByte.f ⟨#[97, 98, 99, 100, 101, 102, 103, 104, 105, 106, 107, 108, 109, 110, 111, 112, 113, 114, 115, 116, 117, 118, 119, 120, 121, 122, 48, 49, 50, 51, 52, 53, 54, 55, 56, 57, 45, 95, 42]⟩ c = some r ∧ (r < 0 ↔ letB (u8 c) = false) := by
  refine ⟨_, rfl, ?_⟩
  rw [← letters_contains]
  exact indexByte_neg letters (u8 c)

/-- A byte as a part has it. -/
def small (c : Int) : Int := if 65 ≤ c ∧ c ≤ 90 then (c + 32) % 256 else c
theorem small_range (c : Int) (h0 : 0 ≤ c) (h1 : c ≤ 255) : 0 ≤ small c ∧ small c ≤ 255 := by unfold small; split <;> omega
/-- So many bytes of a part, or what hinders it. -/
def readPart : List Int → Nat → List Int → Int × List Int
  | _, 0, acc => (0, acc)
  | [], _ + 1, _ => (3, [])
  | c :: r, n + 1, acc => if letB (u8 (small c)) = true then readPart r n (acc ++ [small c]) else (14, [])
theorem readPart_err (r : List Int) (n : Nat) (acc : List Int) : (readPart r n acc).1 ≠ 0 → (readPart r n acc).2 = [] := by
  induction n generalizing r acc with
  | zero => intro h; cases r <;> exact absurd rfl h
  | succ n ih =>
    cases r with
    | nil => intro _; rfl
    | cons c r =>
      unfold readPart
      split
      · exact ih r _
      · intro _; rfl
theorem readPart_len (r : List Int) (n : Nat) (acc : List Int) : (readPart r n acc).1 = 0 → (readPart r n acc).2.length = acc.length + n ∧ n ≤ r.length := by
  induction n generalizing r acc with
  | zero => intro h; cases r <;> exact ⟨rfl, Nat.zero_le _⟩
  | succ n ih =>
    cases r with
    | nil => intro h; cases h
    | cons c r =>
      unfold readPart
      split
      · intro h; have := ih r _ h; simp at this ⊢; omega
      · intro h; cases h

theorem part_l0 (l : List Int) (hl : ∀ x ∈ l, 0 ≤ x ∧ x ≤ 255) (hn : l.length < 1000000) : ∀ (m k i : Nat) (acc : List Int) (r : List Int), l.drop i = r → i ≤ l.length → acc.length ≤ i → i + m < 4611686018427387904 →
    name_part.l0 (k + 2 * m + 1) l acc ((i + m : Nat) : Int) i = some (strOfNums (readPart r m acc).2, (readPart r m acc).1) := by
  intro m
  induction m with
  | zero =>
    intro k i acc r hr hi ha hb
    rw [name_part.l0, if_neg (by omega)]
    cases r <;> rfl
  | succ m ih =>
    intro k i acc r hr hi ha hb
    rw [show k + 2 * (m + 1) + 1 = (k + 2 * m + 1) + 1 + 1 from by omega, name_part.l0, if_pos (by omega)]
    cases r with
    | nil =>
      have := congrArg List.length hr
      simp at this
      rw [if_pos (by omega)]; rfl
    | cons c r =>
      have hlt : i < l.length := by have := congrArg List.length hr; simp at this; omega
      rw [if_neg (by omega), if_pos (by omega), if_pos (by omega), rd_at l i hlt]
      have hc : l[i] = c := by rw [List.drop_eq_getElem_cons hlt] at hr; exact (List.cons.inj hr).1
      have hr' : l.drop (i + 1) = r := by rw [List.drop_eq_getElem_cons hlt] at hr; exact (List.cons.inj hr).2
      have hcr := hl _ (List.getElem_mem hlt)
      rw [hc] at hcr ⊢
      unfold readPart
      have hw : wrap64 ((i : Int) + 1) = ((i + 1 : Nat) : Int) := w64 _ (by omega) (by omega)
      have main : name_part.j1 (k + 2 * m + 1 + 1) l acc c ((i + (m + 1) : Nat) : Int) i (decide (65 ≤ c ∧ c ≤ 90)) = some (strOfNums (if letB (u8 (small c)) = true then readPart r m (acc ++ [small c]) else (14, [])).2, (if letB (u8 (small c)) = true then readPart r m (acc ++ [small c]) else (14, [])).1) := by
        rw [name_part.j1]
        have go : ∀ d : Int, small c = d → ((strings_IndexByte.f ⟨#[97, 98, 99, 100, 101, 102, 103, 104, 105, 106, 107, 108, 109, 110, 111, 112, 113, 114, 115, 116, 117, 118, 119, 120, 121, 122, 48, 49, 50, 51, 52, 53, 54, 55, 56, 57, 45, 95, 42]⟩ d).bind fun t => if t < 0 then some ((⟨#[]⟩ : ByteArray), 14) else if acc.length < 140737488355328 then name_part.l0 (k + 2 * m + 1) l (acc ++ [d]) ((i + (m + 1) : Nat) : Int) (wrap64 ((i : Int) + 1)) else none) =
            some (strOfNums (if letB (u8 (small c)) = true then readPart r m (acc ++ [small c]) else (14, [])).2, (if letB (u8 (small c)) = true then readPart r m (acc ++ [small c]) else (14, [])).1) := by
          intro d hd
          obtain ⟨t, ht, hlt'⟩ := index_let d
          rw [ht, Option.bind_some, hd]
          cases hlet : letB (u8 d) with
          | false => rw [if_pos (hlt'.2 hlet), if_neg (by decide)]; rfl
          | true =>
            rw [if_neg (fun e => by rw [hlt'.1 e] at hlet; cases hlet), if_pos (by omega), if_pos rfl, hw, show i + (m + 1) = (i + 1) + m from by omega]
            exact ih k (i + 1) _ r hr' (by omega) (by simp; omega) (by omega)
        by_cases h : 65 ≤ c ∧ c ≤ 90
        · rw [if_pos (by simpa using h)]
          exact go _ (by unfold small; rw [if_pos h])
        · rw [if_neg (by simpa using h)]
          exact go _ (by unfold small; rw [if_neg h])
      by_cases h65 : c ≥ 65
      · rw [if_pos h65, ← main]
        congr 1
        rw [decide_eq_decide]; omega
      · rw [if_neg h65, ← main]
        congr 1
        exact (decide_eq_false (by omega)).symm
theorem part_f (k : Nat) (l : List Int) (hl : ∀ x ∈ l, 0 ≤ x ∧ x ≤ 255) (hn : l.length < 1000000) (m : Nat) (hm : m < 4611686018427387904) : name_part.f (k + 2 * m + 1) l m = some (strOfNums (readPart l m []).2, (readPart l m []).1) := by
  unfold name_part.f
  have := part_l0 l hl hn m k 0 [] l rfl (by omega) (by simp) (by omega)
  rw [Nat.zero_add] at this
  exact this

theorem docpart (l : List Int) (hl : ∀ x ∈ l, 0 ≤ x ∧ x ≤ 255) (hn : l.length < 1000000) (at_ : Nat) (hat : at_ < l.length) (name : ByteArray) (d : Int) (n : Nat) (hn63 : n ≤ 255) :
    ∀ (m k i : Nat) (acc : List Int) (r : List Int), l.drop (at_ + i) = r → i + m = n + 1 → acc.length < i → 
    rhyneref17_DocGet.l1 (k + 2 * m + 1) (strOfNums l) at_ name d n (strOfNums acc) i =
      if (readPart r m acc).1 = 0 then (if name.size + (readPart r m acc).2.length ≤ 9223372036854775807 then (if (name ++ strOfNums (readPart r m acc).2).size + 1 ≤ 9223372036854775807 then (if (((name ++ strOfNums (readPart r m acc).2) ++ (⟨#[46]⟩ : ByteArray)).size : Int) > 254 then some (⟨#[]⟩, 0, 14) else
        rhyneref17_DocGet.l0 k (strOfNums l) ((at_ + 1 + n : Nat) : Int) ((name ++ strOfNums (readPart r m acc).2) ++ (⟨#[46]⟩ : ByteArray)) d at_) else none) else none) else some (⟨#[]⟩, 0, (readPart r m acc).1) := by
  intro m
  induction m with
  | zero =>
    intro k i acc r hr hi ha
    have e : readPart r 0 acc = (0, acc) := by cases r <;> rfl
    rw [rhyneref17_DocGet.l1, if_neg (by omega), e, if_pos rfl, nums_size]
    have hw : wrap64 (wrap64 ((at_ : Int) + 1) + n) = ((at_ + 1 + n : Nat) : Int) := by
      rw [show wrap64 ((at_ : Int) + 1) = (at_ : Int) + 1 from w64 _ (by omega) (by omega), w64 _ (by omega) (by omega)]; omega
    rw [hw]
  | succ m ih =>
    intro k i acc r hr hi ha
    have hw : wrap64 ((at_ : Int) + i) = ((at_ + i : Nat) : Int) := w64 _ (by omega) (by omega)
    rw [show k + 2 * (m + 1) + 1 = (k + 2 * m + 1) + 1 + 1 from by omega, rhyneref17_DocGet.l1, if_pos (by omega), hw, nums_size]
    cases r with
    | nil =>
      have := congrArg List.length hr
      simp at this
      rw [if_pos (by omega)]; rfl
    | cons c r =>
      have hlt : at_ + i < l.length := by have := congrArg List.length hr; simp at this; omega
      rw [if_neg (by omega), if_pos (by omega), if_pos (by omega), nums_bt l hl, rd_at l _ hlt]
      have hc : l[at_ + i] = c := by rw [List.drop_eq_getElem_cons hlt] at hr; exact (List.cons.inj hr).1
      have hr' : l.drop (at_ + (i + 1)) = r := by rw [List.drop_eq_getElem_cons hlt] at hr; exact (List.cons.inj hr).2
      have hcr := hl _ (List.getElem_mem hlt)
      rw [hc] at hcr ⊢
      unfold readPart
      have hw' : wrap64 ((i : Int) + 1) = ((i + 1 : Nat) : Int) := w64 _ (by omega) (by omega)
      generalize hG : (if (if letB (u8 (small c)) = true then readPart r m (acc ++ [small c]) else (14, [])).1 = 0 then _ else _ : Option (ByteArray × Int × Int)) = G
      have main : rhyneref17_DocGet.j3 (k + 2 * m + 1 + 1) (strOfNums l) at_ name d n (strOfNums acc) i c (decide (65 ≤ c ∧ c ≤ 90)) = G := by
        rw [rhyneref17_DocGet.j3]
        have go : ∀ e : Int, small c = e → ((rhyneref17_letter.f e).bind fun t => if t = true then ((some ([e] : List Int)).bind fun y => if (strOfNums acc).size + (strOfNums y).size ≤ 9223372036854775807 then rhyneref17_DocGet.l1 (k + 2 * m + 1) (strOfNums l) at_ name d n (strOfNums acc ++ strOfNums y) (wrap64 ((i : Int) + 1)) else none) else some ((⟨#[]⟩ : ByteArray), 0, 14)) = G := by
          intro e he
          have hsr := small_range c hcr.1 hcr.2
          rw [he] at hsr
          rw [letter_int e hsr.1 hsr.2, Option.bind_some]
          rw [← hG, he]
          cases hlet : letB (u8 e) with
          | false => simp
          | true =>
            rw [if_pos rfl, if_pos rfl, Option.bind_some, nums_size, nums_size, if_pos (by simp; omega), nums_app, hw']
            exact ih k (i + 1) _ r hr' (by omega) (by simp; omega)
        by_cases h : 65 ≤ c ∧ c ≤ 90
        · rw [if_pos (by simpa using h)]
          exact go _ (by unfold small; rw [if_pos h])
        · rw [if_neg (by simpa using h)]
          exact go _ (by unfold small; rw [if_neg h])
      by_cases h65 : c ≥ 65
      · rw [if_pos h65, ← main]
        congr 1
        rw [decide_eq_decide]; omega
      · rw [if_neg h65, ← main]
        congr 1
        exact (decide_eq_false (by omega)).symm
end Go.Proofs.YtkmjempbechagaaDoor.Pure
