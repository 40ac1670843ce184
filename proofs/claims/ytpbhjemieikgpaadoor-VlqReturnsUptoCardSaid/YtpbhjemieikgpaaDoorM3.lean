/- What the program's and the chapter's ways to get a number out of bytes come to, over plain numbers and lists. -/
import Derived.Test.YtpbhjemieikgpaaDoorX6
import Derived.Lib.Bytes
import Derived.Test.YtpbhjemieikgpaaDoorM2
namespace Go.Proofs.YtpbhjemieikgpaaDoor.Pure
open Go.RowKit Go.Proofs.YtpbhjemieikgpaaDoor.X Go.Proofs.YtpbhjemieikgpaaDoorW.PrintWords Go.Proofs.YtpbhjemieikgpaaDoorW.PrintLast Go.Proofs.YtpbhjemieikgpaaDoorW.PrintMore
set_option linter.unusedSimpArgs false
set_option linter.unusedVariables false

/-- All are bytes. -/
def isBytes (l : List Int) : Prop := ∀ x ∈ l, 0 ≤ x ∧ x < 256
theorem rd_byte {l : List Int} (h : isBytes l) (i : Int) : 0 ≤ rd l i ∧ rd l i < 256 := by
  unfold rd
  by_cases hi : i.toNat < l.length
  · rw [List.getD_eq_getElem?_getD, List.getElem?_eq_getElem hi]
    exact h _ (List.getElem_mem hi)
  · rw [List.getD_eq_getElem?_getD, List.getElem?_eq_none (by omega)]; decide +kernel
theorem bt_strOf {l : List Int} (h : isBytes l) (i : Int) : bt (strOfNums l) i = rd l i := by
  unfold bt rd
  have hs : (strOfNums l).size = l.length := strOfNums_size l
  by_cases hi : i.toNat < l.length
  · rw [dif_pos (by omega), List.getD_eq_getElem?_getD, List.getElem?_eq_getElem hi]
    have hb := h _ (List.getElem_mem hi)
    have e : (strOfNums l)[i.toNat]'(by omega) = UInt8.ofNat (l[i.toNat]).toNat := by
      simp [strOfNums, ByteArray.getElem_eq_getElem_data]
    rw [e]
    simp only [Option.getD_some, UInt8.toNat_ofNat']
    rw [Nat.mod_eq_of_lt (by omega)]
    omega
  · rw [dif_neg (by omega), List.getD_eq_getElem?_getD, List.getElem?_eq_none (by omega)]; rfl
/-- The number whose first part is known, and the bytes behind. -/
def valS (acc : Int) (l : List Int) : Int := l.foldl (fun a x => a * 256 + x) acc
/-- How many bytes the first byte tells. -/
def sizeS (l : List Int) : Nat := 2 ^ (rd l 0 / 64).toNat
/-- What Get tells. -/
def getS (l : List Int) : Int × Int × Int :=
  if l = [] then (0, 0, 3) else if l.length < sizeS l then (0, 0, 3) else (valS (rd l 0 % 64) ((l.take (sizeS l)).drop 1), (sizeS l : Int), 0)
theorem size_cases {l : List Int} (h : isBytes l) : (rd l 0 / 64 = 0 ∧ sizeS l = 1) ∨ (rd l 0 / 64 = 1 ∧ sizeS l = 2) ∨ (rd l 0 / 64 = 2 ∧ sizeS l = 4) ∨ (rd l 0 / 64 = 3 ∧ sizeS l = 8) := by
  have hb := rd_byte h 0
  have : rd l 0 / 64 = 0 ∨ rd l 0 / 64 = 1 ∨ rd l 0 / 64 = 2 ∨ rd l 0 / 64 = 3 := by omega
  rcases this with e | e | e | e
  · exact .inl ⟨e, by simp [sizeS, e]⟩
  · exact .inr (.inl ⟨e, by simp [sizeS, e]⟩)
  · exact .inr (.inr (.inl ⟨e, by simp [sizeS, e]⟩))
  · exact .inr (.inr (.inr ⟨e, by simp [sizeS, e]⟩))
theorem shl_size {l : List Int} (h : isBytes l) : shl .i64 1 (rd l 0 / 64) = (sizeS l : Int) := by
  rcases size_cases h with ⟨e, s⟩ | ⟨e, s⟩ | ⟨e, s⟩ | ⟨e, s⟩ <;> rw [e, s] <;> decide +kernel
theorem or_byte (a x : Int) (ha : 0 ≤ a) (ha1 : a < 72057594037927936) (h0 : 0 ≤ x) (h1 : x < 256) : Go.bits .or .u64 (IntKind.u64.wrap (a * 256)) (IntKind.u64.wrap x) = a * 256 + x := by
  rw [u64_id _ (by omega) (by omega), u64_id x h0 (by omega)]
  exact or_join 8 (a * 256) x h0 (by simpa using h1) (by omega) (by omega) (by simp; omega) (by simp; omega)
theorem pow64 (i : Nat) (hi : i ≤ 6) : 64 * (256 : Int) ^ i ≤ 18014398509481984 := by
  have : i = 0 ∨ i = 1 ∨ i = 2 ∨ i = 3 ∨ i = 4 ∨ i = 5 ∨ i = 6 := by omega
  rcases this with h | h | h | h | h | h | h <;> subst h <;> decide +kernel
theorem getloop (x5 : Int) (xs : List Int) (hx : isBytes xs) (hl : xs.length ≤ 7) (j : Nat) : ∀ (k i : Nat) (acc : Int), i + j = xs.length → 0 ≤ acc → acc < 64 * 256 ^ i →
    vlq_Get.l0 (k + j + 1) x5 acc xs (xs.length : Int) (i : Int) = some (valS acc (xs.drop i), x5, 0) := by
  induction j with
  | zero =>
    intro k i acc hi h0 h1
    rw [vlq_Get.l0, if_neg (by omega), List.drop_of_length_le (by omega)]; rfl
  | succ j ih =>
    intro k i acc hi h0 h1
    have hb := rd_byte hx (i : Int)
    have hp := pow64 i (by omega)
    rw [show k + (j + 1) + 1 = (k + j + 1) + 1 from by omega, vlq_Get.l0, if_pos (by omega), if_pos (by omega), if_pos (by omega), or_byte acc _ h0 (by omega) hb.1 hb.2]
    rw [show wrap64 ((i : Int) + 1) = ((i + 1 : Nat) : Int) from by unfold wrap64; omega, ih k (i + 1) _ (by omega) (by omega) (by rw [Int.pow_succ]; omega)]
    have hd : xs.drop i = xs[i] :: xs.drop (i + 1) := List.drop_eq_getElem_cons (by omega)
    rw [hd, show rd xs (i : Int) = xs[i] from by simp [rd, List.getD_eq_getElem?_getD, List.getElem?_eq_getElem (show i < xs.length from by omega)]]
    rfl
theorem vlqget (k : Nat) (l : List Int) (h : isBytes l) : vlq_Get.f (k + 10) l = some (getS l) := by
  unfold vlq_Get.f getS
  have hj : ∀ b : Bool, vlq_Get.j0 (k + 10) l b = vlq_Get.j0 (k + 9 + 1) l b := fun _ => rfl
  by_cases h0 : l = []
  · subst h0; rw [if_pos (show ((([] : List Int).length : Int) = 0) from rfl), if_pos rfl, hj, vlq_Get.j0, if_pos rfl]
  · have hlen : 0 < l.length := List.length_pos_iff.2 h0
    have hb := rd_byte h 0
    rw [if_neg (by omega), if_pos (by omega), if_pos (by omega), if_neg h0, shl_size h, hj, vlq_Get.j0, shl_size h]
    by_cases hs : l.length < sizeS l
    · rw [if_pos (by simpa using hs), if_pos hs]
    · have hs1 : 1 ≤ sizeS l ∧ sizeS l ≤ 8 := by rcases size_cases h with ⟨_, s⟩ | ⟨_, s⟩ | ⟨_, s⟩ | ⟨_, s⟩ <;> omega
      rw [if_neg (by simpa using hs), if_neg hs, if_pos (by omega), if_pos (by omega), if_pos (by omega), if_pos (by omega)]
      have hm : Go.bits .and .u8 (rd l 0) 63 = rd l 0 % 64 := u8_and63 _ hb.1 hb.2
      rw [hm, u64_id _ (by omega) (by omega), Int.toNat_natCast]
      have hxs : isBytes ((l.take (sizeS l)).drop 1) := fun x hx => h x (List.mem_of_mem_take (List.mem_of_mem_drop hx))
      have hxl : ((l.take (sizeS l)).drop 1).length = sizeS l - 1 := by rw [List.length_drop, List.length_take]; omega
      have := getloop (sizeS l : Int) _ hxs (by omega) ((l.take (sizeS l)).drop 1).length (k + 9 - (sizeS l - 1) - 1) 0 (rd l 0 % 64) (by omega) (by omega) (by simp; omega)
      rw [show k + 9 - (sizeS l - 1) - 1 + ((l.take (sizeS l)).drop 1).length + 1 = k + 9 from by omega] at this
      exact this
theorem refloop_get (l : List Int) (h : isBytes l) (x5 : Nat) (h5 : x5 ≤ 8) (hl : x5 ≤ l.length) (j : Nat) : ∀ (k i : Nat) (acc : Int), i + j = x5 → 1 ≤ i → 0 ≤ acc → acc < 64 * 256 ^ (i - 1) →
    rhyneref07_Get.l1 (k + j + 1) (strOfNums l) (x5 : Int) acc (i : Int) = some (valS acc ((l.take x5).drop i), (x5 : Int), 0) := by
  have hz : ((strOfNums l).size : Int) = (l.length : Int) := by rw [strOfNums_size]
  induction j with
  | zero =>
    intro k i acc hi h1 h0 ha
    rw [rhyneref07_Get.l1, if_neg (by omega), List.drop_of_length_le (by rw [List.length_take]; omega)]; rfl
  | succ j ih =>
    intro k i acc hi h1 h0 ha
    have hb := rd_byte h (i : Int)
    have hp := pow64 (i - 1) (by omega)
    rw [show k + (j + 1) + 1 = (k + j + 1) + 1 from by omega, rhyneref07_Get.l1, if_pos (by omega), if_pos (by omega), if_pos (by omega), bt_strOf h]
    rw [u64_id (acc * 256) (by omega) (by omega), u64_id (rd l i) hb.1 (by omega), u64_id _ (by omega) (by omega)]
    rw [show wrap64 ((i : Int) + 1) = ((i + 1 : Nat) : Int) from by unfold wrap64; omega, ih k (i + 1) _ (by omega) (by omega) (by omega) (by rw [show i + 1 - 1 = (i - 1) + 1 from by omega, Int.pow_succ]; omega)]
    have hti : i < (l.take x5).length := by rw [List.length_take]; omega
    have hd : (l.take x5).drop i = (l.take x5)[i] :: (l.take x5).drop (i + 1) := List.drop_eq_getElem_cons hti
    rw [hd, show rd l (i : Int) = (l.take x5)[i] from by
      rw [List.getElem_take]; simp [rd, List.getD_eq_getElem?_getD, show i < l.length from by omega]]
    rfl
theorem strOf_nil (l : List Int) : (strOfNums l).toList = [] ↔ l = [] := by
  rw [Go.Lib.strOfNums_toList]
  cases l <;> simp [Go.Lib.bytesOf]
theorem ref_l0 (k : Nat) (l : List Int) (h : isBytes l) (hlen : 0 < l.length) (j : Nat) : ∀ i : Nat, i + j = (rd l 0 / 64).toNat → j ≤ 3 → i ≤ 3 →
    rhyneref07_Get.l0 (k + j + 1) (strOfNums l) ((2 ^ i : Nat) : Int) (i : Int) = if l.length < sizeS l then some (0, 0, 3) else rhyneref07_Get.l1 k (strOfNums l) (sizeS l : Int) (rd l 0 % 64) 1 := by
  have hz : ((strOfNums l).size : Int) = (l.length : Int) := by rw [strOfNums_size]
  have hb := rd_byte h 0
  have hw : wrap64 (Int.tdiv (wrap64 (bt (strOfNums l) 0)) 64) = rd l 0 / 64 := by
    rw [bt_strOf h, show wrap64 (rd l 0) = rd l 0 from by unfold wrap64; omega, Int.tdiv_eq_ediv_of_nonneg hb.1]; (try (unfold wrap64; omega))
  induction j with
  | zero =>
    intro i hi _ _
    rw [rhyneref07_Get.l0, if_pos (by omega), hw, if_neg (by omega)]
    have hs : sizeS l = 2 ^ i := by unfold sizeS; rw [← hi]; simp
    rw [← hs, hz]
    by_cases hl : l.length < sizeS l
    · rw [if_pos (by omega), if_pos hl]
    · rw [if_neg (by omega), if_neg hl, bt_strOf h, Int.tmod_eq_emod_of_nonneg hb.1, u64_id _ (by omega) (by omega)]
  | succ j ih =>
    intro i hi hj hi3
    rw [show k + (j + 1) + 1 = (k + j + 1) + 1 from by omega, rhyneref07_Get.l0, if_pos (by omega), hw, if_pos (by omega)]
    rw [show wrap64 ((i : Int) + 1) = ((i + 1 : Nat) : Int) from by unfold wrap64; omega]
    have h8 : 2 ^ i ≤ 8 := Nat.pow_le_pow_right (by decide +kernel : 0 < 2) hi3
    rw [show wrap64 (2 * ((2 ^ i : Nat) : Int)) = ((2 ^ (i + 1) : Nat) : Int) from by (rw [Nat.pow_succ]; unfold wrap64; omega)]
    exact ih (i + 1) (by omega) (by omega) (by omega)
theorem refget (k : Nat) (l : List Int) (h : isBytes l) : rhyneref07_Get.f (k + 14) (strOfNums l) = some (getS l) := by
  unfold rhyneref07_Get.f getS
  by_cases h0 : l = []
  · subst h0; rw [if_pos ((strOf_nil []).2 rfl), if_pos rfl]
  · have hlen : 0 < l.length := List.length_pos_iff.2 h0
    have hb := rd_byte h 0
    rw [if_neg (fun e => h0 ((strOf_nil l).1 e)), if_neg h0]
    have hj : (rd l 0 / 64).toNat ≤ 3 := by omega
    have e := ref_l0 (k + 14 - (rd l 0 / 64).toNat - 1) l h hlen (rd l 0 / 64).toNat 0 (by omega) hj (by omega)
    rw [show k + 14 - (rd l 0 / 64).toNat - 1 + (rd l 0 / 64).toNat + 1 = k + 14 from by omega] at e
    rw [show (1 : Int) = ((2 ^ 0 : Nat) : Int) from rfl]
    refine Eq.trans e ?_
    by_cases hs : l.length < sizeS l
    · rw [if_pos hs, if_pos hs]
    · rw [if_neg hs, if_neg hs]
      have hs1 : 1 ≤ sizeS l ∧ sizeS l ≤ 8 := by rcases size_cases h with ⟨_, s⟩ | ⟨_, s⟩ | ⟨_, s⟩ | ⟨_, s⟩ <;> omega
      have e2 := refloop_get l h (sizeS l) hs1.2 (by omega) (sizeS l - 1) (k + 14 - (rd l 0 / 64).toNat - 1 - (sizeS l - 1) - 1) 1 (rd l 0 % 64) (by omega) (by omega) (by omega) (by simp; omega)
      rw [show k + 14 - (rd l 0 / 64).toNat - 1 - (sizeS l - 1) - 1 + (sizeS l - 1) + 1 = k + 14 - (rd l 0 / 64).toNat - 1 from by omega] at e2
      exact e2
theorem getS_bounds {l : List Int} (h : isBytes l) (e : (getS l).2.2 = 0) : 0 ≤ (getS l).2.1 ∧ (getS l).2.1 ≤ l.length ∧ (getS l).2.1 ≤ 8 ∧ 0 ≤ (getS l).1 ∧ (getS l).1 < 4611686018427387904 := by
  unfold getS at e ⊢
  by_cases h0 : l = []
  · rw [if_pos h0] at e; exact absurd e (by decide +kernel)
  rw [if_neg h0] at e ⊢
  by_cases hs : l.length < sizeS l
  · rw [if_pos hs] at e; exact absurd e (by decide +kernel)
  rw [if_neg hs]
  have hs1 : 1 ≤ sizeS l ∧ sizeS l ≤ 8 := by rcases size_cases h with ⟨_, s⟩ | ⟨_, s⟩ | ⟨_, s⟩ | ⟨_, s⟩ <;> omega
  refine ⟨by show (0 : Int) ≤ (sizeS l : Int); omega, by show (sizeS l : Int) ≤ _; omega, by show (sizeS l : Int) ≤ 8; omega, ?_⟩
  have hb := rd_byte h 0
  have val : ∀ (xs : List Int), isBytes xs → ∀ acc : Int, 0 ≤ acc → 0 ≤ valS acc xs ∧ valS acc xs < (acc + 1) * 256 ^ xs.length := by
    intro xs
    induction xs with
    | nil => intro _ acc h0; exact ⟨h0, by simp [valS]; omega⟩
    | cons x xs ih =>
      intro hx acc h0
      have hx0 := hx x (List.mem_cons_self ..)
      obtain ⟨i1, i2⟩ := ih (fun y hy => hx y (List.mem_cons_of_mem _ hy)) (acc * 256 + x) (by omega)
      refine ⟨i1, Int.lt_of_lt_of_le i2 ?_⟩
      rw [List.length_cons, Int.pow_succ, Int.mul_comm (256 ^ xs.length) 256, ← Int.mul_assoc]
      exact Int.mul_le_mul_of_nonneg_right (by omega) (Int.pow_nonneg (by decide +kernel))
  have hxs : isBytes ((l.take (sizeS l)).drop 1) := fun x hx => h x (List.mem_of_mem_take (List.mem_of_mem_drop hx))
  have hxl : ((l.take (sizeS l)).drop 1).length = sizeS l - 1 := by rw [List.length_drop, List.length_take]; omega
  obtain ⟨v0, v1⟩ := val _ hxs (rd l 0 % 64) (by omega)
  refine ⟨v0, Int.lt_of_lt_of_le v1 ?_⟩
  rw [hxl]
  rcases size_cases h with ⟨_, s⟩ | ⟨_, s⟩ | ⟨_, s⟩ | ⟨_, s⟩ <;> rw [s] <;> simp <;> omega
/-- What GetText tells. -/
def getTextS (l : List Int) : List Int × Int × Int :=
  if (getS l).2.2 = 0 then (if (getS l).1 > 65535 then ([], 0, 5) else if (getS l).1 > (l.length : Int) - (getS l).2.1 then ([], 0, 3) else ((l.take ((getS l).2.1 + (getS l).1).toNat).drop (getS l).2.1.toNat, (getS l).2.1 + (getS l).1, 0)) else ([], 0, (getS l).2.2)
theorem vlqgettext (k : Nat) (l : List Int) (h : isBytes l) (hl : l.length ≤ 140737488351232) : vlq_GetText.f (k + 10) l = some (strOfNums (getTextS l).1, (getTextS l).2.1, (getTextS l).2.2) := by
  unfold vlq_GetText.f getTextS
  rw [vlqget k l h]
  simp only [Option.bind_some]
  by_cases e : (getS l).2.2 = 0
  · obtain ⟨a0, a1, a2, a3, a4⟩ := getS_bounds h e
    rw [if_pos e, if_pos e]
    by_cases hb : (getS l).1 > 65535
    · rw [if_pos hb, if_pos hb]; rfl
    · rw [if_neg hb, if_neg hb, show wrap64 (getS l).1 = (getS l).1 from by unfold wrap64; omega, show wrap64 ((l.length : Int) - (getS l).2.1) = (l.length : Int) - (getS l).2.1 from by unfold wrap64; omega, show wrap64 ((getS l).2.1 + (getS l).1) = (getS l).2.1 + (getS l).1 from by unfold wrap64; omega]
      by_cases ht : (getS l).1 > (l.length : Int) - (getS l).2.1
      · rw [if_pos ht, if_pos ht]; rfl
      · rw [if_neg ht, if_neg ht, if_pos a0, if_pos (by omega), if_pos (by omega)]
  · rw [if_neg e, if_neg e]; rfl
theorem strOf_extract (l : List Int) (a b : Nat) : ((strOfNums l).extract a b).toList = (strOfNums ((l.take b).drop a)).toList := by
  rw [Go.Lib.toList_data, Go.Lib.toList_data, ByteArray.data_extract, Array.toList_extract]
  simp only [strOfNums, List.extract_eq_take_drop, List.drop_take, List.map_drop, List.map_take]
theorem refgettext (k : Nat) (l : List Int) (h : isBytes l) (hl : l.length ≤ 140737488351232) : ∃ t, rhyneref07_GetText.f (k + 14) (strOfNums l) = some (t, (getTextS l).2.1, (getTextS l).2.2) ∧ t.toList = (strOfNums (getTextS l).1).toList := by
  have hz : ((strOfNums l).size : Int) = (l.length : Int) := by rw [strOfNums_size]
  unfold rhyneref07_GetText.f getTextS
  rw [refget k l h]
  simp only [Option.bind_some]
  by_cases e : (getS l).2.2 = 0
  · obtain ⟨a0, a1, a2, a3, a4⟩ := getS_bounds h e
    rw [if_pos e, if_pos e]
    by_cases hb : (getS l).1 > 65535
    · rw [if_pos hb, if_pos hb]; exact ⟨_, rfl, by decide +kernel⟩
    · rw [if_neg hb, if_neg hb, hz, show wrap64 (getS l).1 = (getS l).1 from by unfold wrap64; omega, show wrap64 ((l.length : Int) - (getS l).2.1) = (l.length : Int) - (getS l).2.1 from by unfold wrap64; omega, show wrap64 ((getS l).2.1 + (getS l).1) = (getS l).2.1 + (getS l).1 from by unfold wrap64; omega]
      by_cases ht : (getS l).1 > (l.length : Int) - (getS l).2.1
      · rw [if_pos ht, if_pos ht]; exact ⟨_, rfl, by decide +kernel⟩
      · rw [if_neg ht, if_neg ht, if_pos a0, if_pos (by omega), if_pos (by omega)]; exact ⟨_, rfl, strOf_extract _ _ _⟩
  · rw [if_neg e, if_neg e]; exact ⟨_, rfl, show (⟨#[]⟩ : ByteArray).toList = (strOfNums []).toList from by decide +kernel⟩
end Go.Proofs.YtpbhjemieikgpaaDoor.Pure
