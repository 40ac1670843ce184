/- For every text Labels, Wire and Up tell what the chapter does; no condition. -/
import Derived.Test.YtjblahoegfojdaaDoorM4
namespace Go.Proofs.YtjblahoegfojdaaDoor.Pure
open Go.RowKit Go.Proofs.YtjblahoegfojdaaDoor.X Go.Proofs.YtjblahoegfojdaaDoorW.PrintWords Go.Proofs.YtjblahoegfojdaaDoorW.PrintLast Go.Proofs.YtjblahoegfojdaaDoorW.PrintMore
set_option linter.unusedSimpArgs false
set_option linter.unusedVariables false

theorem nums_size (l : List Int) : (strOfNums l).size = l.length := by simp [strOfNums, ByteArray.size]
theorem nums_app (a b : List Int) : strOfNums a ++ strOfNums b = strOfNums (a ++ b) := by
  apply ByteArray.ext
  rw [ByteArray.data_append]
  simp [strOfNums]
theorem mk_nums (p : List UInt8) : mk p = strOfNums (p.map fun c => (c.toNat : Int)) := by
  simp [mk, strOfNums, Function.comp_def]
theorem docwire_l0 (ps : List (List UInt8)) (hp : ∀ p ∈ ps, p.length ≤ 63) (hn : ps.length < 1000) : ∀ (m k i : Nat) (acc : List Int), i + m = ps.length → acc.length ≤ 64 * i →
    rhyneref17_DocWire.l0 (k + m + 1) (ps.map mk) (strOfNums acc) i = some (strOfNums (acc ++ wireL (ps.drop i) ++ [0]), 0) := by
  intro m
  induction m with
  | zero =>
    intro k i acc hi ha
    rw [rhyneref17_DocWire.l0, List.length_map, if_neg (by omega), if_pos (by rw [nums_size]; omega), List.drop_eq_nil_of_le (by omega), show (⟨#[0]⟩ : ByteArray) = strOfNums [0] from rfl, nums_app]; simp [wireL]
  | succ m ih =>
    intro k i acc hi ha
    have hix : i < ps.length := by omega
    have h63 := hp ps[i] (List.getElem_mem hix)
    have hal : (acc ++ [(ps[i].length : Int)] ++ ps[i].map fun c => (c.toNat : Int)).length = acc.length + 1 + ps[i].length := by simp; omega
    rw [← Nat.add_assoc, rhyneref17_DocWire.l0, List.length_map, if_pos (by omega), if_pos (by omega), rdOf_map ps i hix, mk_size, Option.bind_some, Int.emod_eq_of_lt (by omega) (by omega), nums_app, mk_nums ps[i], nums_app,
      if_pos (by rw [nums_size, nums_size]; simp; omega), if_pos (by rw [nums_size]; simp; omega), w64 _ (by omega) (by omega), show ((i : Int) + 1) = ((i + 1 : Nat) : Int) from rfl, ih k (i + 1) _ (by omega) (by rw [hal]; omega), List.drop_eq_getElem_cons hix]
    have : wireL (ps[i] :: ps.drop (i + 1)) = ((ps[i].length : Int) :: ps[i].map fun c => (c.toNat : Int)) ++ wireL (ps.drop (i + 1)) := by rw [wireL, List.flatMap_cons]; rfl
    rw [this]; simp
theorem parts63 (l : List UInt8) (x : List (List UInt8)) (hx : nameOf l = some x) : ∀ p ∈ x, p.length ≤ 63 := by
  rcases nameOf_some _ _ hx with ⟨h, _⟩ | ⟨_, _, _, _, h⟩
  · subst h; simp
  · intro p hp; have := h p hp; simp only [okPart, Bool.and_eq_true, decide_eq_true_eq] at this; exact this.2.1
theorem docwire (a : ByteArray) (ha : a.size ≤ 3000) : rhyneref17_DocWire.f 4000 a = some (match nameOf a.data.toList with | none => (⟨#[]⟩, 14) | some ps => (strOfNums (wireL ps ++ [0]), 0)) := by
  unfold rhyneref17_DocWire.f
  rw [doclabels' 4000 a (Nat.lt_of_le_of_lt ha (by decide)) (by omega), Option.bind_some]
  cases hx : nameOf a.data.toList with
  | none => rw [out_none, if_neg (by decide)]
  | some x =>
    rw [out_some, if_pos rfl]; dsimp only
    have hxl := name_bound _ _ hx
    have := docwire_l0 x (parts63 _ _ hx) (by omega) x.length (3999 - x.length) 0 [] (by omega) (by simp)
    rw [show 3999 - x.length + x.length + 1 = 4000 from by omega, show ((0 : Nat) : Int) = 0 from rfl] at this
    rw [show (⟨#[]⟩ : ByteArray) = strOfNums [] from rfl, this]; rfl
theorem texts_l0 (xs : List ByteArray) (hn : xs.length < 1000) : ∀ (m k i : Nat), i + m = xs.length → rhynelaw17_texts.l0 (k + m + 1) xs xs i = some true := by
  intro m
  induction m with
  | zero => intro k i hi; rw [rhynelaw17_texts.l0, if_neg (by omega)]
  | succ m ih =>
    intro k i hi
    rw [← Nat.add_assoc, rhynelaw17_texts.l0, if_pos (by omega), if_pos (by omega), if_pos (by omega), if_pos rfl, w64 _ (by omega) (by omega), show ((i : Int) + 1) = ((i + 1 : Nat) : Int) from rfl, ih k (i + 1) (by omega)]
theorem texts (xs : List ByteArray) (hn : xs.length < 1000) : rhynelaw17_texts.f 4000 xs xs = some true := by
  unfold rhynelaw17_texts.f
  rw [if_pos rfl]
  have := texts_l0 xs hn xs.length (3999 - xs.length) 0 (by omega)
  rwa [show 3999 - xs.length + xs.length + 1 = 4000 from by omega] at this
theorem up_both (a : ByteArray) (ha : a.size ≤ 3000) : ∃ r, name_Up.f 4000 a = some r ∧ rhyneref17_DocUp.f 4000 a = some r := by
  unfold name_Up.f rhyneref17_DocUp.f
  rw [doclabels' 4000 a (Nat.lt_of_le_of_lt ha (by decide)) (by omega), show (4000 : Nat) = 3700 + 300 from rfl, labels 3700 a (Nat.lt_of_le_of_lt ha (by decide)), Option.bind_some]
  suffices h : ∃ r, (if (out (nameOf a.data.toList)).2 = 0 then (if ((out (nameOf a.data.toList)).1.length : Int) = 0 then (some ((⟨#[]⟩ : ByteArray), (15 : Int))) else (if ((out (nameOf a.data.toList)).1.length : Int) = 1 then (some ((⟨#[46]⟩ : ByteArray), 0)) else (if 0 < ((out (nameOf a.data.toList)).1.length : Int) then (if 0 ≤ (wrap64 (((rdOf ByteArray.empty (out (nameOf a.data.toList)).1 0).size : Int) + 1)) then (if (wrap64 (((rdOf ByteArray.empty (out (nameOf a.data.toList)).1 0).size : Int) + 1)) ≤ (a.size : Int) then (some (a.extract ((wrap64 (((rdOf ByteArray.empty (out (nameOf a.data.toList)).1 0).size : Int) + 1)) : Int).toNat a.size, 0)) else (none)) else (none)) else (none)))) else (some ((⟨#[]⟩ : ByteArray), (out (nameOf a.data.toList)).2))) = some r by
    obtain ⟨r, hr⟩ := h; exact ⟨r, hr, hr⟩
  cases hx : nameOf a.data.toList with
  | none => rw [out_none, if_neg (by decide)]; exact ⟨_, rfl⟩
  | some x =>
    rw [out_some, if_pos rfl]; dsimp only
    cases x with
    | nil => exact ⟨_, by rw [if_pos (show (((List.map mk []).length : Nat) : Int) = 0 from rfl)]⟩
    | cons p ps =>
      cases ps with
      | nil => exact ⟨_, by rw [if_neg (show ¬ (((List.map mk [p]).length : Nat) : Int) = 0 by simp), if_pos (show (((List.map mk [p]).length : Nat) : Int) = 1 from rfl)]⟩
      | cons q qs =>
        have h63 := parts63 _ _ hx p (by simp)
        have hlen : p.length + 1 ≤ a.size := by
          rcases nameOf_some _ _ hx with ⟨h, _⟩ | ⟨_, h, _, _, _⟩
          · cases h
          · have hs : a.size = a.data.toList.length := by rw [← mk_size, mk_of]
            rw [hs, h, joined_length]; simp
        have hrd : rdOf ByteArray.empty ((p :: q :: qs).map mk) 0 = mk p := rfl
        rw [hrd, mk_size, w64 _ (by omega) (by omega), if_neg (by simp; omega), if_neg (by simp; omega), if_pos (by simp; omega), if_pos (by omega), if_pos (by omega)]
        exact ⟨_, rfl⟩
theorem NameTells : ∀ (a0 : ByteArray), a0.size ≤ maxLen → ∃ k, rhynelaw17_NameTells.f k a0 = some true := by
  intro a _
  refine ⟨4000, ?_⟩
  unfold rhynelaw17_NameTells.f
  have hnm : rhynelaw17_named.f 4000 = some true := named 3400
  by_cases h : (a.size : Int) > 3000
  · rw [if_pos h, hnm]; rfl
  have ha : a.size ≤ 3000 := by omega
  obtain ⟨r, hu, hd⟩ := up_both a ha
  have hl : name_Labels.f 4000 a = some (out (nameOf a.data.toList)) := labels 3700 a (Nat.lt_of_le_of_lt ha (by decide))
  have hw : name_Wire.f 4000 a = some (match nameOf a.data.toList with | none => ([], 14) | some ps => (wireL ps ++ [0], 0)) := wire 3700 a (Nat.lt_of_le_of_lt ha (by decide))
  rw [if_neg h, hnm, doclabels' 4000 a (Nat.lt_of_le_of_lt ha (by decide)) (by omega), hl, docwire a ha, hw, hd, hu]
  have ht : rhynelaw17_texts.f 4000 (out (nameOf a.data.toList)).1 (out (nameOf a.data.toList)).1 = some true := by
    apply texts
    cases hx : nameOf a.data.toList with
    | none => decide
    | some x => have := name_bound _ _ hx; rw [out_some]; simp; omega
  simp only [Option.bind_some, if_true]
  rw [ht]
  cases hx : nameOf a.data.toList with
  | none =>
    simp only [out_none, if_true, Option.bind_some]
    rw [if_pos (by decide +kernel), beq_self_eq_true]
  | some x => simp [out_some]
end Go.Proofs.YtjblahoegfojdaaDoor.Pure
