/- Under, the document's Less and Under, the bytes of a name; names and their parts, there and back. -/
import Derived.Test.YtjblahoegfojdaaDoorM3
namespace Go.Proofs.YtjblahoegfojdaaDoor.Pure
open Go.RowKit Go.Proofs.YtjblahoegfojdaaDoor.X Go.Proofs.YtjblahoegfojdaaDoorW.PrintWords Go.Proofs.YtjblahoegfojdaaDoorW.PrintLast Go.Proofs.YtjblahoegfojdaaDoorW.PrintMore
set_option linter.unusedSimpArgs false
set_option linter.unusedVariables false

/-! There and back. -/
def joined (ps : List (List UInt8)) : List UInt8 := ps.flatMap (· ++ [46])
theorem partsOf_join : ∀ (r cur : List UInt8) (qs), cur.all letB = true → partsOf r cur = some qs → cur ++ r = joined qs ∧ ∀ p ∈ qs, okPart p = true := by
  intro r
  induction r with
  | nil => intro cur qs hc h; unfold partsOf at h; split at h <;> simp at h; subst h; rename_i h; subst h; exact ⟨rfl, by simp⟩
  | cons c r ih =>
    intro cur qs hc h
    unfold partsOf at h
    split at h
    · rename_i h46
      subst h46
      split at h
      · cases h
      · rename_i hbad
        cases hp : partsOf r [] with
        | none => rw [hp] at h; cases h
        | some q =>
          rw [hp] at h
          obtain ⟨e1, e2⟩ := ih [] q rfl hp
          simp at h; subst h
          rw [List.nil_append] at e1
          refine ⟨by rw [joined, List.flatMap_cons]; rw [joined] at e1; rw [← e1]; simp, fun p hp => ?_⟩
          rcases List.mem_cons.1 hp with rfl | hp
          · rw [okPart, hc]; simp at hbad ⊢; exact hbad
          · exact e2 p hp
    · split at h
      · rename_i hl
        obtain ⟨e1, e2⟩ := ih (cur ++ [c]) qs (by rw [List.all_append, hc]; simp [hl]) h
        exact ⟨by rw [← e1]; simp, e2⟩
      · cases h
theorem letB_dot : letB 46 = false := by decide
theorem partsOf_part : ∀ (p cur r : List UInt8), p.all letB = true → partsOf (p ++ 46 :: r) cur = if cur ++ p = [] ∨ 63 < (cur ++ p).length then none else (partsOf r []).map ((cur ++ p) :: ·) := by
  intro p
  induction p with
  | nil => intro cur r _; rw [List.nil_append, partsOf, if_pos rfl, List.append_nil]
  | cons c p ih =>
    intro cur r h
    simp only [List.all_cons, Bool.and_eq_true] at h
    have h46 : c ≠ 46 := fun e => by subst e; rw [letB_dot] at h; cases h.1
    rw [List.cons_append, partsOf, if_neg h46, if_pos h.1, ih _ _ h.2]; simp
theorem partsOf_joined : ∀ ps : List (List UInt8), (∀ p ∈ ps, okPart p = true) → partsOf (joined ps) [] = some ps := by
  intro ps
  induction ps with
  | nil => intro _; rfl
  | cons p ps ih =>
    intro h
    have hp := h p (by simp)
    simp only [okPart, Bool.and_eq_true, decide_eq_true_eq] at hp
    rw [joined, List.flatMap_cons, List.append_assoc, List.singleton_append, partsOf_part p [] _ hp.2.2, List.nil_append, if_neg (fun e => e.elim hp.1 (by omega))]
    have := ih fun q hq => h q (by simp [hq])
    rw [joined] at this
    rw [this]; rfl
theorem nameOf_some (l : List UInt8) (ps : List (List UInt8)) (h : nameOf l = some ps) : (ps = [] ∧ l = [46]) ∨ (ps ≠ [] ∧ l = joined ps ∧ l.length ≤ 254 ∧ l ≠ [46] ∧ ∀ p ∈ ps, okPart p = true) := by
  unfold nameOf at h
  split at h
  · rename_i e; simp at h; exact .inl ⟨h, e⟩
  · split at h
    · cases h
    · rename_i h1 h2
      obtain ⟨e1, e2⟩ := partsOf_join l [] ps rfl h
      refine .inr ⟨fun e => ?_, e1, by omega, h1, e2⟩
      subst e
      exact h2 (.inl e1)
theorem nameOf_joined (ps : List (List UInt8)) (hn : ps ≠ []) (h : ∀ p ∈ ps, okPart p = true) (hl : (joined ps).length ≤ 254) : nameOf (joined ps) = some ps := by
  obtain ⟨p, ps, rfl⟩ : ∃ p q, ps = p :: q := by cases ps with | nil => exact absurd rfl hn | cons p q => exact ⟨p, q, rfl⟩
  have hp := h p (by simp)
  simp only [okPart, Bool.and_eq_true, decide_eq_true_eq] at hp
  have hlen : 2 ≤ (joined (p :: ps)).length := by
    have : 0 < p.length := List.length_pos_iff.2 hp.1
    rw [joined, List.flatMap_cons]; simp; omega
  unfold nameOf
  rw [if_neg (fun e => by rw [e] at hlen; simp at hlen), if_neg, partsOf_joined _ h]
  rintro (e | e)
  · rw [e] at hlen; simp at hlen
  · omega
theorem nameOf_inj (a b : List UInt8) (ps) (ha : nameOf a = some ps) (hb : nameOf b = some ps) : a = b := by
  rcases nameOf_some a ps ha with ⟨h1, h2⟩ | ⟨h1, h2, _⟩ <;> rcases nameOf_some b ps hb with ⟨h3, h4⟩ | ⟨h3, h4, _⟩
  · rw [h2, h4]
  · exact absurd h1 h3
  · exact absurd h3 h1
  · rw [h2, h4]

/-! Equal, Under. -/
theorem doclabels' (K : Nat) (a : ByteArray) (ha : a.size < 8796093022208) (hK : a.size + 1 ≤ K) : rhyneref17_DocLabels.f K a = some (out (nameOf a.data.toList)) := by
  rw [show K = (K - (a.size + 1)) + a.size + 1 from by omega, doclabels _ a ha]
def wireL (ps : List (List UInt8)) : List Int := ps.flatMap fun p => (p.length : Int) :: p.map fun c => (c.toNat : Int)
theorem wireL_length (ps : List (List UInt8)) : (wireL ps).length = (joined ps).length := by
  induction ps with
  | nil => rfl
  | cons p ps ih => rw [wireL, joined, List.flatMap_cons, List.flatMap_cons]; rw [wireL, joined] at ih; simp only [List.length_append, ih]; simp
theorem joined_length (ps : List (List UInt8)) : (joined ps).length = (ps.map fun p => p.length + 1).sum := by
  rw [joined, List.length_flatMap]; simp
theorem mk_bytesOf (p : List UInt8) : bytesOf (mk p) = p.map fun c => (c.toNat : Int) := rfl
theorem wire_l0 (ps : List (List UInt8)) (hp : ∀ p ∈ ps, p.length ≤ 63) (hn : ps.length < 100000) : ∀ (m k i : Nat) (acc : List Int), i + m = ps.length → acc.length ≤ 64 * i →
    name_Wire.l0 (k + m + 1) acc (ps.map mk) ps.length i = some (acc ++ wireL (ps.drop i) ++ [0], 0) := by
  intro m
  induction m with
  | zero =>
    intro k i acc hi ha
    rw [name_Wire.l0, if_neg (by omega), if_pos (by omega), List.drop_eq_nil_of_le (by omega)]; simp [wireL]
  | succ m ih =>
    intro k i acc hi ha
    have hix : i < ps.length := by omega
    have h63 := hp ps[i] (List.getElem_mem hix)
    rw [← Nat.add_assoc, name_Wire.l0, if_pos (by omega), if_pos (by omega), List.length_map, if_pos (by omega), if_pos (by omega), rdOf_map ps i hix, mk_size, Option.bind_some, if_pos (by simp; omega), mk_bytesOf, w64 _ (by omega) (by omega),
      show ((i : Int) + 1) = ((i + 1 : Nat) : Int) from rfl, ih k (i + 1) _ (by omega) (by simp; omega), List.drop_eq_getElem_cons hix, Int.emod_eq_of_lt (by omega) (by omega)]
    have : wireL (ps[i] :: ps.drop (i + 1)) = ((ps[i].length : Int) :: ps[i].map fun c => (c.toNat : Int)) ++ wireL (ps.drop (i + 1)) := by rw [wireL, List.flatMap_cons]; rfl
    rw [this]; simp
theorem wire (k : Nat) (a : ByteArray) (ha : a.size < 9223372036854775807) : name_Wire.f (k + 300) a = some (match nameOf a.data.toList with | none => ([], 14) | some ps => (wireL ps ++ [0], 0)) := by
  unfold name_Wire.f
  rw [labels k a ha, Option.bind_some]
  cases hx : nameOf a.data.toList with
  | none => rw [out_none, if_neg (by decide)]
  | some x =>
    rw [out_some, if_pos rfl]; dsimp only
    have hxl := name_bound _ _ hx
    have h63 : ∀ p ∈ x, p.length ≤ 63 := by
      rcases nameOf_some _ _ hx with ⟨h, _⟩ | ⟨_, _, _, _, h⟩
      · subst h; simp
      · intro p hp; have := h p hp; simp only [okPart, Bool.and_eq_true, decide_eq_true_eq] at this; exact this.2.1
    have := wire_l0 x h63 (by omega) x.length (k + 299 - x.length) 0 [] (by omega) (by simp)
    rw [show k + 299 - x.length + x.length + 1 = k + 300 from by omega, show ((0 : Nat) : Int) = 0 from rfl] at this
    rw [List.length_map, this]; rfl
theorem named (k : Nat) : rhynelaw17_named.f (k + 600) = some true := by
  unfold rhynelaw17_named.f
  rw [less k _ _ (by decide) (by decide), show k + 600 = (k + 300) + 300 from rfl, wire _ _ (by decide), wire _ _ (by decide), Option.bind_some, Option.bind_some]
  have h1 : nameOf (⟨#[97, 46, 98, 99, 46]⟩ : ByteArray).data.toList = some [[97], [98, 99]] := by decide
  have h2 : nameOf (⟨#[46]⟩ : ByteArray).data.toList = some [] := by decide
  rw [h1, h2]
  dsimp only
  rw [if_pos rfl, if_pos rfl, if_pos (by decide +kernel), if_pos (by decide +kernel), Option.bind_some]
  decide
end Go.Proofs.YtjblahoegfojdaaDoor.Pure
