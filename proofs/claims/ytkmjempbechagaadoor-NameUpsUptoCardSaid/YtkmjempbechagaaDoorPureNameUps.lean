/- From a name upwards: the law, in plain Lean. -/
import Derived.Test.YtkmjempbechagaaDoorPureNameBack
namespace Go.Proofs.YtkmjempbechagaaDoor.Pure
open Go.RowKit Go.Proofs.YtkmjempbechagaaDoor.X Go.Proofs.YtkmjempbechagaaDoorW.PrintWords Go.Proofs.YtkmjempbechagaaDoorW.PrintLast Go.Proofs.YtkmjempbechagaaDoorW.PrintMore
set_option linter.unusedSimpArgs false
set_option linter.unusedVariables false

/-- A name's text. -/
def nm (ps : List (List UInt8)) : List UInt8 := if ps = [] then [46] else joined ps
theorem joined_ne (p : List UInt8) (ps : List (List UInt8)) : joined (p :: ps) ≠ [] := by rw [joined_cons]; simp
theorem nm_of (l : List UInt8) (ps : List (List UInt8)) (h : nameOf l = some ps) : nm ps = l := by
  unfold nm
  rcases nameOf_some l ps h with ⟨h1, h2⟩ | ⟨h1, h2, _⟩
  · rw [if_pos h1, h2]
  · rw [if_neg h1, h2]
theorem nm_cons (p : List UInt8) (ps : List (List UInt8)) : nm (p :: ps) = p ++ [46] ++ joined ps := by unfold nm; rw [if_neg (by simp), joined_cons]
theorem joined_drop (ps : List (List UInt8)) (i : Nat) : (joined (ps.drop i)).length ≤ (joined ps).length := by
  have : (joined ps).length = (joined (ps.take i)).length + (joined (ps.drop i)).length := by rw [← List.length_append, joined, joined, joined, ← List.flatMap_append, List.take_append_drop]
  omega
theorem name_drop (l : List UInt8) (ps : List (List UInt8)) (h : nameOf l = some ps) (i : Nat) : nameOf (nm (ps.drop i)) = some (ps.drop i) ∧ (nm (ps.drop i)).length ≤ 254 := by
  by_cases h0 : ps.drop i = []
  · rw [h0]; exact ⟨by decide, by decide⟩
  · rcases nameOf_some l ps h with ⟨h1, h2⟩ | ⟨h1, h2, h3, h4, h5⟩
    · subst h1; simp at h0
    · have hl := joined_drop ps i
      rw [← h2] at hl
      unfold nm
      rw [if_neg h0]
      exact ⟨nameOf_joined _ h0 (fun p hp => h5 p (List.mem_of_mem_drop hp)) (by omega), by omega⟩
theorem up_cons (K : Nat) (hK : 300 ≤ K) (p : List UInt8) (ps : List (List UInt8)) (h : nameOf (nm (p :: ps)) = some (p :: ps)) (hl : (nm (p :: ps)).length ≤ 254) : name_Up.f K (mk (nm (p :: ps))) = some (mk (nm ps), 0) := by
  obtain ⟨k, rfl⟩ : ∃ k, K = k + 300 := ⟨K - 300, by omega⟩
  unfold name_Up.f
  rw [labels k _ (by rw [mk_size]; omega), mk_data, h, Option.bind_some, out_some]
  dsimp only
  rw [if_pos rfl, List.length_map]
  cases ps with
  | nil => rw [if_neg (by simp), if_pos (by simp)]; rfl
  | cons q qs =>
    have hlen : (nm (p :: q :: qs)).length = p.length + 1 + (joined (q :: qs)).length := by rw [nm_cons]; simp; omega
    rw [if_neg (by simp; omega), if_neg (by simp; omega), if_pos (by simp; omega)]
    have hrd : rdOf ByteArray.empty ((p :: q :: qs).map mk) 0 = mk p := rfl
    rw [hrd, mk_size, w_one p.length (by omega), if_pos (by omega), mk_size, if_pos (by omega), Int.toNat_natCast, mk_extract]
    have e : ((nm (p :: q :: qs)).drop (p.length + 1)).take ((nm (p :: q :: qs)).length - (p.length + 1)) = nm (q :: qs) := by
      rw [List.take_of_length_le (by simp), nm_cons, show p.length + 1 = (p ++ [46]).length from by simp, List.drop_left]; unfold nm; rw [if_neg (by simp)]
    rw [e]
theorem up_nil (K : Nat) (hK : 300 ≤ K) : ∃ t, name_Up.f K (mk (nm [])) = some (t, 15) := by
  obtain ⟨k, rfl⟩ : ∃ k, K = k + 300 := ⟨K - 300, by omega⟩
  unfold name_Up.f
  rw [labels k _ (by decide), mk_data, show nameOf (nm []) = some [] from by decide, Option.bind_some, out_some]
  exact ⟨_, rfl⟩
theorem und_drop (ps : List (List UInt8)) (i j : Nat) (h : i ≤ j) : undS (some (ps.drop i)) (some (ps.drop j)) = true := by
  refine (und_prefix _ _).2 (List.reverse_prefix.2 ?_)
  rw [show j = i + (j - i) from by omega, ← List.drop_drop]
  exact List.drop_suffix _ _
theorem ups_l1 (x0 : ByteArray) (ps : List (List UInt8)) (i : Nat) (up : List UInt8) (hj : (joined ps).length < 1000000) (hp : ps.length < 100000) : ∀ (m k j : Nat), j + m = ps.length → i + 1 ≤ j →
    rhynelaw17_NameUps.l1 (k + m + 1) x0 (ps.map mk) i (mk up) (mk (joined ((ps.drop (i + 1)).take (j - (i + 1))))) j =
      if i + 1 < ps.length then (if up = joined (ps.drop (i + 1)) then rhynelaw17_NameUps.l0 k x0 (ps.map mk) (mk up) ((i + 1 : Nat) : Int) else some false) else rhynelaw17_NameUps.l0 k x0 (ps.map mk) (mk up) ((i + 1 : Nat) : Int) := by
  intro m
  induction m with
  | zero =>
    intro k j hi hij
    have hlen : ¬ ((j : Int) < (ps.length : Int)) := by omega
    rw [rhynelaw17_NameUps.l1, List.length_map, if_neg hlen, List.take_of_length_le (by simp; omega), w_one i (by omega), mk_list, mk_list]
    by_cases h1 : i + 1 < ps.length
    · rw [if_pos (show ((i + 1 : Nat) : Int) < (ps.length : Int) from by omega), if_pos h1]
    · rw [if_neg (show ¬ ((i + 1 : Nat) : Int) < (ps.length : Int) from by omega), if_neg h1]
  | succ m ih =>
    intro k j hi hij
    have hjx : j < ps.length := by omega
    have ht : (ps.drop (i + 1)).take (j + 1 - (i + 1)) = (ps.drop (i + 1)).take (j - (i + 1)) ++ [ps[j]] := by
      rw [show j + 1 - (i + 1) = (j - (i + 1)) + 1 from by omega, List.take_add_one, List.getElem?_drop, show i + 1 + (j - (i + 1)) = j from by omega, List.getElem?_eq_getElem hjx]; rfl
    have hjj : joined ((ps.drop (i + 1)).take (j + 1 - (i + 1))) = joined ((ps.drop (i + 1)).take (j - (i + 1))) ++ ps[j] ++ [46] := by rw [ht, joined, List.flatMap_append]; simp [joined]
    have hb : (joined ((ps.drop (i + 1)).take (j + 1 - (i + 1)))).length ≤ (joined ps).length := by
      have h1 := joined_drop ps (i + 1)
      have h2 : (joined (ps.drop (i + 1))).length = (joined ((ps.drop (i + 1)).take (j + 1 - (i + 1)))).length + (joined ((ps.drop (i + 1)).drop (j + 1 - (i + 1)))).length := by rw [← List.length_append, joined, joined, joined, ← List.flatMap_append, List.take_append_drop]
      omega
    have hjl := congrArg List.length hjj
    simp only [List.length_append, List.length_singleton] at hjl
    rw [← Nat.add_assoc, rhynelaw17_NameUps.l1, List.length_map, if_pos (show (j : Int) < (ps.length : Int) from by omega), if_pos (show (0 : Int) ≤ (j : Int) from by omega), rdOf_map ps j hjx, mk_size, mk_size, if_pos (by omega), mk_app, mk_size, List.length_append, if_pos (by omega),
      show (⟨#[46]⟩ : ByteArray) = mk [46] from rfl, mk_app, ← hjj, w_one j (by omega)]
    exact ih k (j + 1) (by omega) (by omega)
theorem ups_l0 (l : List UInt8) (ps : List (List UInt8)) (h : nameOf l = some ps) (hl : l.length ≤ 254) : ∀ (m K i : Nat), i + m = ps.length → m * 16 * 16 + 700 ≤ K →
    rhynelaw17_NameUps.l0 K (mk l) (ps.map mk) (mk (nm (ps.drop i))) i = some true := by
  have hpl := name_bound _ _ h
  have hjl : (joined ps).length ≤ 254 := by
    rcases nameOf_some l ps h with ⟨h1, h2⟩ | ⟨h1, h2, h3, _⟩
    · subst h1; decide
    · rw [← h2]; exact h3
  intro m
  induction m with
  | zero =>
    intro K i hi hK
    obtain ⟨k, rfl⟩ : ∃ k, K = k + 1 := ⟨K - 1, by omega⟩
    have h0 : ps.drop i = [] := List.drop_eq_nil_of_le (by omega)
    obtain ⟨t, ht⟩ := up_nil k (by omega)
    rw [rhynelaw17_NameUps.l0, List.length_map, if_neg (by omega), h0, ht, Option.bind_some, if_pos (by rw [mk_list]; rfl)]
    rfl
  | succ m ih =>
    intro K i hi hK
    obtain ⟨k, rfl⟩ : ∃ k, K = k + 1 + 1 := ⟨K - 2, by omega⟩
    have hix : i < ps.length := by omega
    have hd := name_drop l ps h i
    have hd1 := name_drop l ps h (i + 1)
    have hcons : ps.drop i = ps[i] :: ps.drop (i + 1) := List.drop_eq_getElem_cons hix
    have hup : name_Up.f (k + 1) (mk (nm (ps.drop i))) = some (mk (nm (ps.drop (i + 1))), 0) := by
      rw [hcons] at hd ⊢
      exact up_cons (k + 1) (by omega) _ _ hd.1 hd.2
    have ha : (mk l).size < 9223372036854775807 := by rw [mk_size]; omega
    have hb : (mk (nm (ps.drop i))).size < 9223372036854775807 := by rw [mk_size]; omega
    have hc : (mk (nm (ps.drop (i + 1)))).size < 9223372036854775807 := by rw [mk_size]; omega
    have hne : undS (some (ps.drop (i + 1))) (some (ps.drop i)) = false := by
      simp only [undS]; rw [decide_eq_false (by simp; omega), Bool.false_and]
    have hless : lessS (some (ps.drop (i + 1))) (some (ps.drop i)) = true := by
      refine (und_less _ _ (und_drop ps i (i + 1) (by omega))).resolve_left fun e => ?_
      have := congrArg List.length e; simp at this; omega
    have hless2 : lessS (some (ps.drop i)) (some (ps.drop (i + 1))) = false := lt_asymm _ _ hless
    rw [rhynelaw17_NameUps.l0, List.length_map, if_pos (by omega), hup, Option.bind_some]
    dsimp only
    rw [if_pos rfl, under' _ (by omega) _ _ hb hc, Option.bind_some, mk_data, mk_data, hd.1, hd1.1, und_drop ps i (i + 1) (by omega), if_pos rfl, under' _ (by omega) _ _ ha hc, Option.bind_some, mk_data, mk_data, h, hd1.1,
      show undS (some ps) (some (ps.drop (i + 1))) = true from und_drop ps 0 (i + 1) (by omega), if_pos rfl, under' _ (by omega) _ _ hc hb, Option.bind_some, mk_data, mk_data, hd.1, hd1.1, hne, if_neg (by decide),
      less' _ (by omega) _ _ hc hb, Option.bind_some, mk_data, mk_data, hd.1, hd1.1, hless, if_pos rfl, less' _ (by omega) _ _ hb hc, Option.bind_some, mk_data, mk_data, hd.1, hd1.1, hless2]
    rw [rhynelaw17_NameUps.j2, if_neg (by decide), w_one i (by omega)]
    have hl1 := ups_l1 (mk l) ps i (nm (ps.drop (i + 1))) (by omega) (by omega) m (k - (m + 1)) (i + 1) (by omega) (Nat.le_refl _)
    rw [show k - (m + 1) + m + 1 = k from by omega, Nat.sub_self, List.take_zero, show mk (joined []) = (⟨#[]⟩ : ByteArray) from rfl] at hl1
    rw [hl1, ih (k - (m + 1)) (i + 1) (by omega) (by omega)]
    by_cases h1 : i + 1 < ps.length
    · rw [if_pos h1, if_pos]
      unfold nm
      rw [if_neg (fun e => by have := congrArg List.length e; simp at this; omega)]
    · rw [if_neg h1]

theorem NameUps : ∀ (a0 : ByteArray), a0.size ≤ maxLen → (a0.size + 1) ≤ 1048576 → ∃ k, rhynelaw17_NameUps.f k a0 = some true := by
  intro a ha hb
  refine ⟨199999 + 1, ?_⟩
  unfold rhynelaw17_NameUps.f
  have hlab := labels (199700) a (by omega)
  rw [show 199700 + 300 = 199999 + 1 from rfl] at hlab
  rw [hlab, Option.bind_some, named' _ (by decide), Option.bind_some, if_pos rfl, rhynelaw17_NameUps.j0]
  cases hx : nameOf a.data.toList with
  | none => rw [out_none, if_pos (by decide), named' _ (by decide)]; rfl
  | some ps =>
    rw [out_some]
    dsimp only
    have hpl := name_bound _ _ hx
    have hal : a.data.toList.length ≤ 254 := by
      rcases nameOf_some _ ps hx with ⟨h1, h2⟩ | ⟨h1, h2, h3, _⟩
      · rw [h2]; decide
      · exact h3
    have := ups_l0 a.data.toList ps hx hal ps.length 199999 0 (by omega) (by omega)
    rw [mk_of, List.drop_zero, nm_of _ _ hx, mk_of, show ((0 : Nat) : Int) = 0 from rfl] at this
    rw [if_neg (by decide), this]
end Go.Proofs.YtkmjempbechagaaDoor.Pure
