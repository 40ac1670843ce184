/- The order of two names: the law, in plain Lean. -/
import Derived.Test.YtkmjempbechagaaDoorM4
import Derived.Test.YtkmjempbechagaaDoorX
namespace Go.Proofs.YtkmjempbechagaaDoor.Pure
open Go.RowKit Go.Proofs.YtkmjempbechagaaDoor.X Go.Proofs.YtkmjempbechagaaDoorW.PrintWords Go.Proofs.YtkmjempbechagaaDoorW.PrintLast Go.Proofs.YtkmjempbechagaaDoorW.PrintMore
set_option linter.unusedSimpArgs false
set_option linter.unusedVariables false

theorem less' (K : Nat) (hK : 600 ≤ K) (a b : ByteArray) (ha : a.size < 9223372036854775807) (hb : b.size < 9223372036854775807) :
    name_Less.f K a b = some (lessS (nameOf a.data.toList) (nameOf b.data.toList)) := by
  obtain ⟨k, rfl⟩ : ∃ k, K = k + 600 := ⟨K - 600, by omega⟩
  exact less k a b ha hb
theorem under' (K : Nat) (hK : 600 ≤ K) (a b : ByteArray) (ha : a.size < 9223372036854775807) (hb : b.size < 9223372036854775807) :
    name_Under.f K a b = some (undS (nameOf a.data.toList) (nameOf b.data.toList)) := by
  obtain ⟨k, rfl⟩ : ∃ k, K = k + 600 := ⟨K - 600, by omega⟩
  exact under k a b ha hb
theorem named' (K : Nat) (hK : 600 ≤ K) : rhynelaw17_named.f K = some true := by
  obtain ⟨k, rfl⟩ : ∃ k, K = k + 600 := ⟨K - 600, by omega⟩
  exact named k
theorem toList_inj {a b : ByteArray} (h : a.data.toList = b.data.toList) : a = b := by rw [← mk_of a, ← mk_of b, h]

theorem NameOrders : ∀ (a0 : ByteArray) (a1 : ByteArray), a0.size ≤ maxLen → a1.size ≤ maxLen → ∃ k, rhynelaw17_NameOrders.f k a0 a1 = some true := by
  intro a b ha0 hb0
  refine ⟨19999 + 1, ?_⟩
  unfold rhynelaw17_NameOrders.f
  by_cases h1 : (a.size : Int) > 3000
  · rw [if_pos h1, rhynelaw17_NameOrders.j0, if_pos rfl, named' _ (by decide)]; rfl
  rw [if_neg h1]
  by_cases h2 : (b.size : Int) > 3000
  · rw [decide_eq_true h2, rhynelaw17_NameOrders.j0, if_pos rfl, named' _ (by decide)]; rfl
  have ha : a.size < 9223372036854775807 := by omega
  have hb : b.size < 9223372036854775807 := by omega
  rw [decide_eq_false h2, rhynelaw17_NameOrders.j0, if_neg (by decide), less' _ (by decide) a b ha hb, Option.bind_some, less' _ (by decide) b a hb ha, Option.bind_some, named' _ (by decide), Option.bind_some, if_pos rfl,
    docless _ a b (by omega) (by omega) (by omega), Option.bind_some, if_neg (by simp), docless _ b a (by omega) (by omega) (by omega), Option.bind_some, if_neg (by simp), under' _ (by decide) a b ha hb, Option.bind_some,
    docunder _ a b (by omega) (by omega) (by omega), Option.bind_some, show ∀ x : Bool, (x != x) = false from by decide, show (19999 : Nat) = 19998 + 1 from rfl, rhynelaw17_NameOrders.j1, if_neg (by decide), right _ a (by omega) (by omega), Option.bind_some]
  cases hx : nameOf a.data.toList with
  | none =>
    rw [show (none : Option (List (List UInt8))).isSome = false from rfl, if_neg (by decide), show (19998 : Nat) = 19997 + 1 from rfl, rhynelaw17_NameOrders.j2, if_pos rfl, show ∀ y, lessS none y = false from fun y => rfl, if_neg (by decide)]
    cases nameOf b.data.toList <;> rfl
  | some x =>
    rw [show (some x).isSome = true from rfl, if_pos rfl, right _ b (by omega) (by omega), Option.bind_some]
    cases hy : nameOf b.data.toList with
    | none =>
      rw [show (none : Option (List (List UInt8))).isSome = false from rfl, show (19998 : Nat) = 19997 + 1 from rfl, rhynelaw17_NameOrders.j2, if_pos (by decide)]
      rfl
    | some y =>
      rw [show (some y).isSome = true from rfl, show (19998 : Nat) = 19997 + 1 from rfl, rhynelaw17_NameOrders.j2, if_neg (by decide), under' _ (by decide) a b ha hb, Option.bind_some, under' _ (by decide) a a ha ha, Option.bind_some, hx, hy, und_self]
      have hab : a.toList = b.toList ↔ x = y := by
        rw [ByteArray.toList_eq, ByteArray.toList_eq]
        constructor
        · intro e; rw [e] at hx; rw [hx] at hy; exact Option.some.inj hy
        · intro e; subst e; exact nameOf_inj _ _ _ hx hy
      have hul := und_less x y
      have hirr : x = y → lessS (some x) (some y) = false := fun e => by subst e; exact lt_irrefl _
      have hirr' : x = y → lessS (some y) (some x) = false := fun e => by subst e; exact lt_irrefl _
      have hasym : lessS (some x) (some y) = true → lessS (some y) (some x) = false := lt_asymm _ _
      have htot : x ≠ y → lessS (some x) (some y) = false → lessS (some y) (some x) = true := fun hn h => lt_total _ _ (fun e => hn (by have := congrArg List.reverse e; simpa using this)) h
      revert hul hirr hirr' hasym htot
      generalize lessS (some x) (some y) = l1
      generalize lessS (some y) (some x) = l2
      generalize undS (some x) (some y) = u
      by_cases he : x = y
      · have hab' := hab.2 he
        rw [hab']
        intro hul hirr hirr' hasym htot
        rw [hirr he, hirr' he]
        cases u <;> simp
      · have hab' : ¬ a.toList = b.toList := fun e => he (hab.1 e)
        have hbe : (a.toList == b.toList) = false := beq_eq_false_iff_ne.2 hab'
        rw [hbe]
        intro hul hirr hirr' hasym htot
        have hul' := fun h => (hul h).resolve_left he
        cases l1 with
        | true =>
          have e2 := hasym rfl
          subst e2
          cases u with
          | true => have := hul' rfl; cases this
          | false => rfl
        | false =>
          have e2 := htot he rfl
          subst e2
          cases u <;> simp [hab']
end Go.Proofs.YtkmjempbechagaaDoor.Pure
