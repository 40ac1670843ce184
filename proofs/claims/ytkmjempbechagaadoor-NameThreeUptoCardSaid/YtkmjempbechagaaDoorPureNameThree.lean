/- The order of three names: the law, in plain Lean. -/
import Derived.Test.YtkmjempbechagaaDoorPureNameOrders
namespace Go.Proofs.YtkmjempbechagaaDoor.Pure
open Go.RowKit Go.Proofs.YtkmjempbechagaaDoor.X Go.Proofs.YtkmjempbechagaaDoorW.PrintWords Go.Proofs.YtkmjempbechagaaDoorW.PrintLast Go.Proofs.YtkmjempbechagaaDoorW.PrintMore
set_option linter.unusedSimpArgs false
set_option linter.unusedVariables false

theorem NameThree : ∀ (a0 : ByteArray) (a1 : ByteArray) (a2 : ByteArray), a0.size ≤ maxLen → a1.size ≤ maxLen → a2.size ≤ maxLen → ((a0.size + 1) + (a1.size + 1) + (a2.size + 1)) ≤ 1048576 → ∃ k, rhynelaw17_NameThree.f k a0 a1 a2 = some true := by
  intro a b c ha0 hb0 hc0 hall
  have ha : a.size < 9223372036854775807 := by omega
  have hb : b.size < 9223372036854775807 := by omega
  have hc : c.size < 9223372036854775807 := by omega
  refine ⟨1999999 + 1, ?_⟩
  unfold rhynelaw17_NameThree.f
  rw [named' _ (by decide), Option.bind_some, if_pos rfl, right _ a (by omega) (by omega), Option.bind_some]
  cases hx : nameOf a.data.toList with
  | none => rw [show (none : Option (List (List UInt8))).isSome = false from rfl, if_neg (by decide), rhynelaw17_NameThree.j0, if_pos rfl, named' _ (by decide)]; rfl
  | some x =>
    rw [show (some x).isSome = true from rfl, if_pos rfl, right _ b (by omega) (by omega), Option.bind_some]
    cases hy : nameOf b.data.toList with
    | none => rw [show (none : Option (List (List UInt8))).isSome = false from rfl, if_neg (by decide), rhynelaw17_NameThree.j0, if_pos rfl, named' _ (by decide)]; rfl
    | some y =>
      rw [show (some y).isSome = true from rfl, if_pos rfl, right _ c (by omega) (by omega), Option.bind_some]
      cases hz : nameOf c.data.toList with
      | none => rw [show (!(none : Option (List (List UInt8))).isSome) = true from rfl, rhynelaw17_NameThree.j0, if_pos rfl, named' _ (by decide)]; rfl
      | some z =>
        rw [show (!(some z).isSome) = false from rfl, rhynelaw17_NameThree.j0, if_neg (by decide), less' _ (by decide) a b ha hb, Option.bind_some, hx, hy]
        have hj : rhynelaw17_NameThree.j1 1999999 a b c false = some true := by
          rw [show (1999999 : Nat) = 1999998 + 1 from rfl, rhynelaw17_NameThree.j1, if_neg (by decide), under' _ (by decide) c a hc ha, Option.bind_some, less' _ (by decide) a b ha hb, Option.bind_some, less' _ (by decide) b c hb hc, Option.bind_some, under' _ (by decide) b a hb ha, Option.bind_some, hx, hy, hz]
          by_cases h1 : undS (some z) (some x) = true
          · rw [if_pos h1]
            by_cases h2 : lessS (some x) (some y) = true
            · rw [if_pos h2]
              by_cases h3 : lessS (some y) (some z) = true
              · rw [if_pos h3, less_und x y z h1 h2 h3]
              · rw [if_neg h3]
            · rw [if_neg h2]
          · rw [if_neg h1]
        by_cases h2 : lessS (some x) (some y) = true
        · rw [if_pos h2, less' _ (by decide) b c hb hc, Option.bind_some, hy, hz]
          by_cases h3 : lessS (some y) (some z) = true
          · rw [if_pos h3, less' _ (by decide) a c ha hc, Option.bind_some, hx, hz]
            have h4 : lessS (some x) (some z) = true := lt_trans _ _ _ h2 h3
            rw [h4]
            exact hj
          · rw [if_neg h3]; exact hj
        · rw [if_neg h2]; exact hj
end Go.Proofs.YtkmjempbechagaaDoor.Pure
