/- Rows of things that are handed to a law. -/
import Derived.Test.YtcbgjjbbeeoekaaDoorPhRead
import Derived.Test.YtcbgjjbbeeoekaaDoorPhPiece
set_option linter.unusedVariables false
namespace Ph
open Go Go.Proofs
theorem slr_row {α β : Type} (r : Rd α) (E : Enc β) (hk : r.sz = E.k) (hpos : 0 < E.k) (T : α → β → Prop) {h : Heap} {v : Value} {l : List α} (hT : ∀ x vs, r.rep h x vs → ∃ e, vs = E.enc e ∧ T x e) (hs : SlR r h v l) :
    ∃ le : List β, RowIn E h v le ∧ le.length = l.length ∧ (∀ (i : Nat) x, l[i]? = some x → ∃ e, le[i]? = some e ∧ T x e) ∧ ∀ A n st, v = .slice (some A) n st → A.block < h.next := by
  rcases hs with ⟨rfl, rfl⟩ | ⟨i, cells, rfl, h2, h3, h4, h5⟩
  · exact ⟨[], .inl ⟨rfl, rfl⟩, rfl, fun i x hx => by simp at hx, fun A n st e => by cases e⟩
  · have step : ∀ n, n ≤ l.length → ∃ le : List β, le.length = n ∧ cells.take (n * E.k) = E.flat le ∧ ∀ (i : Nat) x, i < n → l[i]? = some x → ∃ e, le[i]? = some e ∧ T x e := by
      intro n
      induction n with
      | zero => intro _; exact ⟨[], rfl, by simp [Enc.flat], fun i x hi => by omega⟩
      | succ n ih =>
        intro hn
        obtain ⟨le, e1, e2, e3⟩ := ih (by omega)
        have hx := List.getElem?_eq_getElem (l := l) (i := n) (by omega)
        have h6 := h5 n _ hx
        rw [hk] at h6
        obtain ⟨e, e4, e5⟩ := hT _ _ h6
        refine ⟨le ++ [e], by simp [e1], ?_, fun i x hi hx2 => ?_⟩
        · rw [Nat.succ_mul, List.take_add, e2, e4, flat_app]
          simp [Enc.flat]
        · by_cases hin : i < n
          · obtain ⟨e', a1, a2⟩ := e3 i x hin hx2
            exact ⟨e', by rw [List.getElem?_append_left (by omega)]; exact a1, a2⟩
          · obtain rfl : i = n := by omega
            rw [hx] at hx2; cases hx2
            exact ⟨e, by rw [List.getElem?_append_right (by omega), e1]; simp, e5⟩
    obtain ⟨le, e1, e2, e3⟩ := step l.length (Nat.le_refl _)
    rw [hk] at h4
    refine ⟨le, .inr ⟨i, 0, cells, .ro, by rw [e1, hk], h3, ⟨by rw [e1]; omega, by rw [e1, List.drop_zero]; exact e2⟩⟩, e1, fun j x hx => e3 j x (List.getElem?_eq_some_iff.1 hx).1 hx, fun A n st e => by cases e; exact h2⟩
end Ph
