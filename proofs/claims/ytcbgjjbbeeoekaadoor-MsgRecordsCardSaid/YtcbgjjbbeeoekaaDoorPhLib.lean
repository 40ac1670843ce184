import Derived.Test.YtcbgjjbbeeoekaaDoorPhList
import Derived.Test.YtcbgjjbbeeoekaaDoorPhDrawn
import Derived.Lib.SplitLaws
import Derived.Lib.SlTrimSet
set_option linter.unusedVariables false
namespace Ph
open Go
/-! ## The library's functions, by contracts over worlds -/
section
variable {P : Program} {f : FuncId} {args : Array Value} {h : Heap}
theorem ARel.plain_eq {ρ : Ren} {xs ys : Array Value} (hp : ∀ x ∈ xs, plain x = true) (hr : ARel ρ xs ys) : ys = xs := by
  apply Array.ext
  · exact hr.1.symm
  · intro i h1 h2
    exact (hr.2 i xs[i] ys[i] (Array.getElem?_eq_getElem h2) (Array.getElem?_eq_getElem h1)).plain_eq (hp _ (Array.getElem_mem _))
/-- a function that leaves all that was there as it was, and answers plainly -/
theorem lift_world {v : Value} (hv : plain v = true) (hc : ∀ ρ W args', Conc ρ h W → ARel ρ args args' → Calls P f args' W fun e w' => e = .returned v ∧ RowKit.Below W.heap.size W w') :
    @CallsH P f args h ⟨fun u H => u = v ∧ H = h⟩ := fun ρ W args' hC ha => by
  refine (calls_drawn (hc ρ W args' hC ha) fun w' ⟨he, _⟩ => by cases he).mono fun e w' ⟨⟨he, hb⟩, hd⟩ => ?_
  exact ⟨ρ, h, v, v, he, .same _ hv, hC.below hb, Frame.below ⟨hb, hd⟩, rfl, rfl⟩
theorem lift_plain {v : Value} (ha : ∀ x ∈ args, plain x = true) (hv : plain v = true) (hc : ∀ W, Calls P f args W fun e w' => e = .returned v ∧ RowKit.Below W.heap.size W w') :
    @CallsH P f args h ⟨fun u H => u = v ∧ H = h⟩ :=
  lift_world hv fun ρ W args' hC hr => by rw [hr.plain_eq ha]; exact hc W
/-- a function that makes one new row of plain cells -/
theorem lift_row {xs : List Value} {n : Nat} (ha : ∀ x ∈ args, plain x = true) (hx : xs.all plainCell = true) (hn : xs.length = n)
    (hc : ∀ ρ W, Conc ρ h W → Calls P f args W fun e w' => e = .returned (.slice (some ⟨W.heap.size, 0, none⟩) n n) ∧ ∃ t : TypeId, w' = W.alloc (.cells xs.toArray t)) :
    @CallsH P f args h ⟨fun u H => u = .slice (some ⟨h.next, 0, none⟩) n 1 ∧ H = h.alloc (.cells xs .own)⟩ := fun ρ W args' hC hr => by
  rw [hr.plain_eq ha]
  refine (hc ρ W hC).mono fun e w' ⟨he, t, hw⟩ => ?_
  obtain ⟨h1, h2⟩ := alloc_sound hC xs xs.toArray #[] (ARel.of_plain (by simpa using hx)) t (0, 0) (fun i _ h => by omega)
  rw [Array.append_empty] at h1 h2
  subst hw
  refine ⟨_, _, _, _, he, ?_, h1, h2, rfl, rfl⟩
  refine .slice _ _ _ _ _ _ (add_self ..) (Nat.le_refl _) ?_
  simp [hn]
end
end Ph
