import Derived.Test.YtcbgjjbbeeoekaaDoorPhList
set_option linter.unusedVariables false
namespace Ph
open Go
/-! ## Pieces of code -/
/-- one side of a choice, piece by piece -/
theorem CodeH.condT {P : Program} {n : Nat} {c : Operand} {x y : Code} {Q : Qt} {r : Regs} {h : Heap} (hok : okArg c = true) (hc : ev r c = .bool true) (h1 : CodeH P n x Q r h) : CodeH P n (.cond c x y) Q r h := fun ro lo ρ W a hro hlo hC hr => by
  have hro1 : ro = none ∨ noRF x = true := hro.imp (fun h => h) (fun h => by simp only [noRF, Bool.and_eq_true] at h; exact h.1)
  have he := eval_rel hok hr
  rw [hc] at he
  exact wpIn_cond (t := true) he.bool_inv (h1 ro lo ρ W a hro1 hlo hC hr)
theorem CodeH.condF {P : Program} {n : Nat} {c : Operand} {x y : Code} {Q : Qt} {r : Regs} {h : Heap} (hok : okArg c = true) (hc : ev r c = .bool false) (h1 : CodeH P n y Q r h) : CodeH P n (.cond c x y) Q r h := fun ro lo ρ W a hro hlo hC hr => by
  have hro2 : ro = none ∨ noRF y = true := hro.imp (fun h => h) (fun h => by simp only [noRF, Bool.and_eq_true] at h; exact h.2)
  have he := eval_rel hok hr
  rw [hc] at he
  exact wpIn_cond (t := false) he.bool_inv (h1 ro lo ρ W a hro2 hlo hC hr)
theorem okl {n : Nat} {a b : Code} (h : okCode n (.seq a b) = true) : okCode n a = true := by simp only [okCode, Bool.and_eq_true] at h; exact h.1
theorem okr {n : Nat} {a b : Code} (h : okCode n (.seq a b) = true) : okCode n b = true := by simp only [okCode, Bool.and_eq_true] at h; exact h.2
theorem okb {n i : Nat} {a : Code} (h : okCode n (.block i a) = true) : okCode n a = true := h
theorem okc {n : Nat} {c : Operand} {a b : Code} (h : okCode n (.cond c a b) = true) : okArg c = true ∧ okCode n a = true ∧ okCode n b = true := by
  simp only [okCode, Bool.and_eq_true] at h; exact ⟨h.1.1, h.1.2, h.2⟩
theorem CodeH.block {P : Program} {n : Nat} {id : Nat} {c : Code} {Q : Qt} {r : Regs} {h : Heap} (h1 : CodeH P n c (fun e r h => e.blk Q id r h) r h) : CodeH P n (.block id c) Q r h := fun ro lo ρ W a hro hlo hC hr => by
  refine wpIn_block (wpIn_mono (h1 ro lo ρ W a hro hlo hC hr) (fun e a' W' hq => ?_))
  obtain ⟨ex, hx, ρ', r', h', c1, c2, c3, c4⟩ := hq
  cases e with
  | normal => cases ex <;> first | exact hx.elim | exact ⟨_, hx, ρ', r', h', c1, c2, c3, c4⟩
  | exit i =>
    cases ex with
    | exit j =>
      cases hx
      simp only [Exit.inBlock]
      simp only [Ex.blk] at c4
      split
      · rename_i e; rw [if_pos e] at c4; exact ⟨.normal, trivial, ρ', r', h', c1, c2, c3, c4⟩
      · rename_i e; rw [if_neg e] at c4; exact ⟨.exit i, rfl, ρ', r', h', c1, c2, c3, c4⟩
    | _ => exact hx.elim
  | ret => cases ex <;> first | exact hx.elim | exact ⟨_, hx, ρ', r', h', c1, c2, c3, c4⟩
  | goto l => cases ex <;> exact hx.elim
  | panic ch => cases ex <;> exact hx.elim
  | outgrown => cases ex <;> exact hx.elim
end Ph
