/- For all bytes the program's Get and GetText tell what the chapter's do; no condition. -/
import Derived.Test.YtpbhjemieikgpaaDoorX7
import Derived.Test.YtpbhjemieikgpaaDoorM3
import Derived.Test.YtpbhjemieikgpaaDoorPureVlqPuts
namespace Go.Proofs.YtpbhjemieikgpaaDoor.Pure
open Go.RowKit Go.Proofs.YtpbhjemieikgpaaDoor.X Go.Proofs.YtpbhjemieikgpaaDoorW.PrintWords Go.Proofs.YtpbhjemieikgpaaDoorW.PrintLast Go.Proofs.YtpbhjemieikgpaaDoorW.PrintMore
set_option linter.unusedSimpArgs false
set_option linter.unusedVariables false

theorem wf_bytes {l : List Int} (h : ∀ x ∈ l, (Lit.int .u8 x).wf = true) : isBytes l := by
  intro x hx
  have := h x hx
  simp only [Lit.wf, IntKind.min, IntKind.max, IntKind.signed, IntKind.bits, Bool.and_eq_true, decide_eq_true_eq] at this
  simp at this
  omega

theorem VlqGets : rhynelaw07_VlqGets.Pure := by
  intro l _ hl hw
  have h := wf_bytes hw
  obtain ⟨t, ht, htl⟩ := refgettext 26 l h (by omega)
  refine ⟨40, ?_⟩
  unfold rhynelaw07_VlqGets.f
  rw [show (40 : Nat) = 26 + 14 from rfl, refget 26 l h, show (26 + 14 : Nat) = 30 + 10 from rfl, vlqget 30 l h, show (30 + 10 : Nat) = 26 + 14 from rfl, ht, show (26 + 14 : Nat) = 30 + 10 from rfl, vlqgettext 30 l h (by omega), show (30 + 10 : Nat) = 10 + 30 from rfl, vlq_counts]
  simp only [Option.bind_some, if_true, if_pos htl, beq_self_eq_true]

end Go.Proofs.YtpbhjemieikgpaaDoor.Pure
