/- For all headers (bulk at most 1048576) Put tells what the chapter does. -/
import Derived.Test.YthagjeomcgphiaaDoorX10
import Derived.Test.YthagjeomcgphiaaDoorR1
import Derived.Test.YthagjeomcgphiaaDoorM4
namespace Go.Proofs.YthagjeomcgphiaaDoor.Pure
open Go.RowKit Go.Proofs.YthagjeomcgphiaaDoor.X Go.Proofs.YthagjeomcgphiaaDoorW.PrintWords Go.Proofs.YthagjeomcgphiaaDoorW.PrintLast Go.Proofs.YthagjeomcgphiaaDoorW.PrintMore
set_option linter.unusedSimpArgs false
set_option linter.unusedVariables false

theorem PacketPuts : ∀ (a0_0 : Int) (a0_1 : Int) (a0_2 : ByteArray) (a0_3 : ByteArray) (a0_4 : ByteArray) (a0_5 : Int) (a0_6 : Int) (a0_7 : Int) (a0_8 : Bool) (l0_9 : List Int), (Lit.int .i64 a0_0).wf = true → (Lit.int .i64 a0_1).wf = true → a0_2.size ≤ maxLen → a0_3.size ≤ maxLen → a0_4.size ≤ maxLen → (Lit.int .i64 a0_5).wf = true → (Lit.int .i64 a0_6).wf = true → (Lit.int .i64 a0_7).wf = true → (l0_9.length ≤ maxLen ∧ ∀ x ∈ l0_9, (Lit.int .i64 x).wf = true) → 1 + 1 + (a0_2.size + 1) + (a0_3.size + 1) + (a0_4.size + 1) + 1 + 1 + 1 + 1 + ((l0_9.map fun x => 1).sum + 1) ≤ 1048576 → ∃ k, rhynelaw08_PacketPuts.f k a0_0 a0_1 a0_2 a0_3 a0_4 a0_5 a0_6 a0_7 a0_8 l0_9 = some true := by
  intro a0 a1 a2 a3 a4 a5 a6 a7 a8 l _ _ _ _ _ _ _ _ _ hb
  rw [sum_ones] at hb
  have hl : l.length < 17592186044416 := Nat.lt_of_le_of_lt (show l.length ≤ 1048576 by omega) (by decide)
  clear hb
  refine ⟨0 + 60, ?_⟩
  unfold rhynelaw08_PacketPuts.f rhynelaw08_to.f
  have hto : ((some (([] : List Int) : List Int)).bind fun y267 => (if y267.length + l.length < 17592186044416 then (some (a0, a1, a2, a3, a4, a5, a6, a7, a8, (y267 ++ l))) else (none))) = some (a0, a1, a2, a3, a4, a5, a6, a7, a8, l) := by
    rw [Option.bind_some, if_pos (by simpa using hl)]; rfl
  rw [hto]
  cases h : okH a0 a1 a2 a3 a4 a5 a6 a7 a8 l with
  | true =>
    rw [doc_put a0 a1 a2 a3 a4 a5 a6 a7 a8 l 0 h, Option.bind_some, Option.bind_some, put_put a0 a1 a2 a3 a4 a5 a6 a7 a8 l 0 h, Option.bind_some, heads_f, Option.bind_some, if_pos rfl, if_pos rfl]; rfl
  | false =>
    rw [doc_no a0 a1 a2 a3 a4 a5 a6 a7 a8 l 0 h, Option.bind_some, Option.bind_some, put_no a0 a1 a2 a3 a4 a5 a6 a7 a8 l 0 h, Option.bind_some, heads_f, Option.bind_some, if_pos rfl]; decide +kernel
end Go.Proofs.YthagjeomcgphiaaDoor.Pure
