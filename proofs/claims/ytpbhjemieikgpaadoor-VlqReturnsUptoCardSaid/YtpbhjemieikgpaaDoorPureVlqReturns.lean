/- For all numbers, sizes, texts and bytes (of bulk at most 1048576): what is put is got, in any size, whatever stands behind, texts too; a beginning of the bytes ends too soon. -/
import Derived.Test.YtpbhjemieikgpaaDoorX8
import Derived.Test.YtpbhjemieikgpaaDoorPureVlqLess
import Derived.Test.YtpbhjemieikgpaaDoorPureVlqGets
namespace Go.Proofs.YtpbhjemieikgpaaDoor.Pure
open Go.RowKit Go.Proofs.YtpbhjemieikgpaaDoor.X Go.Proofs.YtpbhjemieikgpaaDoorW.PrintWords Go.Proofs.YtpbhjemieikgpaaDoorW.PrintLast Go.Proofs.YtpbhjemieikgpaaDoorW.PrintMore
set_option linter.unusedSimpArgs false
set_option linter.unusedVariables false

theorem bytesOf_len (s : ByteArray) : (bytesOf s).length = s.size := by
  unfold bytesOf
  rw [List.length_map, Array.length_toList]; rfl
theorem bytesOf_bytes (s : ByteArray) : isBytes (bytesOf s) := by
  intro x hx
  simp only [bytesOf, List.mem_map] at hx
  obtain ⟨b, _, rfl⟩ := hx
  have := b.toNat_lt
  omega
theorem strOf_bytesOf (s : ByteArray) : strOfNums (bytesOf s) = s := by
  obtain ⟨⟨l⟩⟩ := s
  simp [strOfNums, bytesOf, Function.comp_def]
theorem isBytes_append {a b : List Int} (ha : isBytes a) (hb : isBytes b) : isBytes (a ++ b) := fun x hx => (List.mem_append.1 hx).elim (ha x) (hb x)

theorem VlqReturns : ∀ (a0_0 : Int) (a0_1 : Int) (a0_2 : ByteArray) (l0_3 : List Int), (Lit.int .u64 a0_0).wf = true → (Lit.int .i64 a0_1).wf = true → a0_2.size ≤ maxLen → (l0_3.length ≤ maxLen ∧ ∀ x ∈ l0_3, (Lit.int .u8 x).wf = true) → 1 + 1 + (a0_2.size + 1) + ((l0_3.map fun x => 1).sum + 1) ≤ 1048576 → ∃ k, rhynelaw07_VlqReturns.f k a0_0 a0_1 a0_2 l0_3 = some true := by
  intro n size s l wn ws _ hl hb
  obtain ⟨n0, n1⟩ := wf_u64 wn
  have hbl := wf_bytes hl.2
  have hsum : (l.map fun _ => 1).sum = l.length := by
    clear hl hbl hb
    induction l with
    | nil => rfl
    | cons x l ih => simp [ih]; omega
  rw [hsum] at hb
  have hll : l.length ≤ 1048576 := by omega
  have hss : s.size ≤ 1048576 := by omega
  clear hsum hb hl
  have fin : ∀ m, rhynelaw07_VlqReturns.j0 (m + 31) n size s l = some true := by
    intro m
    rw [show m + 31 = (m + 30) + 1 from rfl, rhynelaw07_VlqReturns.j0]
    unfold vlq_Text.f
    by_cases hs : (s.size : Int) > 65535
    · rw [if_pos hs]
      simp only [Option.bind_some]
      rw [if_neg (by decide +kernel), decide_eq_true hs]; rfl
    · have hc : 0 ≤ (s.size : Int) ∧ (s.size : Int) < 4611686018427387904 := by omega
      rw [if_neg hs, show m + 30 = (m + 6) + 24 from rfl, put_int (m + 6) _ (by omega) (by omega), if_pos hc]
      simp only [Option.bind_some]
      rw [show (if (s.size : Int) < 64 then (1 : Int) else if (s.size : Int) < 16384 then 2 else if (s.size : Int) < 1073741824 then 4 else 8) = szS (s.size : Int) from rfl]
      have ca := szS_cap _ hc.2
      have sa : szS (s.size : Int) = 1 ∨ szS (s.size : Int) = 2 ∨ szS (s.size : Int) = 4 ∨ szS (s.size : Int) = 8 := by rcases szS_spec _ hc.2 with h | h | h | h <;> omega
      have la := encS_length (s.size : Int) _ sa
      have eb := encS_bytes (s.size : Int) _ hc.1 ca
      rw [if_pos (by omega)]
      simp only [Option.bind_some, if_true, List.nil_append, List.length_nil]
      rw [if_pos (by rw [List.length_append, bytesOf_len]; omega), if_pos (by rw [List.length_append, bytesOf_len]; omega)]
      generalize hk : szS (s.size : Int) = k at *
      have hall : isBytes ((encS (s.size : Int) k ++ bytesOf s) ++ l) := isBytes_append (isBytes_append eb (bytesOf_bytes s)) hbl
      have hlen : ((encS (s.size : Int) k ++ bytesOf s) ++ l).length = k.toNat + s.size + l.length := by rw [List.length_append, List.length_append, bytesOf_len]; omega
      rw [show m + 6 + 24 = (m + 20) + 10 from rfl, vlqgettext (m + 20) _ hall (by omega)]
      simp only [Option.bind_some]
      have hg : getTextS ((encS (s.size : Int) k ++ bytesOf s) ++ l) = (bytesOf s, k + (s.size : Int), 0) := by
        unfold getTextS
        rw [List.append_assoc, getS_enc _ _ _ hc.1 ca, ← List.append_assoc, hlen]
        dsimp only
        rw [if_pos rfl, if_neg hs, if_neg (by omega)]
        congr 1
        have e1 : (k + (s.size : Int)).toNat = (encS (s.size : Int) k).length + (bytesOf s).length := by rw [bytesOf_len]; omega
        have e2 : k.toNat = (encS (s.size : Int) k).length := by omega
        rw [e1, e2, ← List.length_append, List.take_left, List.drop_left]
      rw [hg]
      simp only [if_true]
      rw [if_pos (by rw [strOf_bytesOf])]
      congr 1
      rw [beq_iff_eq, List.length_append, bytesOf_len]; omega
  refine ⟨60, ?_⟩
  unfold rhynelaw07_VlqReturns.f
  rw [show (60 : Nat) = 30 + 30 from rfl, vlq_counts]
  simp only [Option.bind_some, if_true]
  rw [show (30 + 30 : Nat) = 40 + 20 from rfl, putin_uint64 40 n size (by omega) n1]
  simp only [Option.bind_some]
  by_cases hc : capS size = 0
  · rw [if_pos hc, if_neg (by decide +kernel)]; exact fin 29
  · rw [if_neg hc]
    have hs : size = 1 ∨ size = 2 ∨ size = 4 ∨ size = 8 := by rcases cap_cases size with h | ⟨h, _⟩; exact h; exact absurd h hc
    by_cases hf : 0 ≤ n ∧ n < capS size
    · rw [if_pos hf]
      have la := encS_length n size hs
      have eb := encS_bytes n size hf.1 hf.2
      simp only [if_true, List.nil_append, List.length_nil]
      rw [if_pos (by omega), if_pos (by omega), show (40 + 20 : Nat) = 50 + 10 from rfl, vlqget 50 _ (isBytes_append eb hbl), getS_enc n size l hf.1 hf.2, show wrap64 (((encS n size).length : Int) - 1) = size - 1 from by unfold wrap64; omega, vlqget 50 _ (fun x hx => eb x (List.mem_of_mem_take hx)), getS_cut n size hf.1 hf.2]
      simp only [Option.bind_some, if_true]
      rw [if_pos (by omega), if_pos (by omega)]
      exact fin 29
    · rw [if_neg hf, if_neg (by decide +kernel)]; exact fin 29

end Go.Proofs.YtpbhjemieikgpaaDoor.Pure
