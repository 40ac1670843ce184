import Derived.Test.YthghohhaagkbnaaC2
set_option maxRecDepth 100000
set_option maxHeartbeats 4000000
set_option linter.unusedSimpArgs false
set_option linter.unusedVariables false
namespace Ph
open Go Go.Proofs
/-! Functions that are gone over, which hand out things in an order of their own. D: the blocks that the rounds have made. -/
def SeqN {α : Type} (P : Program) (f : FuncId) (cap : Array Value) (arg : α → Array Value) (more : List α → α → Prop) (fin : List α → Prop) (Req : Heap → Prop) : Prop :=
  ∀ (id : Nat) (J : List α → List Nat → Heap → Prop) (Jx : Heap → Prop) (h : Heap), J [] [] h → (∀ s D H, J s D H → Req H) →
    (∀ s D H H', J s D H → H.next ≤ H'.next → (∀ k, k < H.next → (k < h.next ∨ k ∈ D) → H'.get k = H.get k) → J s D H') → (∀ s D H, J s D H → ∀ d ∈ D, d < H.next) →
    (∀ (s : List α) (x : α) (D : List Nat) (H : Heap), more s x → J s D H → h.next ≤ H.next → @YieldH P id (arg x) H ⟨fun u H' => (u = .bool true ∧ ∃ D', J (s ++ [x]) D' H' ∧ (∀ d ∈ D', d ∈ D ∨ H.next ≤ d) ∧ H.next ≤ H'.next ∧ ∀ k, k < H.next → h.next ≤ k → k ∉ D → H'.get k = H.get k) ∨ (u = .bool false ∧ Jx H')⟩) →
    @CallsH P f (#[.func (.yield id) #[] #[]] ++ cap) h ⟨fun _ H => (∃ s D, fin s ∧ J s D H ∧ h.next ≤ H.next) ∨ Jx H⟩
theorem range_overN {α : Type} {P : Program} {g : Operand} {ps : Array Tmp} {assign body : Code} {Q : Qt} {r : Regs} {h : Heap} {f : FuncId} {cap : Array Value} {arg : α → Array Value} {more : List α → α → Prop} {fin : List α → Prop} {Req : Heap → Prop} (hg : ev r g = .func (.func f) #[] cap) (hgood : goodFunc P f = true)
    (hseq : SeqN P f cap arg more fin Req) (hsz : ∀ x, (arg x).size = ps.size) (I : List α → List Nat → Heap → Prop) (h0 : ∀ H, Upd h H [] → H.next = h.next + 1 → I [] [] H) (hreq : ∀ s D H, I s D H → Req H)
    (hst : ∀ s D H H', I s D H → H.next ≤ H'.next → (∀ k, k < H.next → (k < h.next ∨ k ∈ D) → H'.get k = H.get k) → I s D H') (hD : ∀ s D H, I s D H → ∀ d ∈ D, h.next < d ∧ d < H.next)
    (hend : ∀ s D H x, fin s → I s D H → h.next < H.next → Q .normal r (H.put h.next x))
    (hbody : ∀ n s x D H B, okCode n assign = true → okCode n body = true → more s x → I s D H → H.get h.next = B → h.next < H.next →
      CodeH P n assign (fun e r1 H1 => match e with | .normal => H1.get h.next = B ∧ ∀ B', CodeH P n body (fun e r' H' => H'.get h.next = B' ∧ match e with | .normal => ∃ D', I (s ++ [x]) D' H' ∧ (∀ d ∈ D', d ∈ D ∨ H.next ≤ d) ∧ H.next ≤ H'.next ∧ (∀ k, k < H.next → h.next < k → k ∉ D → H'.get k = H.get k) | e => ∀ x, Q e r (H'.put h.next x)) r1 (H1.put h.next B') | _ => False) (setP r ps.toList (arg x).toList) H) :
    @RF P g ps assign body r h ⟨Q⟩ := by
  refine rf_intro hg hgood fun n k1 k2 k3 k4 => ?_
  obtain ⟨L, hL⟩ : ∃ L : LoopS, L = ⟨.ready, none, r, n, ps, assign, body⟩ := ⟨_, rfl⟩
  rw [← hL]
  have l1 : L.st = .ready := by rw [hL]
  have l2 : L.pend = none := by rw [hL]
  have l3 : L.params = ps := by rw [hL]
  have l4 : L.assign = assign := by rw [hL]
  have l5 : L.body = body := by rw [hL]
  have l6 : L.regs = r := by rw [hL]
  have l7 : L.n = n := by rw [hL]
  have lw : L.with .ready none = L := by rw [hL]; rfl
  clear hL
  refine (hseq h.next (fun s D H => H.get h.next = loopB L ∧ h.next < H.next ∧ I s D H) (fun H => ∃ e, Ex.code e ≠ none ∧ H.get h.next = loopB (L.with .done (Ex.code e)) ∧ ∀ x, Q e r (H.put h.next x)) (h.alloc (.loop L .own)) ⟨by rw [get_alloc, if_pos rfl]; rfl, Nat.lt_succ_self _, h0 _ (Upd.alloc _ _ _) rfl⟩ (fun s D H hI => hreq s D H hI.2.2)
    (fun s D H H' hI hn hu => ⟨(hu _ hI.2.1 (.inl (Nat.lt_succ_self _))).trans hI.1, Nat.lt_of_lt_of_le hI.2.1 hn, hst s D H H' hI.2.2 hn fun k hk hc => hu k hk (hc.imp_left fun h => Nat.lt_succ_of_lt h)⟩) (fun s D H hI d hd => (hD s D H hI.2.2 d hd).2) (fun s x D H hx ⟨hB, hlt, hI⟩ hnx => ?_)).mono fun u H' hH' => ?_
  · refine yield_intro L hB l1 l2 (by rw [l3]; exact hsz x) (by rw [l4, l5]; exact k3) (by rw [l3, l7]; exact k4) ?_
    rw [l3, l4, l5, l6, l7]
    refine (hbody n s x D H _ k1 k2 hx hI hB hlt).mono fun e r1 H1 he => ?_
    cases e with
    | normal =>
      obtain ⟨e1, e2⟩ := he
      refine ⟨e1, (e2 (loopB (L.with .busy none))).mono fun e r2 H2 hq => ?_⟩
      refine ⟨hq.1, ?_⟩
      cases e with
      | normal =>
        obtain ⟨_, D', hI', hD', hn', hk'⟩ := hq
        refine .inl ⟨rfl, D', ⟨by rw [put_same, lw], Nat.lt_of_lt_of_le hlt hn', ?_⟩, hD', by rw [next_put]; exact hn', fun k hk1 hk2 hk3 => ?_⟩
        · have hh := hD (s ++ [x]) D' H2 hI'
          refine hst _ _ _ _ hI' (by rw [next_put]; exact Nat.le_refl _) fun k hk hc => ?_
          rw [get_put, if_neg]
          rcases hc with h1 | h1
          · omega
          · have := hh k h1; omega
        · have h9 : h.next + 1 ≤ k := hk2
          rw [get_put, if_neg (by omega)]; exact hk' k hk1 (by omega) hk3
      | ret => exact .inr ⟨rfl, .ret, by simp [Ex.code], put_same, fun x => by rw [put_put]; exact hq.2 x⟩
      | exit j => exact .inr ⟨rfl, .exit j, by simp [Ex.code], put_same, fun x => by rw [put_put]; exact hq.2 x⟩
    | ret => exact he.elim
    | exit j => exact he.elim
  · rcases hH' with ⟨s, D, hf, ⟨e1, e4, e2⟩, e3⟩ | ⟨e, e0, e1, e2⟩
    · exact ⟨L, e1, by rw [l1]; simp, by rw [l2]; exact hend s D H' _ hf e2 e4⟩
    · refine ⟨_, e1, by simp [LoopS.with], ?_⟩
      cases e with
      | normal => exact absurd rfl e0
      | ret => exact e2 _
      | exit j => exact e2 _
end Ph
