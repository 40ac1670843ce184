import Derived.Test.YtliblomkhapibaaL22
set_option maxRecDepth 100000
set_option maxHeartbeats 1000000
set_option linter.unusedSimpArgs false
set_option linter.unusedVariables false
namespace Ph
open Go Go.Proofs
/-! Rows that came in: as rows of the logic. -/
theorem slr_row {α β : Type} (r : Rd α) (E : Enc β) (hk : r.sz = E.k) (hpos : 0 < E.k) (T : α → β → Prop) {h : Heap} {v : Value} {l : List α} (hT : ∀ x vs, r.rep h x vs → ∃ e, vs = E.enc e ∧ T x e) (hs : SlR r h v l) :
    ∃ le : List β, RowIn E h v le ∧ le.length = l.length ∧ (∀ (i : Nat) x, l[i]? = some x → ∃ e, le[i]? = some e ∧ T x e) ∧ ∀ A n st, v = .slice (some A) n st → A.block < h.next := by
  rcases hs with ⟨rfl, rfl⟩ | ⟨i, cells, rfl, h2, h3, h4, h5⟩
  · exact ⟨[], .inl ⟨rfl, rfl⟩, rfl, fun i x hx => by simp at hx, fun A n st e => by cases e⟩
  · have step : ∀ n, n ≤ l.length → ∃ le : List β, le.length = n ∧ cells.take (n * E.k) = E.flat le ∧ ∀ (i : Nat) x, i < n → l[i]? = some x → ∃ e, le[i]? = some e ∧ T x e := by
      intro n
      induction n with
      | zero => intro _; exact ⟨[], rfl, by simp [Enc.flat], fun i x hi => by omega⟩
      | succ n ih =>
        intro hn
        obtain ⟨le, e1, e2, e3⟩ := ih (by omega)
        have hx := List.getElem?_eq_getElem (l := l) (i := n) (by omega)
        have h6 := h5 n _ hx
        rw [hk] at h6
        obtain ⟨e, e4, e5⟩ := hT _ _ h6
        refine ⟨le ++ [e], by simp [e1], ?_, fun i x hi hx2 => ?_⟩
        · rw [Nat.succ_mul, List.take_add, e2, e4, flat_app]
          simp [Enc.flat]
        · by_cases hin : i < n
          · obtain ⟨e', a1, a2⟩ := e3 i x hin hx2
            exact ⟨e', by rw [List.getElem?_append_left (by omega)]; exact a1, a2⟩
          · obtain rfl : i = n := by omega
            rw [hx] at hx2; cases hx2
            exact ⟨e, by rw [List.getElem?_append_right (by omega), e1]; simp, e5⟩
    obtain ⟨le, e1, e2, e3⟩ := step l.length (Nat.le_refl _)
    rw [hk] at h4
    refine ⟨le, .inr ⟨i, 0, cells, .ro, by rw [e1, hk], h3, ⟨by rw [e1]; omega, by rw [e1, List.drop_zero]; exact e2⟩⟩, e1, fun j x hx => e3 j x (List.getElem?_eq_some_iff.1 hx).1 hx, fun A n st e => by cases e; exact h2⟩
structure Ev where
  what : Int
  n : Int
  size : Int
  asks : Bool
  sa : Option Addr
  sn : Nat
  st : Nat
  delay : Int
  wait : Int
def evE : Enc Ev := ⟨7, fun x => [.int .i64 x.what, .int .i64 x.n, .int .i64 x.size, .bool x.asks, .slice x.sa x.sn x.st, .int .i64 x.delay, .int .i64 x.wait], fun _ => rfl, fun _ => rfl⟩
abbrev EvI := Int × Int × Int × Bool × (List (Int × Int)) × Int × Int
abbrev evRd : Rd EvI := Rd.pair (Rd.int .i64) (Rd.pair (Rd.int .i64) (Rd.pair (Rd.int .i64) (Rd.pair Rd.bool (Rd.pair (Rd.slice (Rd.pair (Rd.int .i64) (Rd.int .i64))) (Rd.pair (Rd.int .i64) (Rd.int .i64))))))
/-- what an event is, as it came in: its spans a row that is only looked at -/
def EvT (h : Heap) (x : EvI) (e : Ev) : Prop := e.what = x.1 ∧ e.n = x.2.1 ∧ e.size = x.2.2.1 ∧ e.asks = x.2.2.2.1 ∧ e.delay = x.2.2.2.2.2.1 ∧ e.wait = x.2.2.2.2.2.2 ∧
  (∃ le : List Sp, RowIn spE h (.slice e.sa e.sn e.st) le ∧ le.length = x.2.2.2.2.1.length) ∧ ∀ A n st, Value.slice e.sa e.sn e.st = .slice (some A) n st → A.block < h.next
theorem ev_row {h : Heap} {v : Value} {l : List EvI} (hs : SlR evRd h v l) :
    ∃ le : List Ev, RowIn evE h v le ∧ le.length = l.length ∧ (∀ (i : Nat) x, l[i]? = some x → ∃ e, le[i]? = some e ∧ EvT h x e) ∧ ∀ A n st, v = .slice (some A) n st → A.block < h.next := by
  refine slr_row evRd evE rfl (by decide) (EvT h) (fun x vs hr => ?_) hs
  obtain ⟨u1, v1, rfl, rfl, u2, v2, rfl, rfl, u3, v3, rfl, rfl, u4, v4, rfl, rfl, u5, v5, rfl, ⟨w, rfl, hw⟩, u6, v6, rfl, rfl, rfl⟩ := hr
  obtain ⟨lw, b1, b2, b3, b4⟩ := slr_row (Rd.pair (Rd.int .i64) (Rd.int .i64)) spE rfl (by decide) (fun _ _ => True) (fun y ws hy => by
    obtain ⟨a, b, rfl, rfl, rfl⟩ := hy
    exact ⟨⟨y.1, y.2⟩, rfl, trivial⟩) hw
  obtain ⟨A, st, hwf⟩ := b1.form
  refine ⟨⟨x.1, x.2.1, x.2.2.1, x.2.2.2.1, A, lw.length, st, x.2.2.2.2.2.1, x.2.2.2.2.2.2⟩, by rw [hwf]; rfl, rfl, rfl, rfl, rfl, rfl, rfl, ⟨lw, by rw [← hwf]; exact b1, b2⟩, fun A n st e => b4 A n st (by rw [hwf]; exact e)⟩
end Ph
