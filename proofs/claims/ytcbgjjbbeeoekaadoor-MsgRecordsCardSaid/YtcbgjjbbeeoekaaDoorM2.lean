import Derived.Test.YtcbgjjbbeeoekaaDoorM1
set_option maxRecDepth 100000
set_option maxHeartbeats 4000000
set_option linter.unusedSimpArgs false
set_option linter.unusedVariables false
namespace Ph
open Go
/-! A message's bytes, plain: the program's, by a table, and the document's, by a list. -/
abbrev Qst := List UInt8 × Int
def partsD (l : List UInt8) : List (List UInt8) := (nameOf l).getD []
def putQs : List (List UInt8 × Nat) → List UInt8 → List Qst → List (List UInt8 × Nat) × List UInt8
  | t, b, [] => (t, b)
  | t, b, q :: qs => putQs (putP t b (partsD q.1)).1 ((putP t b (partsD q.1)).2 ++ numS q.2 2 ++ numS 1 2) qs
def putRs : List (List UInt8 × Nat) → List UInt8 → List Rec → List (List UInt8 × Nat) × List UInt8
  | t, b, [] => (t, b)
  | t, b, r :: rs => putRs (putP t b (partsD r.1)).1 ((putP t b (partsD r.1)).2 ++ numS r.2.1 2 ++ numS 1 2 ++ numS r.2.2.1 4 ++ numS r.2.2.2.length 2 ++ r.2.2.2) rs
def docQs : List (List UInt8 × Nat) → List UInt8 → List Qst → List (List UInt8 × Nat) × List UInt8
  | t, b, [] => (t, b)
  | t, b, q :: qs => docQs (docP t b (partsD q.1)).1 ((docP t b (partsD q.1)).2 ++ numS q.2 2 ++ numS 1 2) qs
def docRs : List (List UInt8 × Nat) → List UInt8 → List Rec → List (List UInt8 × Nat) × List UInt8
  | t, b, [] => (t, b)
  | t, b, r :: rs => docRs (docP t b (partsD r.1)).1 ((docP t b (partsD r.1)).2 ++ numS r.2.1 2 ++ numS 1 2 ++ numS r.2.2.1 4 ++ numS r.2.2.2.length 2 ++ r.2.2.2) rs
theorem doc_qs : ∀ (qs : List Qst) (t m : List (List UInt8 × Nat)) (b : List UInt8), SameT t m b.length → (docQs m b qs).2 = (putQs t b qs).2 ∧ SameT (putQs t b qs).1 (docQs m b qs).1 (putQs t b qs).2.length
  | [], t, m, b, h => ⟨rfl, h⟩
  | q :: qs, t, m, b, h => by
    obtain ⟨h1, h2⟩ := doc_put (partsD q.1) t m b h
    rw [docQs, putQs, h1]
    exact doc_qs qs _ _ _ (h2.mono (by simp only [List.length_append]; omega))
theorem doc_rs : ∀ (rs : List Rec) (t m : List (List UInt8 × Nat)) (b : List UInt8), SameT t m b.length → (docRs m b rs).2 = (putRs t b rs).2
  | [], t, m, b, h => rfl
  | r :: rs, t, m, b, h => by
    obtain ⟨h1, h2⟩ := doc_put (partsD r.1) t m b h
    rw [docRs, putRs, h1]
    exact doc_rs rs _ _ _ (h2.mono (by simp only [List.length_append]; omega))
theorem SameT.nil (n : Nat) : SameT [] [] n := ⟨fun k => rfl, fun x hx => by cases hx⟩
/-- a message -/
structure MsgV where
  id : Int
  ans : Bool
  kind : Int
  own : Bool
  cut : Bool
  wanted : Bool
  able : Bool
  code : Int
  ask : List Qst
  a1 : List Rec
  a2 : List Rec
  a3 : List Rec
def bitS (c : Bool) (n : Int) : Int := if c = true then n else 0
def MsgV.all (m : MsgV) : List Rec := m.a1 ++ m.a2 ++ m.a3
def MsgV.head (m : MsgV) : List UInt8 := numS m.id 2 ++ numS (bitS m.ans 128 + 8 * m.kind + bitS m.own 4 + bitS m.cut 2 + bitS m.wanted 1) 1 ++ numS (bitS m.able 128 + m.code) 1 ++ numS m.ask.length 2 ++ numS m.a1.length 2 ++ numS m.a2.length 2 ++ numS m.a3.length 2
def qOk (q : Qst) : Bool := (nameOf q.1).isSome && decide (1 ≤ q.2 ∧ q.2 ≤ 65535)
def MsgV.numsOk (m : MsgV) : Bool := decide (0 ≤ m.id ∧ m.id ≤ 65535) && (decide (0 ≤ m.kind ∧ m.kind ≤ 15) && decide (0 ≤ m.code ∧ m.code ≤ 15))
def MsgV.err (m : MsgV) : Int := if 300 < m.ask.length + m.all.length then 5 else if m.numsOk = true ∧ m.ask.all qOk = true ∧ m.all.all recOk = true then 0 else 2
def MsgV.raw (m : MsgV) : List UInt8 := (putRs (putQs [] m.head m.ask).1 (putQs [] m.head m.ask).2 m.all).2
def MsgV.put (m : MsgV) : List UInt8 × Int := if m.err ≠ 0 then ([], m.err) else if 65535 < m.raw.length then ([], 5) else (m.raw, 0)
theorem doc_raw (m : MsgV) : (docRs (docQs [] m.head m.ask).1 (docQs [] m.head m.ask).2 m.all).2 = m.raw := by
  obtain ⟨h1, h2⟩ := doc_qs m.ask [] [] m.head (SameT.nil _)
  rw [MsgV.raw, h1]
  exact doc_rs m.all _ _ _ h2
end Ph
