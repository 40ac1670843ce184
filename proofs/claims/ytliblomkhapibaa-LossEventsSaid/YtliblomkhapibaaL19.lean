import Derived.Test.YtliblomkhapibaaL18
set_option maxRecDepth 100000
set_option maxHeartbeats 1000000
set_option linter.unusedSimpArgs false
set_option linter.unusedVariables false
namespace Ph
open Go Go.Proofs
/-! LossTrips: what the state does. -/
structure TI (i : Nat) (now low high : Int) (s : St) : Prop where
  ok : Ok s
  waits : s.waits = []
  top : s.top = (i : Int) - 1
  now : s.now = now
  first : i = 0 → s.had = false ∧ low = 1099511627776 ∧ high = 0
  later : 0 < i → s.had = true ∧ s.least = low ∧ 0 ≤ low ∧ low ≤ s.smooth ∧ s.smooth ≤ high ∧ 0 ≤ s.vary ∧ s.vary ≤ high
theorem ti_zero : TI 0 0 1099511627776 0 newS := ⟨newS_ok, rfl, rfl, rfl, fun _ => ⟨rfl, rfl, rfl⟩, fun h => absurd h (by omega)⟩
theorem grow_keep (s : St) (x : Pk) : (growS s x).waits = s.waits ∧ (growS s x).top = s.top ∧ (growS s x).now = s.now ∧ (growS s x).had = s.had ∧ (growS s x).least = s.least ∧ (growS s x).smooth = s.smooth ∧ (growS s x).vary = s.vary := by
  unfold growS
  split
  · exact ⟨rfl, rfl, rfl, rfl, rfl, rfl, rfl⟩
  · split <;> exact ⟨rfl, rfl, rfl, rfl, rfl, rfl, rfl⟩
theorem ti_sent {i : Nat} {now low high : Int} {s : St} (h : TI i now low high s) (hi : i < 60) (hn : now ≤ 300000) : sentOk s i 100 now = true := by
  have h1 : s.now ≤ now := by rw [h.now]; exact Int.le_refl _
  have h2 : s.top < (i : Int) := by rw [h.top]; omega
  exact (Bool.and_eq_true _ _).mpr ⟨decide_eq_true ⟨h1, by omega⟩, decide_eq_true ⟨h2, by omega, by omega, by omega⟩⟩
theorem ti_step {i : Nat} {now low high n : Int} {s : St} (h : TI i now low high s) (hi : i < 60) (h0 : 0 ≤ now ∧ now ≤ 300000) (hn : 0 ≤ n ∧ n < 5000) :
    (ackS (sentS s i 100 true now) [⟨(i : Int), (i : Int)⟩] 0 (now + n)).2.2.2 = 0 ∧ TI (i + 1) (now + n) (min low n) (max high n) (ackS (sentS s i 100 true now) [⟨(i : Int), (i : Int)⟩] 0 (now + n)).1 := by
  have hok1 : Ok (sentS s i 100 true now) := h.ok.sent (by rw [h.waits]; simp) (ti_sent h hi h0.2)
  have hw : (sentS s i 100 true now).waits = [⟨(i : Int), 100, now, true⟩] := by show s.waits ++ _ = _; rw [h.waits]; rfl
  have hok2 := hok1.ackS [⟨(i : Int), (i : Int)⟩] 0 (now + n)
  have hP : ackP [⟨(i : Int), (i : Int)⟩] ⟨(i : Int), 100, now, true⟩ = true := by
    simp only [ackP, inSp, List.any_cons, List.any_nil, Bool.or_false]
    exact decide_eq_true ⟨Int.le_refl _, Int.le_refl _⟩
  have hL : ackL (sentS s i 100 true now) [⟨(i : Int), (i : Int)⟩] = [⟨(i : Int), 100, now, true⟩] := by
    unfold ackL; rw [hw, List.filter_cons, if_pos hP]; rfl
  have hR : (sentS s i 100 true now).waits.filter (fun x => !ackP [⟨(i : Int), (i : Int)⟩] x) = [] := by
    rw [hw, List.filter_cons, if_neg (by rw [hP]; simp)]; rfl
  have hk : checkS (sentS s i 100 true now) [⟨(i : Int), (i : Int)⟩] = 0 := by
    simp only [checkS, badSp, farSp, sentS, List.any_cons, List.any_nil, Bool.or_false]
    rw [if_neg (by simp), if_neg (by simp)]
  have hS : ackS (sentS s i 100 true now) [⟨(i : Int), (i : Int)⟩] 0 (now + n) = (giveS (ack3 (ack1 (sentS s i 100 true now) [⟨(i : Int), (i : Int)⟩] (now + n)) [⟨(i : Int), 100, now, true⟩] 0 (now + n)) (now + n), [(i : Int)], (giveL (ack3 (ack1 (sentS s i 100 true now) [⟨(i : Int), (i : Int)⟩] (now + n)) [⟨(i : Int), 100, now, true⟩] 0 (now + n)) (now + n)).map (·.num), 0) := by
    unfold ackS
    rw [if_pos ⟨by unfold timeOk; exact decide_eq_true ⟨by show now ≤ _; omega, by omega⟩, by omega, by omega⟩, if_pos hk, hL]
    rfl
  rw [hS] at hok2 ⊢
  simp only at hok2 ⊢
  refine ⟨trivial, ?_⟩
  have hb := h.ok.best
  have ht := h.top
  have h2 : ack2 (ack1 (sentS s i 100 true now) [⟨(i : Int), (i : Int)⟩] (now + n)) [⟨(i : Int), 100, now, true⟩] 0 (now + n) ⟨(i : Int), 100, now, true⟩ = sampleS { ack1 (sentS s i 100 true now) [⟨(i : Int), (i : Int)⟩] (now + n) with best := (i : Int) } n 0 := by
    unfold ack2
    rw [if_pos (by show s.best ≤ (i : Int); omega), if_pos (show ([(⟨(i : Int), 100, now, true⟩ : Pk)].any (·.asks)) = true from rfl)]
    show sampleS _ (now + n - now) 0 = _
    rw [show now + n - now = n by omega]
  have h3 : ack3 (ack1 (sentS s i 100 true now) [⟨(i : Int), (i : Int)⟩] (now + n)) [⟨(i : Int), 100, now, true⟩] 0 (now + n) = { growS (sampleS { ack1 (sentS s i 100 true now) [⟨(i : Int), (i : Int)⟩] (now + n) with best := (i : Int) } n 0) ⟨(i : Int), 100, now, true⟩ with tries := 0 } := by
    unfold ack3
    simp only [List.getLast?_singleton, List.foldl_cons, List.foldl_nil]
    rw [h2]
  rw [h3] at hok2 ⊢
  have hk2 : ∀ t : St, t.waits = [] → (giveS t (now + n)).waits = [] ∧ (giveS t (now + n)).top = t.top ∧ (giveS t (now + n)).now = t.now ∧ (giveS t (now + n)).had = t.had ∧ (giveS t (now + n)).least = t.least ∧ (giveS t (now + n)).smooth = t.smooth ∧ (giveS t (now + n)).vary = t.vary := fun t e => by
    have hgl : giveL t (now + n) = [] := by unfold giveL; rw [e]; rfl
    have hgs : giveS t (now + n) = restS t (now + n) := by unfold giveS; rw [hgl]; rfl
    rw [hgs]
    exact ⟨by unfold restS; rw [e]; rfl, rfl, rfl, rfl, rfl, rfl, rfl⟩
  have hsw : ∀ t : St, (sampleS t n 0).waits = t.waits ∧ (sampleS t n 0).top = t.top ∧ (sampleS t n 0).now = t.now := fun t => by unfold sampleS; split <;> exact ⟨rfl, rfl, rfl⟩
  obtain ⟨a1, a2, a3⟩ := hsw { ack1 (sentS s i 100 true now) [⟨(i : Int), (i : Int)⟩] (now + n) with best := (i : Int) }
  have hsm : (i = 0 → (sampleS { ack1 (sentS s i 100 true now) [⟨(i : Int), (i : Int)⟩] (now + n) with best := (i : Int) } n 0) = { ({ ack1 (sentS s i 100 true now) [⟨(i : Int), (i : Int)⟩] (now + n) with best := (i : Int) } : St) with last := n, had := true, least := n, smooth := n, vary := n / 2 }) ∧
      (0 < i → (sampleS { ack1 (sentS s i 100 true now) [⟨(i : Int), (i : Int)⟩] (now + n) with best := (i : Int) } n 0) = { ({ ack1 (sentS s i 100 true now) [⟨(i : Int), (i : Int)⟩] (now + n) with best := (i : Int) } : St) with last := n, least := min s.least n, vary := (3 * s.vary + max (s.smooth - n) (n - s.smooth)) / 4, smooth := (7 * s.smooth + n) / 8 }) := by
    constructor
    · intro h0
      unfold sampleS
      rw [if_neg (by show ¬ s.had = true; rw [(h.first h0).1]; simp)]
    · intro h0
      unfold sampleS
      rw [if_pos (by show s.had = true; exact (h.later h0).1)]
      have e : (if n ≥ min s.least n + 0 then n - 0 else n) = n := by split <;> omega
      show ({ ({ ack1 (sentS s i 100 true now) [⟨(i : Int), (i : Int)⟩] (now + n) with best := (i : Int) } : St) with last := n, least := min s.least n, vary := (3 * s.vary + max (s.smooth - (if n ≥ min s.least n + 0 then n - 0 else n)) ((if n ≥ min s.least n + 0 then n - 0 else n) - s.smooth)) / 4, smooth := (7 * s.smooth + (if n ≥ min s.least n + 0 then n - 0 else n)) / 8 } : St) = _
      rw [e]
  generalize hq : sampleS { ack1 (sentS s i 100 true now) [⟨(i : Int), (i : Int)⟩] (now + n) with best := (i : Int) } n 0 = q at *
  obtain ⟨g1, g2, g3, g4, g5, g6, g7⟩ := grow_keep q ⟨(i : Int), 100, now, true⟩
  obtain ⟨k1, k2, k3, k4, k5, k6, k7⟩ := hk2 { growS q ⟨(i : Int), 100, now, true⟩ with tries := 0 } (by show (growS q _).waits = []; rw [g1, a1]; exact hR)
  refine ⟨hok2, k1, ?_, ?_, fun h => absurd h (by omega), fun _ => ?_⟩
  · rw [k2]; show (growS q _).top = _; rw [g2, a2]; show (i : Int) = _; omega
  · rw [k3]; show (growS q _).now = _; rw [g3, a3]; rfl
  · rw [k4, k5, k6, k7]
    show (growS q _).had = true ∧ (growS q _).least = _ ∧ 0 ≤ min low n ∧ min low n ≤ (growS q _).smooth ∧ (growS q _).smooth ≤ max high n ∧ 0 ≤ (growS q _).vary ∧ (growS q _).vary ≤ max high n
    rw [g4, g5, g6, g7]
    rcases Nat.eq_zero_or_pos i with hz | hz
    · obtain ⟨f1, f2, f3⟩ := h.first hz
      rw [hsm.1 hz]
      simp only
      refine ⟨trivial, by omega, by omega, by omega, by omega, by omega, by omega⟩
    · obtain ⟨f1, f2, f3, f4, f5, f6, f7⟩ := h.later hz
      rw [hsm.2 hz]
      simp only
      have m1 : max (s.smooth - n) (n - s.smooth) ≤ max high n := by omega
      have m0 : 0 ≤ max (s.smooth - n) (n - s.smooth) := by omega
      generalize max (s.smooth - n) (n - s.smooth) = M at *
      refine ⟨f1, by rw [f2], by omega, by omega, by omega, by omega, by omega⟩
end Ph
