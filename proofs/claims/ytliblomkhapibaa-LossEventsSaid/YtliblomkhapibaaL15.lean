import Derived.Test.YtliblomkhapibaaL14
set_option maxRecDepth 100000
set_option maxHeartbeats 1000000
set_option linter.unusedSimpArgs false
set_option linter.unusedVariables false
namespace Ph
open Go Go.Proofs
/-! LossGives: what the state does. -/
def pk50 (i : Nat) : Pk := ⟨Int.ofNat i, 50, 10, true⟩
theorem range_lt (m e : Nat) : (List.range m).filter (fun i => decide (i < e)) = List.range (min m e) := by
  induction m with
  | zero => simp
  | succ m ih =>
    rw [List.range_succ, List.filter_append, ih]
    by_cases h : m < e
    · rw [show min (m + 1) e = min m e + 1 by omega, List.range_succ, show min m e = m by omega]; simp [h]
    · rw [show min (m + 1) e = min m e by omega]; simp [h]
theorem range_ge (m e : Nat) : (List.range m).filter (fun i => decide (e ≤ i)) = (List.range' e (m - e)) := by
  induction m with
  | zero => simp
  | succ m ih =>
    rw [List.range_succ, List.filter_append, ih]
    by_cases h : e ≤ m
    · rw [show m + 1 - e = (m - e) + 1 by omega, List.range'_concat]; simp [h]
    · rw [show m + 1 - e = 0 by omega, show m - e = 0 by omega]; simp [h]
def gS (n : Nat) (w : Int) (W : List Pk) : St := ⟨W, (n : Int) - 1, (n : Int) - 1, w, w / 2, w, w, true, 12050, 1099511627776, -1, asum W, 0, 10 + w⟩
theorem asum50 (l : List Nat) : asum (l.map pk50) = 50 * l.length := by
  induction l with
  | nil => rfl
  | cons x l ih =>
    have e : ∀ m : List Pk, ∀ x, asum (x :: m) = (if x.asks then x.size else 0) + asum m := fun m x => by simp [asum]
    rw [List.map_cons, e, ih]; simp [pk50]; omega
theorem many_50 (n : Nat) : (manyS n 50 10).waits = (List.range n).map pk50 := rfl
theorem gives1 {n : Nat} {w : Int} (hn : 1 ≤ n ∧ n ≤ 40) (hw : 1 ≤ w ∧ w ≤ 500) :
    ackS (manyS n 50 10) [⟨(n : Int) - 1, (n : Int) - 1⟩] 0 (10 + w) = (giveS (gS n w ((List.range (n - 1)).map pk50)) (10 + w), [(n : Int) - 1], (giveL (gS n w ((List.range (n - 1)).map pk50)) (10 + w)).map (·.num), 0) := by
  have ht : timeOk (manyS n 50 10) (10 + w) = true := by
    simp only [timeOk, manyS]
    refine decide_eq_true ⟨?_, by omega⟩
    split <;> omega
  have hk : checkS (manyS n 50 10) [⟨(n : Int) - 1, (n : Int) - 1⟩] = 0 := by
    simp only [checkS, badSp, farSp, manyS, List.any_cons, List.any_nil, Bool.or_false]
    rw [if_neg (by simp; omega), if_neg (by simp)]
  have hP : ∀ i : Nat, ackP [⟨(n : Int) - 1, (n : Int) - 1⟩] (pk50 i) = decide (n - 1 ≤ i ∧ i < n) := fun i => by
    simp only [ackP, inSp, pk50, List.any_cons, List.any_nil, Bool.or_false]
    apply decide_eq_decide.2
    simp only [Int.ofNat_eq_natCast]; omega
  have hL : ackL (manyS n 50 10) [⟨(n : Int) - 1, (n : Int) - 1⟩] = [pk50 (n - 1)] := by
    obtain ⟨m, rfl⟩ : ∃ m, n = m + 1 := ⟨n - 1, by omega⟩
    unfold ackL
    rw [many_50, List.range_succ, List.map_append, List.filter_append]
    rw [List.filter_eq_nil_iff.2 (fun x hx => by
      obtain ⟨i, hi, rfl⟩ := List.mem_map.1 hx
      rw [hP]; simp at hi ⊢; omega)]
    rw [List.map_cons, List.map_nil, List.filter_cons, hP, if_pos (by simp)]
    rfl
  have hR : (manyS n 50 10).waits.filter (fun x => !ackP [⟨(n : Int) - 1, (n : Int) - 1⟩] x) = (List.range (n - 1)).map pk50 := by
    obtain ⟨m, rfl⟩ : ∃ m, n = m + 1 := ⟨n - 1, by omega⟩
    rw [many_50, List.range_succ, List.map_append, List.filter_append]
    rw [List.filter_eq_self.2 (fun x hx => by
      obtain ⟨i, hi, rfl⟩ := List.mem_map.1 hx
      rw [hP]; simp at hi ⊢; omega)]
    rw [List.map_cons, List.map_nil, List.filter_cons, hP, if_neg (by simp)]
    simp
  have h1 : ack3 (ack1 (manyS n 50 10) [⟨(n : Int) - 1, (n : Int) - 1⟩] (10 + w)) [pk50 (n - 1)] 0 (10 + w) = gS n w ((List.range (n - 1)).map pk50) := by
    unfold ack1
    rw [hL, hR]
    unfold ack3
    simp only [List.getLast?_singleton, List.foldl_cons, List.foldl_nil]
    unfold ack2
    rw [if_pos (by simp [manyS, newS, pk50])]
    rw [if_pos (by simp [pk50])]
    unfold sampleS
    simp only [manyS, newS, Bool.false_eq_true, if_false]
    unfold growS
    rw [if_neg (by simp [pk50])]
    rw [if_pos (by simp)]
    have e1 : Int.ofNat (n - 1) = (n : Int) - 1 := by simp only [Int.ofNat_eq_natCast]; omega
    have e2 : (n : Int) * 50 - asum [pk50 (n - 1)] = asum ((List.range (n - 1)).map pk50) := by
      rw [asum50, show [pk50 (n - 1)] = [n - 1].map pk50 from rfl, asum50, List.length_range]; simp; omega
    have e3 : 10 + w - 10 = w := by omega
    rw [gS, ← e2]
    simp only [pk50, e1, e3]
    rfl
  unfold ackS
  rw [if_pos ⟨ht, by omega, by omega⟩, if_pos hk, hL]
  simp only [h1]
  simp [pk50]
  omega
def gW (w : Int) : Int := max (9 * w / 8) 1
theorem waitG (n : Nat) (w : Int) (W : List Pk) : waitT (gS n w W) = gW w := by simp [waitT, gS, gW]
theorem giveG {n : Nat} {w at_ : Int} {W : List Nat} (p : Nat → Bool) (hp : ∀ i ∈ W, p i = decide ((i : Int) ≤ (n : Int) - 4 ∨ ((i : Int) < (n : Int) - 1 ∧ 10 ≤ at_ - gW w))) :
    giveL (gS n w (W.map pk50)) at_ = (W.filter p).map pk50 ∧ (W.map pk50).filter (fun x => !giveP ((n : Int) - 1) (at_ - gW w) x) = (W.filter fun i => !p i).map pk50 := by
  have e : ∀ i ∈ W, giveP ((n : Int) - 1) (at_ - gW w) (pk50 i) = p i := fun i hi => by
    rw [hp i hi]
    simp only [giveP, pk50, Int.ofNat_eq_natCast]
    apply decide_eq_decide.2
    omega
  constructor
  · unfold giveL
    rw [waitG]
    show (W.map pk50).filter (giveP ((n : Int) - 1) (at_ - gW w)) = _
    rw [List.filter_map]
    congr 1
    exact List.filter_congr fun i hi => e i hi
  · rw [List.filter_map]
    congr 1
    exact List.filter_congr fun i hi => by simp only [Function.comp]; rw [e i hi]
theorem flen (W : List Nat) (p : Nat → Bool) : (W.filter p).length + (W.filter fun i => !p i).length = W.length := by
  induction W with
  | nil => rfl
  | cons x W ih => cases h : p x <;> simp [h] <;> omega
/-- what of a state matters after something was given up -/
theorem giveS_facts (n : Nat) (w at_ : Int) (W : List Nat) (p : Nat → Bool) (hp : ∀ i ∈ W, p i = decide ((i : Int) ≤ (n : Int) - 4 ∨ ((i : Int) < (n : Int) - 1 ∧ 10 ≤ at_ - gW w))) :
    (giveS (gS n w (W.map pk50)) at_).waits = (W.filter fun i => !p i).map pk50 ∧ (giveS (gS n w (W.map pk50)) at_).flight = asum ((W.filter fun i => !p i).map pk50) ∧ (giveS (gS n w (W.map pk50)) at_).smooth = w ∧ (giveS (gS n w (W.map pk50)) at_).last = w ∧
    (giveS (gS n w (W.map pk50)) at_).best = (n : Int) - 1 ∧ (giveS (gS n w (W.map pk50)) at_).now = 10 + w := by
  obtain ⟨h1, h2⟩ := giveG p hp
  have hr : restS (gS n w (W.map pk50)) at_ = { gS n w (W.map pk50) with waits := (W.filter fun i => !p i).map pk50, flight := asum ((W.filter fun i => !p i).map pk50) } := by
    unfold restS
    rw [h1, waitG]
    have e : asum (W.map pk50) - asum ((W.filter p).map pk50) = asum ((W.filter fun i => !p i).map pk50) := by
      rw [asum50, asum50, asum50]
      have := flen W p
      omega
    rw [← h2]
    show ({ (gS n w (W.map pk50)) with waits := _, flight := asum (W.map pk50) - asum ((W.filter p).map pk50) } : St) = _
    rw [e, ← h2]
    rfl
  unfold giveS
  split
  · split
    · rw [hr]; exact ⟨rfl, rfl, rfl, rfl, rfl, rfl⟩
    · rw [hr]; exact ⟨rfl, rfl, rfl, rfl, rfl, rfl⟩
  · rw [hr]; exact ⟨rfl, rfl, rfl, rfl, rfl, rfl⟩
theorem gw_lt {w : Int} (h1 : 1 ≤ w) (h8 : w < 8) : gW w = w := by unfold gW; omega
theorem gw_ge {w : Int} (h8 : 8 ≤ w) : gW w = 9 * w / 8 ∧ w < 9 * w / 8 := by unfold gW; omega
def gE (n : Nat) : Nat := n - 3
/-- what is given up at once -/
theorem gives2 {n : Nat} {w : Int} (hn : 1 ≤ n ∧ n ≤ 40) (hw : 1 ≤ w ∧ w ≤ 500) :
    (w < 8 → (giveL (gS n w ((List.range (n - 1)).map pk50)) (10 + w)).map (·.num) = (List.range (n - 1)).map Int.ofNat) ∧
    (8 ≤ w → (giveL (gS n w ((List.range (n - 1)).map pk50)) (10 + w)).map (·.num) = (List.range (gE n)).map Int.ofNat ∧ (giveS (gS n w ((List.range (n - 1)).map pk50)) (10 + w)).waits = (List.range' (gE n) (n - 1 - gE n)).map pk50) := by
  constructor
  · intro h8
    have h := (giveG (n := n) (w := w) (at_ := 10 + w) (W := List.range (n - 1)) (fun i => true) (fun i hi => by
      rw [gw_lt hw.1 h8]; simp only [List.mem_range] at hi; symm; apply decide_eq_true; omega)).1
    rw [h, List.filter_eq_self.2 (fun _ _ => rfl), List.map_map]
    rfl
  · intro h8
    have hp : ∀ i ∈ List.range (n - 1), decide (i < gE n) = decide ((i : Int) ≤ (n : Int) - 4 ∨ ((i : Int) < (n : Int) - 1 ∧ 10 ≤ 10 + w - gW w)) := fun i hi => by
      rw [(gw_ge h8).1]
      have := (gw_ge h8).2
      apply decide_eq_decide.2
      unfold gE; omega
    refine ⟨?_, ?_⟩
    · rw [(giveG (n := n) (w := w) (at_ := 10 + w) (W := List.range (n - 1)) (fun i => decide (i < gE n)) hp).1, range_lt, show min (n - 1) (gE n) = gE n by unfold gE; omega, List.map_map]
      rfl
    · rw [(giveS_facts n w (10 + w) (List.range (n - 1)) (fun i => decide (i < gE n)) hp).1, ← range_ge]
      congr 1
      exact List.filter_congr fun i _ => by
        by_cases h : i < gE n <;> simp [h] <;> omega
/-- when their time has come -/
theorem gives3 {n : Nat} {w : Int} {s : St} (hn : 2 ≤ n ∧ n ≤ 40) (hw : 8 ≤ w ∧ w ≤ 500) (hs : s = giveS (gS n w ((List.range (n - 1)).map pk50)) (10 + w)) :
    timerS s = (10 + gW w, true, true) ∧ (fireS s (10 + gW w)).2.2.2 = 0 ∧ (fireS s (10 + gW w)).2.1.length = n - 1 - gE n ∧ (fireS s (10 + gW w)).1.flight = 0 := by
  have hp : ∀ i ∈ List.range (n - 1), decide (i < gE n) = decide ((i : Int) ≤ (n : Int) - 4 ∨ ((i : Int) < (n : Int) - 1 ∧ 10 ≤ 10 + w - gW w)) := fun i hi => by
    rw [(gw_ge hw.1).1]
    have := (gw_ge hw.1).2
    apply decide_eq_decide.2
    unfold gE; omega
  obtain ⟨f1, f2, f3, f4, f5, f6⟩ := giveS_facts n w (10 + w) (List.range (n - 1)) (fun i => decide (i < gE n)) hp
  rw [← (show (List.range (n - 1)).filter (fun i => decide (gE n ≤ i)) = (List.range (n - 1)).filter (fun i => !decide (i < gE n)) from List.filter_congr fun i _ => by by_cases h : i < gE n <;> simp [h] <;> omega), range_ge] at f1 f2
  rw [← hs] at f1 f2 f3 f4 f5 f6
  have hw0 : waitT s = gW w := by unfold waitT; rw [f3, f4]; simp [gW]
  have hgl := gw_ge hw.1
  obtain ⟨m, hm⟩ : ∃ m, n - 1 - gE n = m + 1 := ⟨n - 1 - gE n - 1, by unfold gE; omega⟩
  have hE : gE n < n - 1 := by unfold gE; omega
  rw [hm] at f1 f2
  have hT : ∀ t : St, t.waits = s.waits → t.best = s.best → t.smooth = s.smooth → t.last = s.last → timerS t = (10 + gW w, true, true) := fun t e1 e2 e3 e4 => by
    unfold timerS
    rw [e1, f1, List.range'_succ, List.map_cons]
    simp only
    rw [if_pos (by rw [e2, f5]; simp only [pk50, Int.ofNat_eq_natCast]; omega)]
    have : waitT t = gW w := by unfold waitT; rw [e3, e4, f3, f4]; simp [gW]
    rw [this]
    rfl
  refine ⟨hT s rfl rfl rfl rfl, ?_⟩
  have hto : timeOk s (10 + gW w) = true := by unfold timeOk; rw [f6, hgl.1]; apply decide_eq_true; omega
  have hF : fireS s (10 + gW w) = (giveS { s with now := 10 + gW w } (10 + gW w), (giveL { s with now := 10 + gW w } (10 + gW w)).map (·.num), false, 0) := by
    unfold fireS
    rw [if_pos hto]
    simp only
    rw [hT { s with now := 10 + gW w } rfl rfl rfl rfl]
    simp
  have hall : giveL { s with now := 10 + gW w } (10 + gW w) = s.waits := by
    unfold giveL
    have : waitT { s with now := 10 + gW w } = gW w := hw0
    rw [this]
    refine List.filter_eq_self.2 fun x hx => ?_
    rw [f1] at hx
    obtain ⟨i, hi, rfl⟩ := List.mem_map.1 hx
    simp only [List.mem_range'_1] at hi
    simp only [giveP, f5, pk50, Int.ofNat_eq_natCast]
    apply decide_eq_true
    omega
  have hfl : (restS { s with now := 10 + gW w } (10 + gW w)).flight = 0 := by
    show s.flight - asum (giveL { s with now := 10 + gW w } (10 + gW w)) = 0
    rw [hall, f2, f1]; omega
  rw [hF]
  refine ⟨rfl, ?_, ?_⟩
  · show ((giveL { s with now := 10 + gW w } (10 + gW w)).map (·.num)).length = _
    rw [hall, f1]; simp; omega
  · show (giveS { s with now := 10 + gW w } (10 + gW w)).flight = 0
    unfold giveS
    split
    · split
      · exact hfl
      · exact hfl
    · exact hfl
theorem gives4 {w : Int} (hw : 8 ≤ w ∧ w ≤ 500) : (giveS (gS 1 w ((List.range (1 - 1)).map pk50)) (10 + w)).flight = 0 := by
  have hp : ∀ i ∈ List.range (1 - 1), (fun _ => true) i = decide ((i : Int) ≤ ((1 : Nat) : Int) - 4 ∨ ((i : Int) < ((1 : Nat) : Int) - 1 ∧ 10 ≤ 10 + w - gW w)) := fun i hi => by simp at hi
  rw [(giveS_facts 1 w (10 + w) (List.range (1 - 1)) (fun _ => true) hp).2.1]
  rfl
end Ph
