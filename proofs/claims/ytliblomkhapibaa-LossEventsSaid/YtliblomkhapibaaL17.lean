import Derived.Test.YtliblomkhapibaaL16
set_option maxRecDepth 100000
set_option maxHeartbeats 1000000
set_option linter.unusedSimpArgs false
set_option linter.unusedVariables false
namespace Ph
open Go Go.Proofs
/-! LossEnds: what the state does. -/
def eS (n : Nat) (size at_ : Int) (t : Nat) (now : Int) : St := { manyS n size at_ with tries := (t : Int), now := now }
def eF (i : Nat) : Int := 325 * 2 ^ i
theorem eF_next (i : Nat) : eF (i + 1) = 2 * eF i := by unfold eF; rw [Int.pow_succ]; omega
theorem eF_zero : eF 0 = 325 := by decide
theorem eF_le {i : Nat} (hi : i ≤ 6) : 325 ≤ eF i ∧ eF i ≤ 20800 := by
  have : i = 0 ∨ i = 1 ∨ i = 2 ∨ i = 3 ∨ i = 4 ∨ i = 5 ∨ i = 6 := by omega
  rcases this with h | h | h | h | h | h | h <;> subst h <;> decide
theorem eS_Ok {n : Nat} {size at_ : Int} {t : Nat} {now : Int} (hn : n ≤ 1000) (hs : 1 ≤ size ∧ size ≤ 65535) (ha : 0 ≤ at_ ∧ at_ ≤ 1000000) (ht : t ≤ 5) (hnow : at_ ≤ now ∧ now ≤ 1000000000) : Ok (eS n size at_ t now) := by
  have h := many_Ok (n := n) (size := size) (at_ := at_) hn hs (by omega)
  refine ⟨h.len, fun x hx => ?_, h.top, h.best, by simp only [eS]; omega, h.smooth, h.vary, h.least, h.last, h.window, h.mark, ?_, h.flight, by simp only [eS]; omega⟩
  · have := h.pk x hx
    have h2 : x.at_ = at_ := by
      obtain ⟨i, hi, rfl⟩ := List.mem_map.1 hx
      rfl
    simp only [eS]
    exact ⟨this.1, this.2.1, this.2.2.1, by omega, this.2.2.2.2⟩
  · simp only [eS, manyS, newS]; omega
theorem eS_timer {n : Nat} {size at_ : Int} {t : Nat} {now : Int} (hn : 1 ≤ n) : timerS (eS n size at_ t now) = (at_ + eF t, true, false) := by
  obtain ⟨m, rfl⟩ : ∃ m, n = m + 1 := ⟨n - 1, by omega⟩
  have hl : lastAsk (eS (m + 1) size at_ t now).waits = some ⟨Int.ofNat m, size, at_, true⟩ := by
    show lastAsk ((List.range (m + 1)).map fun i : Nat => (⟨Int.ofNat i, size, at_, true⟩ : Pk)) = _
    rw [List.range_succ, List.map_append]
    unfold lastAsk
    simp
  have hw : (eS (m + 1) size at_ t now).waits = ⟨0, size, at_, true⟩ :: ((List.range m).map fun i : Nat => (⟨Int.ofNat (i + 1), size, at_, true⟩ : Pk)) := by
    show (List.range (m + 1)).map (fun i : Nat => (⟨Int.ofNat i, size, at_, true⟩ : Pk)) = _
    rw [List.range_succ_eq_map, List.map_cons, List.map_map]
    rfl
  unfold timerS
  rw [hl, hw]
  simp only
  rw [if_neg (by simp [eS, manyS, newS])]
  have : ptoT (eS (m + 1) size at_ t now) = eF t := by
    unfold ptoT eF
    simp only [eS, manyS, newS, Int.toNat_natCast]
    rfl
  rw [this]
theorem eS_fire1 {n : Nat} {size at_ : Int} {t : Nat} {now : Int} (hn : 1 ≤ n) (h1 : now ≤ at_ + eF t - 1) (h2 : at_ + eF t ≤ 1000000000) : fireS (eS n size at_ t now) (at_ + eF t - 1) = (eS n size at_ t (at_ + eF t - 1), [], false, 0) := by
  unfold fireS
  rw [if_pos (by unfold timeOk; exact decide_eq_true ⟨h1, by omega⟩)]
  simp only
  rw [show ({ eS n size at_ t now with now := at_ + eF t - 1 } : St) = eS n size at_ t (at_ + eF t - 1) from rfl, eS_timer hn]
  rw [if_neg (by simp; omega)]
theorem eS_fire2 {n : Nat} {size at_ : Int} {t : Nat} {now : Int} (hn : 1 ≤ n) (h1 : now ≤ at_ + eF t) (h2 : at_ + eF t ≤ 1000000000) : fireS (eS n size at_ t now) (at_ + eF t) = (eS n size at_ (min (t + 1) 5) (at_ + eF t), [], true, 0) := by
  unfold fireS
  rw [if_pos (by unfold timeOk; exact decide_eq_true ⟨h1, by omega⟩)]
  simp only
  rw [show ({ eS n size at_ t now with now := at_ + eF t } : St) = eS n size at_ t (at_ + eF t) from rfl, eS_timer hn]
  rw [if_pos (by simp)]
  simp only [Bool.false_eq_true, if_false]
  have e : min ((t : Int) + 1) 5 = ((min (t + 1) 5 : Nat) : Int) := by omega
  show (({ eS n size at_ t (at_ + eF t) with tries := min ((t : Int) + 1) 5 } : St), _, _, _) = _
  rw [e]
  rfl
theorem grow_many (sz : Int) (hsz : 0 ≤ sz) : ∀ (c : List Pk) (s : St), (∀ x ∈ c, x.asks = true ∧ x.size = sz ∧ s.since < x.at_) → s.window + c.length * sz ≤ 1073741824 → s.mark = 1099511627776 → c.foldl growS s = { s with window := s.window + c.length * sz }
  | [], s, _, _, _ => by simp
  | x :: c, s, h, hw, hm => by
    obtain ⟨h1, h2, h3⟩ := h x (by simp)
    have e1 : ((x :: c).length : Int) * sz = sz + c.length * sz := by rw [List.length_cons, Int.natCast_add, Int.add_mul]; simp; omega
    have hnn : 0 ≤ (c.length : Int) * sz := Int.mul_nonneg (by omega) hsz
    rw [e1] at hw
    have e : growS s x = { s with window := s.window + sz } := by
      unfold growS
      rw [if_neg (by rw [h1]; simp; omega), if_pos (by omega), h2]
    rw [List.foldl_cons, e, grow_many sz hsz c { s with window := s.window + sz } (fun y hy => h y (by simp [hy])) (by simp only; omega) hm, e1]
    simp only [Int.add_assoc]
theorem eS_acked {n : Nat} {size at_ : Int} {t : Nat} {now w : Int} (hn : 1 ≤ n ∧ n ≤ 1000) (hs : 1 ≤ size ∧ size ≤ 65535) (ha : 0 ≤ at_ ∧ at_ ≤ 1000000) (h1 : now ≤ w) (h2 : w ≤ 1000000000) (h3 : at_ ≤ w) (hok : Ok (eS n size at_ t now)) :
    (ackS (eS n size at_ t now) [⟨0, (n : Int) - 1⟩] 0 w).2.2.2 = 0 ∧ (ackS (eS n size at_ t now) [⟨0, (n : Int) - 1⟩] 0 w).2.1.length = n ∧ (ackS (eS n size at_ t now) [⟨0, (n : Int) - 1⟩] 0 w).2.2.1 = [] ∧
    (ackS (eS n size at_ t now) [⟨0, (n : Int) - 1⟩] 0 w).1.waits = [] ∧ (ackS (eS n size at_ t now) [⟨0, (n : Int) - 1⟩] 0 w).1.flight = 0 ∧ (ackS (eS n size at_ t now) [⟨0, (n : Int) - 1⟩] 0 w).1.window = 12000 + n * size := by
  have hP : ∀ x ∈ (eS n size at_ t now).waits, ackP [⟨0, (n : Int) - 1⟩] x = true := fun x hx => by
    obtain ⟨i, hi, rfl⟩ := List.mem_map.1 hx
    simp only [List.mem_range] at hi
    simp only [ackP, inSp, List.any_cons, List.any_nil, Bool.or_false, Int.ofNat_eq_natCast]
    exact decide_eq_true ⟨by omega, by omega⟩
  have hL : ackL (eS n size at_ t now) [⟨0, (n : Int) - 1⟩] = (eS n size at_ t now).waits := List.filter_eq_self.2 hP
  have hR : (eS n size at_ t now).waits.filter (fun x => !ackP [⟨0, (n : Int) - 1⟩] x) = [] := List.filter_eq_nil_iff.2 fun x hx => by rw [hP x hx]; simp
  have hk : checkS (eS n size at_ t now) [⟨0, (n : Int) - 1⟩] = 0 := by
    simp only [checkS, badSp, farSp, eS, manyS, List.any_cons, List.any_nil, Bool.or_false]
    rw [if_neg (by simp; omega), if_neg (by simp)]
  have hlen : (eS n size at_ t now).waits.length = n := by simp [eS, manyS]
  have hall : ∀ x ∈ (eS n size at_ t now).waits, x.asks = true ∧ x.size = size ∧ (-1 : Int) < x.at_ := fun x hx => by
    obtain ⟨i, hi, rfl⟩ := List.mem_map.1 hx
    exact ⟨rfl, rfl, by show (-1 : Int) < at_; omega⟩
  have hA := ack3
  obtain ⟨x, hx⟩ : ∃ x, (eS n size at_ t now).waits.getLast? = some x := by
    cases hh : (eS n size at_ t now).waits.getLast? with
    | none => rw [List.getLast?_eq_none_iff] at hh; rw [hh] at hlen; simp at hlen; omega
    | some x => exact ⟨x, rfl⟩
  have hS : ackS (eS n size at_ t now) [⟨0, (n : Int) - 1⟩] 0 w = (giveS (ack3 (ack1 (eS n size at_ t now) [⟨0, (n : Int) - 1⟩] w) (eS n size at_ t now).waits 0 w) w, (eS n size at_ t now).waits.map (·.num), (giveL (ack3 (ack1 (eS n size at_ t now) [⟨0, (n : Int) - 1⟩] w) (eS n size at_ t now).waits 0 w) w).map (·.num), 0) := by
    unfold ackS
    rw [if_pos ⟨by unfold timeOk; exact decide_eq_true ⟨h1, by omega⟩, by omega, by omega⟩, if_pos hk, hL]
  have hOk2 := hok.ackS [⟨0, (n : Int) - 1⟩] 0 w
  rw [hS] at hOk2 ⊢
  have h2' : ∀ s0 : St, (ack2 s0 (eS n size at_ t now).waits 0 w x).waits = s0.waits ∧ (ack2 s0 (eS n size at_ t now).waits 0 w x).window = s0.window ∧ (ack2 s0 (eS n size at_ t now).waits 0 w x).since = s0.since ∧ (ack2 s0 (eS n size at_ t now).waits 0 w x).mark = s0.mark := fun s0 => by
    unfold ack2
    split
    · split
      · unfold sampleS; split <;> exact ⟨rfl, rfl, rfl, rfl⟩
      · exact ⟨rfl, rfl, rfl, rfl⟩
    · exact ⟨rfl, rfl, rfl, rfl⟩
  obtain ⟨g1, g2, g3, g4⟩ := h2' (ack1 (eS n size at_ t now) [⟨0, (n : Int) - 1⟩] w)
  have hnb : (n : Int) * size ≤ 65535000 := by
    have a1 : (n : Int) * size ≤ 1000 * size := Int.mul_le_mul_of_nonneg_right (by omega) (by omega)
    omega
  have h3s : (ack3 (ack1 (eS n size at_ t now) [⟨0, (n : Int) - 1⟩] w) (eS n size at_ t now).waits 0 w).waits = [] ∧ (ack3 (ack1 (eS n size at_ t now) [⟨0, (n : Int) - 1⟩] w) (eS n size at_ t now).waits 0 w).window = 12000 + n * size := by
    unfold ack3
    rw [hx]
    simp only
    have hg := grow_many size (by omega) (eS n size at_ t now).waits (ack2 (ack1 (eS n size at_ t now) [⟨0, (n : Int) - 1⟩] w) (eS n size at_ t now).waits 0 w x) (fun y hy => by rw [g3]; exact hall y hy) (by rw [g2, hlen]; show (12000 : Int) + _ ≤ _; omega) (by rw [g4]; rfl)
    rw [hg]
    simp only
    rw [g1, g2, hlen]
    exact ⟨hR, rfl⟩
  generalize ack3 (ack1 (eS n size at_ t now) [⟨0, (n : Int) - 1⟩] w) (eS n size at_ t now).waits 0 w = s3 at *
  have hgl : giveL s3 w = [] := by unfold giveL; rw [h3s.1]; rfl
  have hgs : giveS s3 w = restS s3 w := by unfold giveS; rw [hgl]; rfl
  have hw0 : (restS s3 w).waits = [] := by unfold restS; rw [h3s.1]; rfl
  have hfl := hOk2.flight
  simp only at hfl ⊢
  rw [hgl]
  refine ⟨trivial, by rw [List.length_map, hlen], rfl, by rw [hgs, hw0], ?_, ?_⟩
  · rw [hfl, hgs, hw0]; rfl
  · rw [hgs]; exact h3s.2
end Ph
