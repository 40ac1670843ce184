import Derived.Test.YthagjeomcgphiaaDoorN18
set_option maxRecDepth 100000
set_option linter.unusedSimpArgs false
set_option linter.unusedVariables false
/- The two readings of a packet's head, the document's and the program's, are one function. -/
namespace Ph
open Go Go.Proofs
theorem takeS_err {l : List UInt8} {e : Int} {n : Nat} (h : e ≠ 0) : (takeS l e n).e = e := by unfold takeS; rw [if_neg h]
theorem textS_err {l : List UInt8} {e : Int} {n m : Nat} (h : e ≠ 0) : (textS l e n m).e = e := by unfold textS; rw [if_neg h]
theorem countS_err {l : List UInt8} {e : Int} {m : Nat} (h : e ≠ 0) : (countS l e m).2.2 = e := by unfold countS; rw [if_neg h]
theorem name2S_err {l : List UInt8} {e : Int} (h : e ≠ 0) : (name2S l e).e = e := by
  unfold name2S
  rw [takeS_err h]
  exact textS_err h
theorem takeS_ok2 {l : List UInt8} {n : Nat} (h : n ≤ l.length) : takeS l 0 n = ⟨l.take n, l.drop n, 0⟩ := by rw [takeS, if_pos rfl, if_pos h]
theorem takeS_end {l : List UInt8} {n : Nat} (h : ¬ n ≤ l.length) : (takeS l 0 n).e = 3 := by rw [takeS, if_pos rfl, if_neg h]
theorem name2S_eq (l : List UInt8) : (name2S l 0).e = (nameS l).2.2 ∧ ((nameS l).2.2 = 0 → (name2S l 0).bytes = (nameS l).1 ∧ (name2S l 0).rest = (nameS l).2.1) := by
  unfold name2S nameS
  cases l with
  | nil =>
    have e : takeS ([] : List UInt8) 0 1 = ⟨[0], [], 3⟩ := by rfl
    simp only [e]
    exact ⟨textS_err (by decide), fun h => by simp at h⟩
  | cons b t =>
    have e : takeS (b :: t) 0 1 = ⟨[b], t, 0⟩ := by rw [takeS_ok2 (by simp)]; rfl
    simp only [e, List.getD_cons_zero]
    unfold textS
    rw [if_pos rfl]
    by_cases h1 : b.toNat > 20
    · rw [if_pos h1, if_pos h1]; exact ⟨rfl, fun h => by simp at h⟩
    · rw [if_neg h1, if_neg h1]
      by_cases h2 : t.length < b.toNat
      · rw [if_pos h2]; exact ⟨takeS_end (by omega), fun h => by simp at h⟩
      · rw [if_neg h2, takeS_ok2 (by omega)]; exact ⟨rfl, fun _ => ⟨rfl, rfl⟩⟩
theorem numW_four {l : List UInt8} (h : l.length = 4) : numW l = four l := by
  obtain ⟨a, b, c, d, rfl⟩ := len4 h
  have := a.toNat_lt; have := b.toNat_lt; have := c.toNat_lt; have := d.toNat_lt
  simp only [numW, List.foldl_cons, List.foldl_nil, stepW, four, List.getD_cons_zero, List.getD_cons_succ]
  have p : (2 : Int) ^ min 8 64 = 256 := by decide
  rw [p]
  rw [i64wrap (x := 0 * 256) (by omega) (by omega), i64wrap (x := 0 * 256 + (a.toNat : Int)) (by omega) (by omega), i64wrap (x := (0 * 256 + (a.toNat : Int)) * 256) (by omega) (by omega),
    i64wrap (x := (0 * 256 + (a.toNat : Int)) * 256 + (b.toNat : Int)) (by omega) (by omega), i64wrap (x := ((0 * 256 + (a.toNat : Int)) * 256 + (b.toNat : Int)) * 256) (by omega) (by omega),
    i64wrap (x := ((0 * 256 + (a.toNat : Int)) * 256 + (b.toNat : Int)) * 256 + (c.toNat : Int)) (by omega) (by omega), i64wrap (x := (((0 * 256 + (a.toNat : Int)) * 256 + (b.toNat : Int)) * 256 + (c.toNat : Int)) * 256) (by omega) (by omega), i64wrap (by omega) (by omega)]
  omega
theorem foursW_eq : ∀ (n : Nat) (l : List UInt8), 4 * n ≤ l.length → foursW n l = fours n l
  | 0, _, _ => rfl
  | n + 1, l, h => by
    rw [foursW, fours, numW_four (by simp; omega), foursW_eq n _ (by simp; omega)]
theorem vget_e (l : List UInt8) : (vget l).2.2 = 0 ∨ (vget l).2.2 = 3 := by unfold vget; split <;> simp
/-- what stands at the end of a long header -/
theorem end_eq (n : Nat) (k v : Int) (d s t rest : List UInt8) (x : TakeR) (hx : x = ⟨t, rest, 0⟩) :
    docEnd n k v d s t rest = (let c := countS x.rest x.e 16383; let y := takeS c.2.1 c.2.2 c.1; if y.e ≠ 0 then noneR y.e else ⟨hd9 k v d s x.bytes c.1, [], (n : Int) - c.2.1.length, (n : Int) - c.2.1.length + c.1, 0⟩) := by
  subst hx
  simp only []
  unfold docEnd countS
  simp only [if_true]
  by_cases h1 : (vget rest).2.2 = 0
  · rw [if_neg (by simp [h1]), if_pos h1]
    by_cases h2 : 16383 < (vget rest).1
    · rw [if_pos h2, if_pos h2]
      simp only []
      rw [takeS_err (by decide), if_pos (by decide)]
    · rw [if_neg h2, if_neg h2]
      simp only []
      by_cases h3 : (rest.drop (vget rest).2.1).length < (vget rest).1
      · rw [if_pos h3, takeS_end (by omega), if_pos (by decide)]
      · rw [if_neg h3, takeS_ok2 (by omega), if_neg (by simp)]
  · rw [if_pos h1, if_neg h1]
    simp only []
    rw [takeS_err h1, if_pos h1]
theorem tok_eq (rest : List UInt8) : (textS (countS rest 0 512).2.1 (countS rest 0 512).2.2 (countS rest 0 512).1 512).e = (tokS rest).2.2 ∧ ((tokS rest).2.2 = 0 → textS (countS rest 0 512).2.1 (countS rest 0 512).2.2 (countS rest 0 512).1 512 = ⟨(tokS rest).1, (tokS rest).2.1, 0⟩) := by
  obtain ⟨n, k, e, hg⟩ : ∃ n k e, vget rest = (n, k, e) := ⟨_, _, _, rfl⟩
  by_cases h1 : e = 0
  · subst h1
    by_cases h2 : 512 < n
    · have hc : countS rest 0 512 = (0, rest, 2) := by unfold countS; rw [hg]; simp only []; rw [if_pos trivial, if_pos trivial, if_pos h2]
      have ht : tokS rest = ([], [], 2) := by unfold tokS; rw [hg]; simp only []; rw [if_neg (by simp), if_pos h2]
      rw [hc, ht]
      exact ⟨textS_err (e := 2) (by decide), fun h => by simp at h⟩
    · have hc : countS rest 0 512 = (n, rest.drop k, 0) := by unfold countS; rw [hg]; simp only []; rw [if_pos trivial, if_pos trivial, if_neg h2]
      by_cases h3 : rest.length - k < n
      · have ht : tokS rest = ([], [], 3) := by unfold tokS; rw [hg]; simp only []; rw [if_neg (by simp), if_neg h2, if_pos h3]
        rw [hc, ht]
        simp only []
        unfold textS
        rw [if_pos rfl, if_neg h2]
        exact ⟨takeS_end (by simp; omega), fun h => by simp at h⟩
      · have ht : tokS rest = ((rest.drop k).take n, rest.drop (k + n), 0) := by unfold tokS; rw [hg]; simp only []; rw [if_neg (by simp), if_neg h2, if_neg h3]
        rw [hc, ht]
        simp only []
        unfold textS
        rw [if_pos rfl, if_neg h2, takeS_ok2 (by simp; omega)]
        exact ⟨rfl, fun _ => by simp [List.drop_drop]⟩
  · have hc : countS rest 0 512 = (0, rest, e) := by unfold countS; rw [hg]; simp only []; rw [if_pos trivial, if_neg h1]
    have ht : tokS rest = ([], [], e) := by unfold tokS; rw [hg]; simp only []; rw [if_pos h1]
    rw [hc, ht]
    exact ⟨textS_err h1, fun h => absurd h h1⟩
def getTail (k n : Nat) (wv : Prop) [Decidable wv] (v : Int) (dn sn sr : List UInt8) (se : Int) : GetR :=
  if wv then
    let e := if se = 0 ∧ (sr.length = 0 ∨ sr.length % 4 ≠ 0 ∨ 64 < sr.length) then 2 else se
    if e ≠ 0 then noneR e else ⟨hd9 5 v dn sn [] 0, fours (sr.length / 4) sr, n, n, 0⟩
  else if k = 3 then
    let x := textS sr se sr.length 512
    if x.e ≠ 0 then noneR x.e else ⟨hd9 3 v dn sn x.bytes 0, [], n, n, 0⟩
  else
    let x := if k = 0 then textS (countS sr se 512).2.1 (countS sr se 512).2.2 (countS sr se 512).1 512 else ⟨[], sr, se⟩
    let c := countS x.rest x.e 16383
    let y := takeS c.2.1 c.2.2 c.1
    if y.e ≠ 0 then noneR y.e else ⟨hd9 k v dn sn x.bytes c.1, [], n - c.2.1.length, n - c.2.1.length + c.1, 0⟩
theorem tail_err {k n : Nat} {wv : Prop} [Decidable wv] {v : Int} {dn sn sr : List UInt8} {se : Int} (h : se ≠ 0) : getTail k n wv v dn sn sr se = noneR se := by
  unfold getTail
  by_cases h1 : wv
  · rw [if_pos h1]
    simp only []
    rw [if_neg (fun x => h x.1 : ¬ (se = 0 ∧ (sr.length = 0 ∨ sr.length % 4 ≠ 0 ∨ 64 < sr.length))), if_pos h]
  · rw [if_neg h1]
    by_cases h2 : k = 3
    · rw [if_pos h2]
      simp only []
      rw [textS_err h, if_pos h]
    · rw [if_neg h2]
      simp only []
      by_cases h3 : k = 0
      · rw [if_pos h3]
        have c0 : (countS sr se 512).2.2 = se := countS_err h
        have c1 : (textS (countS sr se 512).2.1 (countS sr se 512).2.2 (countS sr se 512).1 512).e = se := by rw [c0]; exact textS_err h
        generalize textS (countS sr se 512).2.1 (countS sr se 512).2.2 (countS sr se 512).1 512 = x at c1
        have c2 : (countS x.rest x.e 16383).2.2 = se := by rw [c1]; exact countS_err h
        rw [c2, takeS_err h, if_pos h]
      · rw [if_neg h3]
        simp only []
        have c2 : (countS sr se 16383).2.2 = se := countS_err h
        rw [c2, takeS_err h, if_pos h]
theorem getL_eq (b : UInt8) (t : List UInt8) : getL b t = if b.toNat / 64 % 2 = 0 ∧ ¬ ((takeS t 0 4).e = 0 ∧ four (takeS t 0 4).bytes = 0) then noneR 2 else
    getTail (kind b) (t.length + 1) ((takeS t 0 4).e = 0 ∧ four (takeS t 0 4).bytes = 0) (four (takeS t 0 4).bytes) (name2S (takeS t 0 4).rest (takeS t 0 4).e).bytes
      (name2S (name2S (takeS t 0 4).rest (takeS t 0 4).e).rest (name2S (takeS t 0 4).rest (takeS t 0 4).e).e).bytes (name2S (name2S (takeS t 0 4).rest (takeS t 0 4).e).rest (name2S (takeS t 0 4).rest (takeS t 0 4).e).e).rest
      (name2S (name2S (takeS t 0 4).rest (takeS t 0 4).e).rest (name2S (takeS t 0 4).rest (takeS t 0 4).e).e).e := rfl
theorem long_eq (b : UInt8) (t : List UInt8) (hb : 128 ≤ b.toNat) : docL b t = getL b t := by
  have hb8 := b.toNat_lt
  have h64 : b.toNat / 64 % 2 = 0 ↔ b.toNat < 192 := by omega
  rw [getL_eq]
  unfold docL
  by_cases hlt : 4 ≤ t.length
  · have hw := takeS_four hlt
    have hn : numW (t.take 4) = four (t.take 4) := numW_four (by simp; omega)
    simp only [hw, hn]
    generalize hv : four (t.take 4) = v
    by_cases c1 : b.toNat < 192 ∧ ¬ v = 0
    · rw [if_pos ⟨c1.1, by simp [hlt, c1.2]⟩, if_pos ⟨h64.2 c1.1, by simp [c1.2]⟩]
    · rw [if_neg (fun x => c1 ⟨x.1, by have := x.2; simp [hlt] at this; exact this⟩), if_neg (by omega), if_neg (fun x => c1 ⟨h64.1 x.1, fun y => x.2 ⟨trivial, y⟩⟩)]
      obtain ⟨d1, d2⟩ := name2S_eq (t.drop 4)
      unfold docD
      by_cases hd : (nameS (t.drop 4)).2.2 = 0
      · obtain ⟨d3, d4⟩ := d2 hd
        rw [if_neg (by simp [hd])]
        rw [hd] at d1
        simp only [d1, d3, d4]
        obtain ⟨s1, s2⟩ := name2S_eq (nameS (t.drop 4)).2.1
        unfold docS
        by_cases hs : (nameS (nameS (t.drop 4)).2.1).2.2 = 0
        · obtain ⟨s3, s4⟩ := s2 hs
          rw [if_neg (by simp [hs])]
          rw [hs] at s1
          simp only [s1, s3, s4]
          generalize (nameS (nameS (t.drop 4)).2.1).2.1 = rest
          unfold docR getTail
          simp only [if_true]
          by_cases hv0 : v = 0
          · have hD : decide (4 ≤ t.length ∧ v = 0) = true := by simp [hlt, hv0]
            rw [if_pos hD, if_pos (⟨trivial, hv0⟩ : True ∧ v = 0)]
            by_cases hr : rest.length % 4 ≠ 0 ∨ rest.length = 0 ∨ 64 < rest.length
            · rw [if_pos hr, if_pos (⟨trivial, by omega⟩ : True ∧ (rest.length = 0 ∨ rest.length % 4 ≠ 0 ∨ 64 < rest.length)), if_pos (by decide)]
            · rw [if_neg hr, if_neg (fun x => hr (by omega) : ¬ (True ∧ (rest.length = 0 ∨ rest.length % 4 ≠ 0 ∨ 64 < rest.length))), if_neg (by simp), foursW_eq _ _ (by omega), hv0]
          · have hD : ¬ decide (4 ≤ t.length ∧ v = 0) = true := by simp [hv0]
            rw [if_neg hD, if_neg (fun x => hv0 x.2 : ¬ (True ∧ v = 0))]
            unfold docK
            by_cases hk3 : kind b = 3
            · rw [if_pos hk3, if_pos hk3]
              by_cases hr : 512 < rest.length
              · have hx : (textS rest 0 rest.length 512).e = 2 := by unfold textS; rw [if_pos rfl, if_pos hr]
                rw [if_pos hr, hx, if_pos (by decide)]
              · have hx : textS rest 0 rest.length 512 = ⟨rest, rest.drop rest.length, 0⟩ := by unfold textS; rw [if_pos rfl, if_neg hr, takeS_ok2 (Nat.le_refl _), List.take_length]
                rw [if_neg hr, hx]
                simp only []
                rw [if_neg (by simp)]
            · rw [if_neg hk3, if_neg hk3]
              by_cases hk0 : kind b = 0
              · rw [if_pos hk0, if_pos hk0]
                obtain ⟨t1, t2⟩ := tok_eq rest
                by_cases ht : (tokS rest).2.2 = 0
                · have hki : ((kind b : Nat) : Int) = 0 := by rw [hk0]; rfl
                  rw [if_neg (fun x => x ht : ¬ (tokS rest).2.2 ≠ 0), end_eq _ _ _ _ _ _ _ _ (t2 ht), hki]
                · rw [if_pos ht]
                  have c1 : (countS (textS (countS rest 0 512).2.1 (countS rest 0 512).2.2 (countS rest 0 512).1 512).rest (textS (countS rest 0 512).2.1 (countS rest 0 512).2.2 (countS rest 0 512).1 512).e 16383).2.2 = (tokS rest).2.2 := by rw [countS_err (by rw [t1]; exact ht), t1]
                  rw [c1, takeS_err ht, if_pos ht]
              · rw [if_neg hk0, if_neg hk0, end_eq _ _ _ _ _ _ _ ⟨[], rest, 0⟩ rfl]
        · rw [if_pos hs, tail_err (by rw [s1]; exact hs), s1]
      · have hde : (name2S (t.drop 4) 0).e ≠ 0 := by rw [d1]; exact hd
        rw [if_pos hd, tail_err (by rw [name2S_err hde]; exact hde), name2S_err hde, d1]
  · have hw : (takeS t 0 4).e = 3 := takeS_end hlt
    have hD : decide (4 ≤ t.length ∧ numW (t.take 4) = 0) = false := by simp [hlt]
    rw [hw, hD]
    by_cases c1 : b.toNat < 192
    · rw [if_pos ⟨c1, rfl⟩, if_pos ⟨h64.2 c1, by simp⟩]
    · rw [if_neg (fun x => c1 x.1), if_pos (by omega), if_neg (fun x => c1 (h64.1 x.1))]
      have e1 : ∀ l, (name2S l 3).e = 3 := fun l => name2S_err (by decide)
      rw [e1, tail_err (by rw [e1]; decide), e1]
theorem pget (l : List UInt8) (own : Int) : docG l own = getP l own := by
  unfold docG getP
  split
  · rfl
  · cases l with
    | nil => rfl
    | cons b t =>
      simp only []
      have hb8 := b.toNat_lt
      by_cases h : 128 ≤ b.toNat
      · rw [if_neg (by omega), if_pos h]; exact long_eq b t h
      · rw [if_pos (by omega), if_neg h]
        by_cases h2 : b.toNat < 64
        · rw [if_pos h2, if_pos (by omega)]
        · rw [if_neg h2, if_neg (by omega : ¬ b.toNat / 64 % 2 = 0)]
end Ph
