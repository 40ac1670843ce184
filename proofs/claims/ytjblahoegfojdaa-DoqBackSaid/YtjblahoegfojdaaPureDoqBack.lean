/- Messages that are framed and fed, in pieces of any size, come back, and nothing else; no condition. -/
import Derived.Test.YtjblahoegfojdaaB2
import Derived.Lib.Bytes
namespace Go.Proofs.Ytjblahoegfojdaa.Pure
open Go.RowKit Go.Proofs.Ytjblahoegfojdaa.B Go.Proofs.YtjblahoegfojdaaW.PrintWords Go.Proofs.YtjblahoegfojdaaW.PrintLast Go.Proofs.YtjblahoegfojdaaW.PrintMore
set_option linter.unusedSimpArgs false
set_option linter.unusedVariables false

theorem nums_size (l : List Int) : (strOfNums l).size = l.length := strOfNums_size l
theorem nums_app (a b : List Int) : strOfNums a ++ strOfNums b = strOfNums (a ++ b) := by
  apply ByteArray.ext
  rw [ByteArray.data_append]
  simp [strOfNums]
theorem strOf_bytesOf (s : ByteArray) : strOfNums (bytesOf s) = s := by
  obtain ⟨⟨l⟩⟩ := s
  simp [strOfNums, bytesOf, Function.comp_def]
theorem bytesOf_len (s : ByteArray) : (bytesOf s).length = s.size := by
  unfold bytesOf
  rw [List.length_map, Array.length_toList]; rfl
theorem bytesOf_cut (s : ByteArray) (a b : Nat) : bytesOf (s.extract a b) = ((bytesOf s).take b).drop a := by
  unfold bytesOf
  rw [ByteArray.data_extract, Array.toList_extract]
  simp only [List.extract_eq_take_drop, List.drop_take, List.map_drop, List.map_take]
theorem toList_nil (s : ByteArray) : s.toList = [] ↔ s.size = 0 := by
  rw [Go.Lib.toList_data, ← List.length_eq_zero_iff, Array.length_toList]
  exact Iff.rfl
/-- A message, framed. -/
def fr (w : ByteArray) : List Int := [((w.size : Int) / 256) % 256, (w.size : Int) % 256] ++ bytesOf w
def okW (w : ByteArray) : Prop := 1 ≤ w.size ∧ w.size ≤ 901
def frs (ws : List ByteArray) : List Int := ws.flatMap fr
theorem fr_len (w : ByteArray) : (fr w).length = w.size + 2 := by unfold fr; rw [List.length_append, bytesOf_len]; simp; omega
theorem frs_cons (w : ByteArray) (ws : List ByteArray) : frs (w :: ws) = fr w ++ frs ws := rfl
theorem frs_snoc (ws : List ByteArray) (w : ByteArray) : frs (ws ++ [w]) = frs ws ++ fr w := by simp [frs]
theorem frs_len (ws : List ByteArray) (h : ∀ w ∈ ws, okW w) : (frs ws).length ≤ 903 * ws.length := by
  induction ws with
  | nil => simp [frs]
  | cons w ws ih =>
    rw [frs_cons, List.length_append, fr_len, List.length_cons]
    have h1 := (h w (by simp)).2
    have h2 := ih (fun x hx => h x (by simp [hx]))
    omega
theorem rd_front (a b : Int) (r : List Int) : rd (a :: b :: r) 0 = a ∧ rd (a :: b :: r) 1 = b := ⟨rfl, rfl⟩
theorem wrapE (x y : Int) (hx : 0 ≤ x ∧ x < 256) (hy : 0 ≤ y ∧ y < 256) : wrap64 (wrap64 (2 + wrap64 (wrap64 x * 256)) + wrap64 y) = 2 + x * 256 + y := by
  obtain ⟨h0, h1⟩ := hx
  obtain ⟨h2, h3⟩ := hy
  unfold wrap64; omega
/-- What Next finds. -/
theorem next_cases (l R : List Int) (ws : List ByteArray) (hw : ∀ w ∈ ws, okW w) (h : l ++ R = frs ws) (hl : 2 ≤ l.length) :
    ∃ w ws', ws = w :: ws' ∧ wrap64 (wrap64 (2 + wrap64 (wrap64 (rd l 0) * 256)) + wrap64 (rd l 1)) = (w.size : Int) + 2 ∧
      (w.size + 2 ≤ l.length → strOfNums ((l.take (w.size + 2)).drop 2) = w ∧ l.drop (w.size + 2) ++ R = frs ws') := by
  cases ws with
  | nil =>
    have := congrArg List.length h
    simp [frs] at this
    obtain ⟨h1, _⟩ := this
    subst h1; simp at hl
  | cons w ws =>
    obtain ⟨h1, h2⟩ := hw w (by simp)
    refine ⟨w, ws, rfl, ?_, ?_⟩
    · match l, hl, h with
      | a :: b :: r, _, h =>
        rw [frs_cons, fr] at h
        simp only [List.cons_append, List.nil_append, List.cons.injEq] at h
        obtain ⟨ha, hb, _⟩ := h
        rw [(rd_front a b r).1, (rd_front a b r).2, ha, hb, wrapE _ _ (by omega) (by omega)]
        omega
    · intro hle
      have e1 : l.take (w.size + 2) = fr w := by
        have := congrArg (List.take (w.size + 2)) h
        rw [List.take_append_of_le_length hle, frs_cons, List.take_append_of_le_length (show w.size + 2 ≤ (fr w).length by rw [fr_len]; omega), List.take_of_length_le (show (fr w).length ≤ w.size + 2 by rw [fr_len]; omega)] at this
        exact this
      have e2 : l.drop (w.size + 2) ++ R = frs ws := by
        have := congrArg (List.drop (w.size + 2)) h
        rw [List.drop_append_of_le_length hle, frs_cons, List.drop_append_of_le_length (show w.size + 2 ≤ (fr w).length by rw [fr_len]; omega), List.drop_of_length_le (show (fr w).length ≤ w.size + 2 by rw [fr_len]; omega), List.nil_append] at this
        exact this
      refine ⟨?_, e2⟩
      rw [e1, fr]
      show strOfNums (bytesOf w) = w
      exact strOf_bytesOf w
/-- Nothing whole is there. -/
def short (l : List Int) (ws : List ByteArray) : Prop := l.length < 2 ∨ ∃ w ws', ws = w :: ws' ∧ l.length < w.size + 2
section
variable (z : Int) (W : List ByteArray) (hz : 1 ≤ z ∧ z ≤ 500) (hW : ∀ w ∈ W, okW w) (hn : W.length ≤ 20)
include hz hW hn
theorem back (N : Nat) :
    (∀ (k n : Nat) (l : List Int) (rest : ByteArray), n ≤ W.length → l ++ bytesOf rest = frs (W.drop n) → short l (W.drop n) → rest.size + (W.length - n) ≤ N →
      rhynelaw23_DoqBack.l1 (k + 2 * N + 1) z rest W n l false = some true) ∧
    (∀ (k n : Nat) (l : List Int) (rest text : ByteArray) (ok : Bool), n ≤ W.length → rest.size + (W.length - n) ≤ N →
      (ok = false → l ++ bytesOf rest = frs (W.drop n) ∧ short l (W.drop n)) → (ok = true → ∃ h : n < W.length, text = W[n] ∧ l ++ bytesOf rest = frs (W.drop (n + 1))) →
      rhynelaw23_DoqBack.l2 (k + 2 * N + 2) z rest W n text ok l false = some true) := by
  have hWd : ∀ n, ∀ w ∈ W.drop n, okW w := fun n w hw => hW w (List.mem_of_mem_drop hw)
  have hlen : ∀ n (l R : List Int), l ++ R = frs (W.drop n) → l.length + R.length ≤ 18060 := by
    intro n l R h
    have h1 := congrArg List.length h
    rw [List.length_append] at h1
    have h2 := frs_len (W.drop n) (hWd n)
    rw [List.length_drop] at h2
    omega
  -- what follows a Next, at a row l' with so much left, given what l2 tells with one round less
  have hnext : ∀ (M : Nat), (∀ (k n : Nat) (l : List Int) (rest text : ByteArray) (ok : Bool), n ≤ W.length → rest.size + (W.length - n) ≤ M →
      (ok = false → l ++ bytesOf rest = frs (W.drop n) ∧ short l (W.drop n)) → (ok = true → ∃ h : n < W.length, text = W[n] ∧ l ++ bytesOf rest = frs (W.drop (n + 1))) →
      rhynelaw23_DoqBack.l2 (k + 2 * M + 2) z rest W n text ok l false = some true) →
      ∀ (k n : Nat) (l : List Int) (rest : ByteArray), n ≤ W.length → rest.size + (W.length - n) ≤ M → l ++ bytesOf rest = frs (W.drop n) →
      (if (l.length : Int) < 2 then (rhynelaw23_DoqBack.l2 (k + 2 * M + 2) z rest W n (⟨#[]⟩ : ByteArray) false l false) else (if 0 < (l.length : Int) then (if 1 < (l.length : Int) then (if (wrap64 ((wrap64 (2 + (wrap64 ((wrap64 (rd l 0)) * 256)))) + (wrap64 (rd l 1)))) = 2 then (rhynelaw23_DoqBack.l2 (k + 2 * M + 2) z rest W n (⟨#[]⟩ : ByteArray) false l false) else (if (l.length : Int) < (wrap64 ((wrap64 (2 + (wrap64 ((wrap64 (rd l 0)) * 256)))) + (wrap64 (rd l 1)))) then (rhynelaw23_DoqBack.l2 (k + 2 * M + 2) z rest W n (⟨#[]⟩ : ByteArray) false l false) else (if 2 ≤ (wrap64 ((wrap64 (2 + (wrap64 ((wrap64 (rd l 0)) * 256)))) + (wrap64 (rd l 1)))) then (if (wrap64 ((wrap64 (2 + (wrap64 ((wrap64 (rd l 0)) * 256)))) + (wrap64 (rd l 1)))) ≤ (l.length : Int) then (if 0 ≤ (wrap64 ((wrap64 (2 + (wrap64 ((wrap64 (rd l 0)) * 256)))) + (wrap64 (rd l 1)))) then (rhynelaw23_DoqBack.l2 (k + 2 * M + 2) z rest W n (strOfNums ((l.take ((wrap64 ((wrap64 (2 + (wrap64 ((wrap64 (rd l 0)) * 256)))) + (wrap64 (rd l 1)))) : Int).toNat).drop 2)) true (l.drop ((wrap64 ((wrap64 (2 + (wrap64 ((wrap64 (rd l 0)) * 256)))) + (wrap64 (rd l 1)))) : Int).toNat) false) else (none)) else (none)) else (none)))) else (none)) else (none))) = some true := by
    intro M hB k n l rest hnl hM h
    by_cases c2 : (l.length : Int) < 2
    · rw [if_pos c2]
      exact hB k n l rest _ false hnl hM (fun _ => ⟨h, .inl (by omega)⟩) (fun hc => by cases hc)
    rw [if_neg c2, if_pos (by omega), if_pos (by omega)]
    obtain ⟨w, ws', hws, hE, hfull⟩ := next_cases l (bytesOf rest) (W.drop n) (hWd n) h (by omega)
    have hw := hWd n w (by rw [hws]; simp)
    obtain ⟨hw1, hw2⟩ := hw
    rw [hE, if_neg (by omega)]
    by_cases cs : (l.length : Int) < (w.size : Int) + 2
    · rw [if_pos cs]
      exact hB k n l rest _ false hnl hM (fun _ => ⟨h, .inr ⟨w, ws', hws, by omega⟩⟩) (fun hc => by cases hc)
    obtain ⟨ht, hr⟩ := hfull (by omega)
    have hlt : n < W.length := by
      apply Classical.byContradiction; intro hc
      rw [List.drop_of_length_le (by omega)] at hws; cases hws
    have hd : W.drop n = W[n] :: W.drop (n + 1) := List.drop_eq_getElem_cons hlt
    rw [hd] at hws
    simp only [List.cons.injEq] at hws
    obtain ⟨hwn, hws2⟩ := hws
    have hN : ((w.size : Int) + 2).toNat = w.size + 2 := by omega
    rw [if_neg cs, if_pos (by omega), if_pos (by omega), if_pos (by omega), hN, ht]
    exact hB k n _ rest w true hnl hM (fun hc => by cases hc) (fun _ => ⟨hlt, hwn.symm, by rw [hws2]; exact hr⟩)
  have hA : ∀ N, (∀ M, M < N → ∀ (k n : Nat) (l : List Int) (rest text : ByteArray) (ok : Bool), n ≤ W.length → rest.size + (W.length - n) ≤ M →
      (ok = false → l ++ bytesOf rest = frs (W.drop n) ∧ short l (W.drop n)) → (ok = true → ∃ h : n < W.length, text = W[n] ∧ l ++ bytesOf rest = frs (W.drop (n + 1))) →
      rhynelaw23_DoqBack.l2 (k + 2 * M + 2) z rest W n text ok l false = some true) →
      ∀ (k n : Nat) (l : List Int) (rest : ByteArray), n ≤ W.length → l ++ bytesOf rest = frs (W.drop n) → short l (W.drop n) → rest.size + (W.length - n) ≤ N →
      rhynelaw23_DoqBack.l1 (k + 2 * N + 1) z rest W n l false = some true := by
    intro N hB k n l rest hnl h hs hM
    rw [rhynelaw23_DoqBack.l1]
    by_cases c0 : rest.toList = []
    · rw [if_pos c0]
      have hr0 : rest.size = 0 := (toList_nil rest).1 c0
      have hb0 : bytesOf rest = [] := List.eq_nil_of_length_eq_zero (by rw [bytesOf_len, hr0])
      rw [hb0, List.append_nil] at h
      have hWn : W.drop n = [] := by
        cases hd : W.drop n with
        | nil => rfl
        | cons w ws =>
          exfalso
          have hw := hWd n w (by rw [hd]; simp)
          rw [hd] at h hs
          have hl := congrArg List.length h
          rw [frs_cons, List.length_append, fr_len] at hl
          rcases hs with hs | ⟨w2, ws2, he, hs⟩
          · have := hw.1; omega
          · simp only [List.cons.injEq] at he
            obtain ⟨e1, _⟩ := he
            subst e1; omega
      have hnn : n = W.length := by
        have := congrArg List.length hWn
        rw [List.length_drop] at this
        simp at this; omega
      rw [hWn] at h
      have hl0 : l = [] := h
      subst hl0
      rw [if_pos (by omega), if_neg (by decide), if_pos rfl]; rfl
    rw [if_neg c0]
    have hr1 : 1 ≤ rest.size := by
      apply Classical.byContradiction; intro hc
      exact c0 ((toList_nil rest).2 (by omega))
    obtain ⟨q, hq, hq1, hq2⟩ : ∃ q : Nat, mn z (rest.size : Int) = (q : Int) ∧ 1 ≤ q ∧ q ≤ rest.size := by
      refine ⟨(mn z (rest.size : Int)).toNat, ?_, ?_, ?_⟩ <;> unfold mn <;> split <;> omega
    have hll := hlen n l (bytesOf rest) h
    rw [bytesOf_len] at hll
    have hsz : (rest.extract 0 q).size = q := by rw [ByteArray.size_extract]; omega
    rw [hq, if_pos (by omega), if_pos (by omega), if_neg (by decide), Int.toNat_natCast, hsz, show wrap64 (1048576 - (l.length : Int)) = 1048576 - (l.length : Int) from by unfold wrap64; omega, if_neg (by omega), if_pos (by omega), Option.bind_some, if_pos rfl]
    have hsplit : (l ++ bytesOf (rest.extract 0 q)) ++ bytesOf (rest.extract q rest.size) = frs (W.drop n) := by
      rw [bytesOf_cut, bytesOf_cut, List.drop_zero, List.take_of_length_le (show (bytesOf rest).length ≤ rest.size by rw [bytesOf_len]; omega), List.append_assoc, List.take_append_drop]; exact h
    have hsz2 : (rest.extract q rest.size).size = rest.size - q := by rw [ByteArray.size_extract]; omega
    obtain ⟨M, rfl⟩ : ∃ M, N = M + 1 := ⟨N - 1, by omega⟩
    rw [show k + 2 * (M + 1) = k + 2 * M + 2 from by omega]
    exact hnext M (hB M (by omega)) k n _ _ hnl (by rw [hsz2]; omega) hsplit
  have hall : ∀ N, ∀ (k n : Nat) (l : List Int) (rest text : ByteArray) (ok : Bool), n ≤ W.length → rest.size + (W.length - n) ≤ N →
      (ok = false → l ++ bytesOf rest = frs (W.drop n) ∧ short l (W.drop n)) → (ok = true → ∃ h : n < W.length, text = W[n] ∧ l ++ bytesOf rest = frs (W.drop (n + 1))) →
      rhynelaw23_DoqBack.l2 (k + 2 * N + 2) z rest W n text ok l false = some true := by
    intro N
    induction N using Nat.strongRecOn with
    | ind N ih =>
      intro k n l rest text ok hnl hM h0 h1
      rw [show k + 2 * N + 2 = (k + 2 * N + 1) + 1 from rfl, rhynelaw23_DoqBack.l2]
      cases ok with
      | false =>
        rw [if_neg (by decide)]
        exact hA N ih k n l rest hnl (h0 rfl).1 (h0 rfl).2 hM
      | true =>
        obtain ⟨hlt, ht, hr⟩ := h1 rfl
        have hrd : rdOf ByteArray.empty W n = W[n] := by
          unfold rdOf; rw [Int.toNat_natCast, List.getD_eq_getElem?_getD, List.getElem?_eq_getElem hlt]; rfl
        rw [if_pos rfl, if_neg (by omega), if_pos (by omega), if_pos (by omega), hrd, ht, if_pos rfl, show wrap64 ((n : Int) + 1) = ((n + 1 : Nat) : Int) from by unfold wrap64; omega]
        obtain ⟨M, rfl⟩ : ∃ M, N = M + 1 := ⟨N - 1, by omega⟩
        rw [show k + 2 * (M + 1) + 1 = (k + 1) + 2 * M + 2 from by omega]
        exact hnext M (ih M (by omega)) (k + 1) (n + 1) l rest (by omega) (by omega) hr
  exact ⟨hA N (fun M _ => hall M), hall N⟩
end
theorem frame_f (w : ByteArray) (h : okW w) : doq_Frame.f (bytesOf w) = some (fr w, 0) := by
  obtain ⟨h1, h2⟩ := h
  unfold doq_Frame.f
  rw [bytesOf_len, if_neg (by omega), if_neg (by omega), Option.bind_some, if_pos (by simp; omega)]; rfl
theorem bytesOf_strOf (l : List Int) (h : ∀ x ∈ l, 0 ≤ x ∧ x < 256) : bytesOf (strOfNums l) = l := by
  unfold bytesOf strOfNums
  show List.map _ (List.map _ l) = l
  rw [List.map_map]
  conv => rhs; rw [← List.map_id l]
  apply List.map_congr_left
  intro x hx
  have := h x hx
  simp only [Function.comp, UInt8.toNat_ofNat', id]
  omega
theorem frs_bytes (ws : List ByteArray) : ∀ x ∈ frs ws, 0 ≤ x ∧ x < 256 := by
  intro x hx
  simp only [frs, List.mem_flatMap] at hx
  obtain ⟨w, _, hx⟩ := hx
  rw [fr, List.mem_append] at hx
  rcases hx with hx | hx
  · simp only [List.mem_cons, List.not_mem_nil, or_false] at hx
    omega
  · simp only [bytesOf, List.mem_map] at hx
    obtain ⟨b, _, rfl⟩ := hx
    have := b.toNat_lt
    omega
theorem build (xs : List ByteArray) (z : Int) (hz : 1 ≤ z ∧ z ≤ 500) (N0 : Nat) (hN0 : N0 = 904 * 20) : ∀ (m k i : Nat) (acc : List ByteArray), i + m = min xs.length 20 → acc.length = i → (∀ w ∈ acc, okW w) →
    rhynelaw23_DoqBack.l0 (k + 2 * N0 + 1 + 2 * m + 2) xs z (strOfNums (frs acc)) acc i = some true := by
  intro m
  induction m with
  | zero =>
    intro k i acc hi ha hw
    have hfin : rhynelaw23_DoqBack.j1 (k + 2 * N0 + 1 + 1) xs z (strOfNums (frs acc)) acc i false = some true := by
      rw [rhynelaw23_DoqBack.j1, if_neg (by decide)]
      have hl := frs_len acc hw
      exact (back z acc hz hw (by omega) N0).1 k 0 [] (strOfNums (frs acc)) (by omega) (by rw [bytesOf_strOf _ (frs_bytes acc)]; rfl) (.inl (by decide)) (by rw [nums_size]; omega)
    rw [show k + 2 * N0 + 1 + 2 * 0 + 2 = (k + 2 * N0 + 1 + 1) + 1 from by omega, rhynelaw23_DoqBack.l0]
    by_cases c : (i : Int) < (xs.length : Int)
    · rw [if_pos c, decide_eq_false (by omega), hfin]
    · rw [if_neg c, hfin]
  | succ m ih =>
    intro k i acc hi ha hw
    have hmn : 0 ≤ mn (((rdOf ByteArray.empty xs i).size : Nat) : Int) 900 ∧ mn (((rdOf ByteArray.empty xs i).size : Nat) : Int) 900 ≤ (((rdOf ByteArray.empty xs i).size : Nat) : Int) ∧ mn (((rdOf ByteArray.empty xs i).size : Nat) : Int) 900 ≤ 900 := by
      unfold mn; split <;> omega
    rw [show k + 2 * N0 + 1 + 2 * (m + 1) + 2 = (k + 2 * N0 + 1 + 2 * m + 2 + 1) + 1 from by omega, rhynelaw23_DoqBack.l0, if_pos (by omega), decide_eq_true (by omega), rhynelaw23_DoqBack.j1, if_pos rfl, if_pos (by omega), if_pos (by omega), if_pos hmn.1, if_pos hmn.2.1]
    have hs : ((rdOf ByteArray.empty xs i).extract 0 (mn (((rdOf ByteArray.empty xs i).size : Nat) : Int) 900).toNat).size ≤ 900 := by rw [ByteArray.size_extract]; omega
    generalize (rdOf ByteArray.empty xs i).extract 0 (mn (((rdOf ByteArray.empty xs i).size : Nat) : Int) 900).toNat = s at *
    clear hmn
    have hws : ((⟨#[109]⟩ : ByteArray) ++ s).size = 1 + s.size := by rw [ByteArray.size_append]; rfl
    have hwk : okW ((⟨#[109]⟩ : ByteArray) ++ s) := ⟨by omega, by omega⟩
    have hl := frs_len acc hw
    rw [if_pos (by omega), frame_f _ hwk, Option.bind_some, if_pos rfl, nums_size, nums_size, if_pos (by rw [fr_len]; omega), if_pos (by omega), nums_app, ← frs_snoc, show wrap64 ((i : Int) + 1) = ((i + 1 : Nat) : Int) from by unfold wrap64; omega]
    refine ih k (i + 1) _ (by omega) (by simp; omega) ?_
    intro w hwm
    rcases List.mem_append.1 hwm with h | h
    · exact hw w h
    · rw [List.mem_singleton.1 h]; exact hwk
theorem framed_f : rhynelaw23_framed.f = some true := by decide +kernel
theorem DoqBack : ∀ (l0 : List ByteArray) (a1 : Int), (l0.length ≤ maxLen ∧ ∀ x ∈ l0, x.size ≤ maxLen) → (Lit.int .i64 a1).wf = true → ∃ k, rhynelaw23_DoqBack.f k l0 a1 = some true := by
  intro xs a1 _ _
  obtain ⟨N0, hN0⟩ : ∃ N0 : Nat, N0 = 904 * 20 := ⟨_, rfl⟩
  obtain ⟨z, hz, hz1⟩ : ∃ z : Int, wrap64 (1 + wrap64 (Int.tmod (IntKind.u64.wrap a1) 500)) = z ∧ (1 ≤ z ∧ z ≤ 500) := by
    have h : 0 ≤ IntKind.u64.wrap a1 := by rw [IntKind.wrap_u64]; omega
    refine ⟨_, rfl, ?_⟩
    rw [Int.tmod_eq_emod_of_nonneg h]
    generalize IntKind.u64.wrap a1 = u at *
    have h0 : 0 ≤ u % 500 := Int.emod_nonneg _ (by decide)
    have h1 : u % 500 < 500 := Int.emod_lt_of_pos _ (by decide)
    generalize u % 500 = v at *
    unfold wrap64; omega
  refine ⟨0 + 2 * N0 + 1 + 2 * (min xs.length 20) + 2, ?_⟩
  unfold rhynelaw23_DoqBack.f
  rw [framed_f, Option.bind_some, if_pos rfl, hz]
  exact build xs z hz1 N0 hN0 (min xs.length 20) 0 0 [] (by omega) rfl (by intro w hw; cases hw)
end Go.Proofs.Ytjblahoegfojdaa.Pure
