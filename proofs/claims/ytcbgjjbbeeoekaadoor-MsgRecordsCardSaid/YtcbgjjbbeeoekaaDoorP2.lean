import Derived.Test.YtcbgjjbbeeoekaaDoorE10
set_option maxRecDepth 100000
set_option maxHeartbeats 4000000
set_option linter.unusedSimpArgs false
set_option linter.unusedVariables false
namespace Ph
open Go
/-! Names that are put behind each other: what the document's list of places answers, and what is got back (plain). -/
/-- the text of some parts: each with a dot behind -/
def restD : List (List UInt8) → List UInt8
  | [] => []
  | p :: ps => p ++ 46 :: restD ps
theorem parts_rest : ∀ (l cur : List UInt8) (ps : List (List UInt8)), partsOf l cur = some ps → restD ps = cur ++ l := by
  intro l
  induction l with
  | nil =>
    intro cur ps h
    rw [partsOf] at h
    split at h
    · rename_i e; cases h; subst e; rfl
    · cases h
  | cons c r ih =>
    intro cur ps h
    rw [partsOf] at h
    split at h
    · rename_i e
      subst e
      split at h
      · cases h
      · obtain ⟨qs, hq, rfl⟩ := Option.map_eq_some_iff.1 h
        rw [restD, ih [] qs hq]; rfl
    · split at h
      · rw [ih _ ps h, List.append_assoc]; rfl
      · cases h
theorem name_rest {l : List UInt8} {ps : List (List UInt8)} (h : nameOf l = some ps) : (ps = [] ∧ l = [46]) ∨ (ps ≠ [] ∧ l = restD ps) := by
  unfold nameOf at h
  split at h
  · rename_i e; cases h; exact .inl ⟨rfl, e⟩
  · split at h
    · cases h
    · rename_i h0
      have := parts_rest l [] ps h
      refine .inr ⟨fun e => ?_, by rw [this]; rfl⟩
      subst e
      rw [restD] at this
      exact h0 (.inl this.symm)
theorem tail_rest : ∀ ps : List (List UInt8), Go.Lib.joinTail [46] ps ++ [46] = 46 :: restD ps
  | [] => rfl
  | p :: ps => by
    have ih := tail_rest ps
    unfold Go.Lib.joinTail at ih ⊢
    rw [List.map_cons, List.flatten_cons, List.append_assoc, ih, restD]; simp
theorem join_rest (p : List UInt8) (ps : List (List UInt8)) : Go.Lib.join (p :: ps) [46] ++ [46] = restD (p :: ps) := by
  rw [Go.Lib.join_cons, List.append_assoc, tail_rest, restD]
theorem rest_len (ps : List (List UInt8)) : (restD ps).length = (ps.map fun p => p.length + 1).sum := by
  induction ps with
  | nil => rfl
  | cons p ps ih => rw [restD, List.length_append, List.length_cons, ih, List.map_cons, List.sum_cons]; omega
theorem join_less (p q : List UInt8) (ps : List (List UInt8)) : (Go.Lib.join (q :: ps) [46]).length < (Go.Lib.join (p :: q :: ps) [46]).length := by
  have h1 := congrArg List.length (join_rest p (q :: ps))
  have h2 := congrArg List.length (join_rest q ps)
  rw [rest_len, List.length_append] at h1 h2
  simp at h1 h2 ⊢
  omega
/-! The document's list. -/
def findD (k : List UInt8) : List (List UInt8 × Nat) → Option Nat
  | [] => none
  | x :: t => if k = x.1 ∧ x.2 < 16384 then some x.2 else findD k t
def docP : List (List UInt8 × Nat) → List UInt8 → List (List UInt8) → List (List UInt8 × Nat) × List UInt8
  | m, b, [] => (m, b ++ [0])
  | m, b, p :: ps => match findD (restD (p :: ps)) m with
    | some a => (m, b ++ [UInt8.ofNat (192 + a / 256), UInt8.ofNat (a % 256)])
    | none => docP (m ++ [(restD (p :: ps), b.length)]) (b ++ [UInt8.ofNat p.length] ++ p) ps
theorem findD_add (k : List UInt8) (x : List UInt8 × Nat) : ∀ m, findD k (m ++ [x]) = match findD k m with
    | some a => some a
    | none => if k = x.1 ∧ x.2 < 16384 then some x.2 else none
  | [] => rfl
  | y :: m => by
    have ih := findD_add k x m
    rw [List.cons_append, findD, findD]
    by_cases h : k = y.1 ∧ y.2 < 16384
    · rw [if_pos h, if_pos h]
    · rw [if_neg h, if_neg h, ih]
theorem findP_add (k : List UInt8) (x : List UInt8 × Nat) : ∀ m, findP k (m ++ [x]) = match findP k m with
    | some a => some a
    | none => if k = x.1 then some x.2 else none
  | [] => rfl
  | y :: m => by
    have ih := findP_add k x m
    rw [List.cons_append, findP, findP]
    by_cases h : k = y.1
    · rw [if_pos h, if_pos h]
    · rw [if_neg h, if_neg h, ih]
theorem findP_mem {k : List UInt8} : ∀ {t : List (List UInt8 × Nat)} {a : Nat}, findP k t = some a → (k, a) ∈ t
  | [], _, h => by cases h
  | x :: t, a, h => by
    rw [findP] at h
    split at h
    · rename_i e; cases h; subst e; exact List.mem_cons_self
    · exact List.mem_cons_of_mem _ (findP_mem h)
/-- the document's list and the table tell the same -/
def SameT (t : List (List UInt8 × Nat)) (m : List (List UInt8 × Nat)) (n : Nat) : Prop := (∀ k, findD (k ++ [46]) m = match findP k t with
  | some a => if a < 16384 then some a else none
  | none => none) ∧ ∀ x ∈ t, x.2 ≤ n
theorem SameT.mono {t m n n'} (h : SameT t m n) (hn : n ≤ n') : SameT t m n' := ⟨h.1, fun x hx => Nat.le_trans (h.2 x hx) hn⟩
theorem doc_put : ∀ (ps : List (List UInt8)) (t : List (List UInt8 × Nat)) (m : List (List UInt8 × Nat)) (b : List UInt8), SameT t m b.length →
    (docP m b ps).2 = (putP t b ps).2 ∧ SameT (putP t b ps).1 (docP m b ps).1 (putP t b ps).2.length
  | [], t, m, b, h => ⟨rfl, h.mono (by rw [putP, List.length_append]; omega)⟩
  | p :: ps, t, m, b, h => by
    have hk := h.1 (Go.Lib.join (p :: ps) [46])
    rw [join_rest] at hk
    rw [docP, putP, hk]
    have inj : ∀ k : List UInt8, k ++ [46] = restD (p :: ps) ↔ k = Go.Lib.join (p :: ps) [46] := fun k => by rw [← join_rest]; exact List.append_left_inj [46]
    have hlen : b.length ≤ (b ++ [UInt8.ofNat p.length] ++ p).length := by simp
    cases hf : findP (Go.Lib.join (p :: ps) [46]) t with
    | some a =>
      dsimp only
      by_cases ha : a < 16384
      · rw [if_pos ha, if_pos ha]
        exact ⟨rfl, h.mono (by simp)⟩
      · rw [if_neg ha, if_neg ha]
        have hab := h.2 _ (findP_mem hf)
        dsimp only at hab
        refine doc_put ps t _ _ ⟨fun k => ?_, fun x hx => Nat.le_trans (h.2 x hx) hlen⟩
        rw [findD_add, h.1 k]
        have hb : ¬ (b.length < 16384) := by omega
        cases hk2 : findP k t with
        | some c => by_cases hc : c < 16384 <;> simp [hc, hb]
        | none => simp [hb]
    | none =>
      dsimp only
      refine doc_put ps _ _ _ ⟨fun k => ?_, fun x hx => ?_⟩
      · rw [findD_add, h.1 k, findP_add]
        cases hk2 : findP k t with
        | some c =>
          by_cases hc : c < 16384
          · simp [hc]
          · have hne : k ≠ Go.Lib.join (p :: ps) [46] := fun e => by rw [e, hf] at hk2; cases hk2
            simp [hc, inj, hne]
        | none =>
          dsimp only
          by_cases hke : k = Go.Lib.join (p :: ps) [46]
          · by_cases hb : b.length < 16384
            · rw [if_pos ⟨(inj k).2 hke, by omega⟩, if_pos hke]; simp [hb]
            · rw [if_neg (by omega), if_pos hke]; simp [hb]
          · rw [if_neg (by rw [inj]; exact fun e => hke e.1), if_neg hke]
      · rcases List.mem_append.1 hx with hx | hx
        · exact Nat.le_trans (h.2 x hx) hlen
        · cases List.mem_singleton.1 hx; exact hlen
/-! What stands at a place. -/
inductive Stand (b : List UInt8) : Nat → Nat → List UInt8 → Nat → Prop
  | root {bf a : Nat} {r : List UInt8} : b.drop a = 0 :: r → Stand b bf a [] (a + 1)
  | part {bf a e : Nat} {p r t : List UInt8} : okPart p = true → b.drop a = UInt8.ofNat p.length :: (p ++ r) → Stand b a (a + 1 + p.length) t e → Stand b bf a (p ++ 46 :: t) e
  | far {bf a c e : Nat} {r t : List UInt8} : c < 16384 → c < bf → b.drop a = UInt8.ofNat (192 + c / 256) :: UInt8.ofNat (c % 256) :: r → Stand b c c t e → Stand b bf a t (a + 2)
theorem drop_lt {α : Type} {b r : List α} {x : α} {a : Nat} (h : b.drop a = x :: r) : a < b.length := by
  refine Nat.lt_of_not_le fun hl => ?_
  rw [List.drop_eq_nil_of_le hl] at h
  cases h
theorem drop_app {α : Type} {b r w : List α} {x : α} {a : Nat} (h : b.drop a = x :: r) : (b ++ w).drop a = x :: (r ++ w) := by
  rw [List.drop_append_of_le_length (Nat.le_of_lt (drop_lt h)), h]; rfl
theorem Stand.app {b w : List UInt8} {bf a e : Nat} {t : List UInt8} (h : Stand b bf a t e) : Stand (b ++ w) bf a t e := by
  induction h with
  | root h => exact .root (drop_app h)
  | part ho h _ ih => exact .part ho (by rw [drop_app h, List.append_assoc]) ih
  | far h1 h2 h3 _ ih => exact .far h1 h2 (drop_app h3) ih
theorem Stand.lt {b : List UInt8} {bf a e : Nat} {t : List UInt8} (h : Stand b bf a t e) : a < b.length := by
  cases h with
  | root h => exact drop_lt h
  | part _ h _ => exact drop_lt h
  | far _ _ h _ => exact drop_lt h
theorem lowc_let {c : UInt8} (h : letB c = true) : lowc c = c := by
  have key : ∀ n : Fin 256, letB (UInt8.ofNat n.val) = true → lowc (UInt8.ofNat n.val) = UInt8.ofNat n.val := by decide +kernel
  have h2 := key ⟨c.toNat, c.toNat_lt⟩
  simp only [UInt8.ofNat_toNat] at h2
  exact h2 h
theorem partS_all : ∀ (p r : List UInt8), p.all letB = true → partS (p ++ r) p.length = (p, 0)
  | [], r, _ => by cases r <;> rfl
  | c :: p, r, h => by
    rw [List.all_cons, Bool.and_eq_true] at h
    rw [List.cons_append, List.length_cons, partS, lowc_let h.1, if_pos h.1, partS_all p r h.2, if_pos rfl]
theorem getS_stand {b : List UInt8} {bf a e : Nat} {t : List UInt8} (h : Stand b bf a t e) : ∀ (s : List UInt8) (e0 : Nat), (s ++ t).length ≤ 254 → getS b s e0 bf a = (if s ++ t = [] then [46] else s ++ t, if e0 = 0 then e else e0, 0) := by
  induction h with
  | root h =>
    intro s e0 hs
    have hl := drop_lt h
    have hx : b.getD _ 0 = 0 := (List.cons.inj ((drop_more hl).symm.trans h)).1
    rw [getS, if_pos hl, hx, if_pos (by decide), List.append_nil]
  | @part bf a e p r t ho h _ ih =>
    intro s e0 hs
    have hl := drop_lt h
    have hx := (List.cons.inj ((drop_more hl).symm.trans h))
    have hp := ok_len ho
    have hn : (UInt8.ofNat p.length).toNat = p.length := by simp; omega
    have hp0 : p.length ≠ 0 := fun e => hp.2.1 (List.length_eq_zero_iff.1 e)
    rw [getS, if_pos hl, hx.1, hn, if_neg hp0, if_neg (by omega), if_neg (by omega), hx.2, partS_all p r hp.2.2, if_neg (by simp)]
    rw [if_neg (by simp at hs ⊢; omega)]
    rw [ih (s ++ p ++ [46]) e0 (by simp at hs ⊢; omega)]
    simp
  | @far bf a c e r t h1 h2 h h4 ih =>
    intro s e0 hs
    have hl := drop_lt h
    have hx := (List.cons.inj ((drop_more hl).symm.trans h))
    have hl2 := drop_lt hx.2
    have hx2 := (List.cons.inj ((drop_more hl2).symm.trans hx.2))
    have hn : (UInt8.ofNat (192 + c / 256)).toNat = 192 + c / 256 := by simp; omega
    have hn2 : (UInt8.ofNat (c % 256)).toNat = c % 256 := by simp
    have hto : (192 + c / 256 - 192) * 256 + c % 256 = c := by omega
    rw [getS, if_pos hl, hx.1, hx2.1, hn, hn2, hto, if_neg (by omega), if_pos (by omega), if_neg (by omega), if_neg (by omega)]
    rw [ih s _ hs]
    by_cases he : e0 = 0
    · subst he; rfl
    · simp [he]
/-- what a place of the table leads to stands there -/
def Good (b : List UInt8) (x : List UInt8 × Nat) : Prop := ∃ e, Stand b x.2 x.2 (x.1 ++ [46]) e
theorem Good.app {b w : List UInt8} {x} (h : Good b x) : Good (b ++ w) x := by obtain ⟨e, h⟩ := h; exact ⟨e, h.app⟩
theorem Good.lt {b : List UInt8} {x} (h : Good b x) : x.2 < b.length := by obtain ⟨e, h⟩ := h; exact h.lt
theorem put_stand : ∀ (ps : List (List UInt8)) (t : List (List UInt8 × Nat)) (b : List UInt8) (bf : Nat), (∀ p ∈ ps, okPart p = true) →
    (∀ x ∈ t, (Good b x ∧ x.2 < bf) ∨ (Go.Lib.join ps [46]).length < x.1.length) →
    ∃ w, (putP t b ps).2 = b ++ w ∧ w.length ≤ (wireP ps).length + 1 ∧ Stand (b ++ w) bf b.length (restD ps) (b ++ w).length ∧ ∀ x ∈ (putP t b ps).1, x ∈ t ∨ Good (b ++ w) x
  | [], t, b, bf, _, _ => ⟨[0], rfl, by simp, by rw [List.length_append]; exact .root (r := []) (by simp), fun x hx => .inl hx⟩
  | p :: ps, t, b, bf, hok, ht => by
    have hp := ok_len (hok p List.mem_cons_self)
    have hp0 : p.length ≠ 0 := fun e => hp.2.1 (List.length_eq_zero_iff.1 e)
    have hj : (Go.Lib.join ps [46]).length < (Go.Lib.join (p :: ps) [46]).length := by
      cases ps with
      | nil => rw [Go.Lib.join_cons, Go.Lib.join_nil]; simp; omega
      | cons q ps => exact join_less p q ps
    have hw : (wireP (p :: ps)).length = 1 + p.length + (wireP ps).length := by rw [wireP_len, wireP_len]; simp; omega
    have go : ∀ t', (∀ x ∈ t', x ∈ t ∨ x = (Go.Lib.join (p :: ps) [46], b.length)) → ∃ w, (putP t' (b ++ [UInt8.ofNat p.length] ++ p) ps).2 = b ++ w ∧ w.length ≤ (wireP (p :: ps)).length + 1 ∧ Stand (b ++ w) bf b.length (restD (p :: ps)) (b ++ w).length ∧ ∀ x ∈ (putP t' (b ++ [UInt8.ofNat p.length] ++ p) ps).1, x ∈ t ∨ Good (b ++ w) x := by
      intro t' ht'
      obtain ⟨w, h1, h2, h3, h4⟩ := put_stand ps t' (b ++ [UInt8.ofNat p.length] ++ p) b.length (fun q hq => hok q (List.mem_cons_of_mem _ hq)) fun x hx => by
        rcases ht' x hx with h | h
        · rcases ht x h with ⟨h5, h6⟩ | h5
          · left; rw [List.append_assoc]; exact ⟨h5.app, h5.lt⟩
          · right; omega
        · subst h; right; exact hj
      have e : b ++ [UInt8.ofNat p.length] ++ p ++ w = b ++ (UInt8.ofNat p.length :: (p ++ w)) := by simp
      have hl : (b ++ [UInt8.ofNat p.length] ++ p).length = b.length + 1 + p.length := by simp; omega
      rw [e, hl] at h3
      rw [e] at h1 h4
      have hs : ∀ bf, Stand (b ++ (UInt8.ofNat p.length :: (p ++ w))) bf b.length (restD (p :: ps)) (b ++ (UInt8.ofNat p.length :: (p ++ w))).length := fun bf => .part (hok p List.mem_cons_self) (by rw [List.drop_left]) h3
      refine ⟨UInt8.ofNat p.length :: (p ++ w), h1, by simp; omega, hs bf, fun x hx => ?_⟩
      rcases h4 x hx with h | h
      · rcases ht' x h with h | h
        · exact .inl h
        · subst h; right; exact ⟨_, by rw [join_rest]; exact hs _⟩
      · exact .inr h
    rw [putP]
    cases hf : findP (Go.Lib.join (p :: ps) [46]) t with
    | some a =>
      dsimp only
      by_cases ha : a < 16384
      · rw [if_pos ha]
        have hm := findP_mem hf
        rcases ht _ hm with ⟨⟨e, h5⟩, h6⟩ | h5
        · refine ⟨_, rfl, by simp; omega, ?_, fun x hx => .inl hx⟩
          rw [← join_rest, List.length_append]
          exact .far (r := []) ha h6 (by rw [List.drop_left]) h5.app
        · exact absurd h5 (Nat.lt_irrefl _)
      · rw [if_neg ha]
        exact go t fun x hx => .inl hx
    | none =>
      dsimp only
      exact go _ fun x hx => by
        rcases List.mem_append.1 hx with h | h
        · exact .inl h
        · exact .inr (List.mem_singleton.1 h)
/-- what was put is got -/
def Got (b : List UInt8) (at_ : List Nat) (had : List (List UInt8)) : Prop := at_.length = had.length ∧ ∀ j a s, at_[j]? = some a → had[j]? = some s →
  ∃ t, t.length ≤ 254 ∧ s = (if t = [] then [46] else t) ∧ Stand b a a t (at_.getD (j + 1) b.length)
theorem Got.get {b : List UInt8} {at_ had} (h : Got b at_ had) {j a : Nat} {s} (h1 : at_[j]? = some a) (h2 : had[j]? = some s) : getT b (a : Int) = (s, at_.getD (j + 1) b.length, 0) := by
  obtain ⟨t, h3, rfl, h5⟩ := h.2 j a s h1 h2
  have h6 := h5.lt
  unfold getT
  rw [if_neg (by omega), Int.toNat_natCast, getS_stand h5 [] 0 (by simpa using h3)]
  rfl
theorem Got.put {b w l : List UInt8} {at_ had} {ps : List (List UInt8)} (h : Got b at_ had) (hn : nameOf l = some ps) (hs : Stand (b ++ w) b.length b.length (restD ps) (b ++ w).length) : Got (b ++ w) (at_ ++ [b.length]) (had ++ [l]) := by
  refine ⟨by simp [h.1], fun j a s h1 h2 => ?_⟩
  by_cases hj : j < at_.length
  · rw [List.getElem?_append_left hj] at h1
    rw [List.getElem?_append_left (by rw [← h.1]; exact hj)] at h2
    obtain ⟨t, h3, h4, h5⟩ := h.2 j a s h1 h2
    refine ⟨t, h3, h4, ?_⟩
    have e : (at_ ++ [b.length]).getD (j + 1) (b ++ w).length = at_.getD (j + 1) b.length := by
      simp only [List.getD_eq_getElem?_getD]
      by_cases hj2 : j + 1 < at_.length
      · rw [List.getElem?_append_left hj2, List.getElem?_eq_getElem hj2]; rfl
      · obtain hj3 : j + 1 = at_.length := by omega
        rw [hj3, List.getElem?_append_right (Nat.le_refl _), Nat.sub_self, List.getElem?_eq_none (Nat.le_refl _)]; rfl
    rw [e]
    exact h5.app
  · have hj1 : j < (at_ ++ [b.length]).length := (List.getElem?_eq_some_iff.1 h1).1
    rw [List.length_append, List.length_singleton] at hj1
    obtain rfl : j = at_.length := by omega
    rw [List.getElem?_append_right (Nat.le_refl _), Nat.sub_self] at h1
    rw [List.getElem?_append_right (by rw [h.1]; exact Nat.le_refl _), h.1, Nat.sub_self] at h2
    cases h1; cases h2
    have e : (at_ ++ [b.length]).getD (at_.length + 1) (b ++ w).length = (b ++ w).length := by
      simp only [List.getD_eq_getElem?_getD]
      rw [List.getElem?_eq_none (by simp)]; rfl
    rw [e]
    have hl := name_len hn
    rw [← rest_len] at hl
    refine ⟨restD ps, hl, ?_, hs⟩
    rcases name_rest hn with ⟨rfl, e1⟩ | ⟨h1, e1⟩
    · rw [e1]; rfl
    · rw [if_neg, e1]
      intro e2
      have e3 := rest_len ps
      rw [e2] at e3
      cases ps with
      | nil => exact h1 rfl
      | cons p ps => simp at e3; omega
/-- a name put behind what stands right stands right -/
theorem put_got {b l : List UInt8} {at_ had} {ps : List (List UInt8)} {t : List (List UInt8 × Nat)} (h : Got b at_ had) (ht : ∀ x ∈ t, Good b x) (hn : nameOf l = some ps) :
    Got (putP t b ps).2 (at_ ++ [b.length]) (had ++ [l]) ∧ (∀ x ∈ (putP t b ps).1, Good (putP t b ps).2 x) ∧ b.length ≤ (putP t b ps).2.length ∧ (putP t b ps).2.length ≤ b.length + ((wireP ps).length + 1) := by
  obtain ⟨w, h1, h2, h3, h4⟩ := put_stand ps t b b.length (name_ok hn).2 fun x hx => .inl ⟨ht x hx, (ht x hx).lt⟩
  rw [h1]
  exact ⟨h.put hn h3, fun x hx => (h4 x hx).elim (fun h5 => (ht x h5).app) id, by rw [List.length_append]; omega, by rw [List.length_append]; omega⟩
theorem Got.nil (b : List UInt8) : Got b [] [] := ⟨rfl, fun j a s h => by simp at h⟩
end Ph
