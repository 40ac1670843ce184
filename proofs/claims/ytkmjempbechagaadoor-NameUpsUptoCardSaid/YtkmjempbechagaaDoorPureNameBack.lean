/- A name comes back from its bytes: the law, in plain Lean. -/
import Derived.Test.YtkmjempbechagaaDoorPureNameGets
namespace Go.Proofs.YtkmjempbechagaaDoor.Pure
open Go.RowKit Go.Proofs.YtkmjempbechagaaDoor.X Go.Proofs.YtkmjempbechagaaDoorW.PrintWords Go.Proofs.YtkmjempbechagaaDoorW.PrintLast Go.Proofs.YtkmjempbechagaaDoorW.PrintMore
set_option linter.unusedSimpArgs false
set_option linter.unusedVariables false

def ints (p : List UInt8) : List Int := p.map fun c => (c.toNat : Int)
theorem u8_of (c : UInt8) : u8 (c.toNat : Int) = c := by unfold u8; rw [Int.toNat_natCast]; exact UInt8.ofNat_toNat
theorem ints_str (p : List UInt8) : strOfNums (ints p) = mk p := by
  rw [nums_mk, ints, List.map_map, show (u8 ∘ fun c : UInt8 => (c.toNat : Int)) = id from funext u8_of, List.map_id]
theorem let_small (c : UInt8) (h : letB c = true) : small (c.toNat : Int) = c.toNat := by
  unfold small
  rw [if_neg]
  intro ⟨h1, h2⟩
  have : ∀ n : Fin 256, letB (UInt8.ofNat n.val) = true → ¬ (65 ≤ n.val ∧ n.val ≤ 90) := by decide +kernel
  have := this ⟨c.toNat, c.toNat_lt⟩ (by rw [show UInt8.ofNat (⟨c.toNat, c.toNat_lt⟩ : Fin 256).val = c from UInt8.ofNat_toNat]; exact h)
  simp only at this
  omega
theorem readPart_ok : ∀ (p : List UInt8) (rest acc : List Int), p.all letB = true → readPart (ints p ++ rest) p.length acc = (0, acc ++ ints p) := by
  intro p
  induction p with
  | nil => intro rest acc _; cases rest <;> simp [readPart, ints]
  | cons c p ih =>
    intro rest acc h
    simp only [List.all_cons, Bool.and_eq_true] at h
    rw [show ints (c :: p) = (c.toNat : Int) :: ints p from rfl, List.cons_append, List.length_cons, readPart, let_small c h.1, u8_of, if_pos h.1, ih _ _ h.2]
    simp
theorem ints_range (p : List UInt8) : ∀ x ∈ ints p, 0 ≤ x ∧ x ≤ 255 := by
  intro x hx
  obtain ⟨c, _, rfl⟩ := List.mem_map.1 hx
  have := c.toNat_lt
  omega
theorem wireL_cons (p : List UInt8) (ps : List (List UInt8)) : wireL (p :: ps) = (p.length : Int) :: (ints p ++ wireL ps) := by rw [wireL, List.flatMap_cons]; rfl
theorem joined_cons (p : List UInt8) (ps : List (List UInt8)) : joined (p :: ps) = p ++ [46] ++ joined ps := by rw [joined, List.flatMap_cons]; rfl

theorem get_name (l : List Int) (hl : ∀ x ∈ l, 0 ≤ x ∧ x ≤ 255) (hn : l.length ≤ 10000) : ∀ (ps : List (List UInt8)) (at_ : Nat) (name : ByteArray) (before : Int) (rest : List Int) (K : Nat), (∀ p ∈ ps, okPart p = true) →
    l.drop at_ = wireL ps ++ 0 :: rest → name.size + (joined ps).length ≤ 254 → ps.length * 200 + 2 ≤ K →
    name_Get.l0 K l at_ name 0 before = some (if (name ++ mk (joined ps)).toList = [] then (⟨#[46]⟩ : ByteArray) else name ++ mk (joined ps), ((at_ + (wireL ps).length + 1 : Nat) : Int), 0) := by
  intro ps
  induction ps with
  | nil =>
    intro at_ name before rest K _ hd hs hK
    obtain ⟨k, rfl⟩ : ∃ k, K = k + 1 := ⟨K - 1, by omega⟩
    have hlt : at_ < l.length := by have := congrArg List.length hd; simp [wireL] at this; omega
    have h0 : l[at_] = 0 := by rw [List.drop_eq_getElem_cons hlt] at hd; exact (List.cons.inj hd).1
    rw [name_Get.l0, if_pos (by omega), if_pos (by omega), rd_at l at_ hlt, h0, if_pos (by decide +kernel), if_pos rfl, w_one at_ (by omega)]
    have e : name ++ mk (joined []) = name := by rw [← mk_of name, mk_app]; simp [joined]
    rw [e]
    by_cases he : name.toList = []
    · rw [if_pos he, if_pos he]; rfl
    · rw [if_neg he, if_neg he]; rfl
  | cons p ps ih =>
    intro at_ name before rest K hok hd hs hK
    rw [wireL_cons, List.cons_append] at hd
    obtain ⟨k, rfl⟩ : ∃ k, K = k + 1 := ⟨K - 1, by omega⟩
    have hlt : at_ < l.length := by have := congrArg List.length hd; simp at this; omega
    have h0 : l[at_] = (p.length : Int) := by rw [List.drop_eq_getElem_cons hlt] at hd; exact (List.cons.inj hd).1
    have hd1 : l.drop (at_ + 1) = ints p ++ (wireL ps ++ 0 :: rest) := by rw [List.drop_eq_getElem_cons hlt] at hd; rw [(List.cons.inj hd).2, List.append_assoc]
    have hp := hok p (by simp)
    simp only [okPart, Bool.and_eq_true, decide_eq_true_eq] at hp
    have hp0 : 0 < p.length := List.length_pos_iff.2 hp.1
    have hil : (ints p).length = p.length := by simp [ints]
    have hd2 : l.drop (at_ + 1 + p.length) = wireL ps ++ 0 :: rest := by
      rw [← List.drop_drop, hd1, ← hil, List.drop_left]
    have hroom : at_ + 1 + p.length < l.length := by
      have := congrArg List.length hd2; simp at this; omega
    rw [joined_cons] at hs ⊢
    simp only [List.length_append, List.length_singleton] at hs
    have hpf := part_f (k - (2 * p.length + 1)) (l.drop (at_ + 1)) (fun x hx => hl x (List.mem_of_mem_drop hx)) (by simp; omega) p.length (by omega)
    have hk : ps.length * 200 + 200 + 1 ≤ k := by rw [List.length_cons] at hK; omega
    rw [show k - (2 * p.length + 1) + 2 * p.length + 1 = k from by omega, hd1, readPart_ok p _ [] hp.2.2, List.nil_append, ints_str] at hpf
    have h1 : (⟨#[46]⟩ : ByteArray).size = 1 := rfl
    have hsz : (name ++ (mk p ++ (⟨#[46]⟩ : ByteArray))).size = name.size + (p.length + 1)   := by rw [app_size, app_size, mk_size, h1]
    rw [name_Get.l0, if_pos (by omega), if_pos (by omega), rd_at l at_ hlt, h0, w_nat p.length (by omega), if_neg (by omega), if_neg (by omega), if_neg (by omega), w_one at_ (by omega), if_pos (by omega), if_pos (by omega), Int.toNat_natCast, hd1, hpf, Option.bind_some]
    dsimp only
    rw [if_pos rfl, if_pos (by rw [mk_size]; omega), if_pos (by rw [app_size, mk_size]; omega), hsz, if_neg (by omega), w_next at_ p.length (by omega) (by omega)]
    rw [ih (at_ + 1 + p.length) _ at_ rest k (fun q hq => hok q (by simp [hq])) hd2 (by rw [hsz]; omega) (by omega)]
    have e : name ++ (mk p ++ (⟨#[46]⟩ : ByteArray)) ++ mk (joined ps) = name ++ mk (p ++ [46] ++ joined ps) := by
      rw [← mk_of name, show (⟨#[46]⟩ : ByteArray) = mk [46] from rfl, mk_app, mk_app, mk_app, mk_app]; simp
    rw [e, wireL_cons]
    have e2 : at_ + 1 + p.length + (wireL ps).length + 1 = at_ + ((p.length : Int) :: (ints p ++ wireL ps)).length + 1 := by simp [hil]; omega
    rw [e2]

theorem back_l0 (x0 : ByteArray) (x1 x7 : List Int) (x10 : ByteArray) (x11 : Int) (xs : List (List UInt8)) (hx : (joined xs).length < 1000000) : ∀ (m k i : Nat), i + m = xs.length → xs.length < 100000 →
    rhynelaw17_NameBack.l0 (k + m + 1) x0 x1 x7 0 x10 x11 (xs.map mk) 0 (mk (joined (xs.take i))) i =
      some (decide (x10.toList = x0.toList) && (decide (x11 = wrap64 ((x1.length : Int) + (x7.length : Int))) && (if xs = [] then ([46] : List UInt8) else joined xs) == x0.toList)) := by
  intro m
  induction m with
  | zero =>
    intro k i hi hn
    rw [rhynelaw17_NameBack.l0, List.length_map, if_neg (by omega)]
    have hi' : xs.take i = xs := List.take_of_length_le (by omega)
    rw [hi', mk_list]
    by_cases h0 : xs = []
    · subst h0
      rw [if_pos (show (([] : List (List UInt8)).length : Int) = 0 from rfl), if_pos (show (0 : Int) = 0 from rfl), if_pos (show (0 : Int) = 0 from rfl), if_pos (show ([] : List (List UInt8)) = [] from rfl)]
      by_cases h1 : x10.toList = x0.toList
      · rw [if_pos h1, decide_eq_true h1, Bool.true_and]
        by_cases h2 : x11 = wrap64 ((x1.length : Int) + (x7.length : Int))
        · rw [if_pos h2, decide_eq_true h2, Bool.true_and]
        · rw [if_neg h2, decide_eq_false h2, Bool.false_and]
      · rw [if_neg h1, decide_eq_false h1, Bool.false_and]
    · have hl : ¬ ((xs.length : Int) = 0) := fun e => h0 (List.length_eq_zero_iff.1 (by omega))
      rw [if_neg hl, if_pos (show (0 : Int) = 0 from rfl), if_pos (show (0 : Int) = 0 from rfl), if_neg h0]
      by_cases h1 : x10.toList = x0.toList
      · rw [if_pos h1, decide_eq_true h1, Bool.true_and]
        by_cases h2 : x11 = wrap64 ((x1.length : Int) + (x7.length : Int))
        · rw [if_pos h2, decide_eq_true h2, Bool.true_and]
        · rw [if_neg h2, decide_eq_false h2, Bool.false_and]
      · rw [if_neg h1, decide_eq_false h1, Bool.false_and]
  | succ m ih =>
    intro k i hi hn
    have hix : i < xs.length := by omega
    have ht : xs.take (i + 1) = xs.take i ++ [xs[i]] := by rw [List.take_add_one, List.getElem?_eq_getElem hix]; rfl
    have hj : joined (xs.take (i + 1)) = joined (xs.take i) ++ xs[i] ++ [46] := by rw [ht, joined, List.flatMap_append]; simp [joined]
    have hjl : (joined xs).length = (joined (xs.take (i + 1))).length + (joined (xs.drop (i + 1))).length := by
      rw [← List.length_append, joined, joined, joined, ← List.flatMap_append, List.take_append_drop]
    have hjl2 := congrArg List.length hj
    simp only [List.length_append, List.length_singleton] at hjl2
    have h1 : (⟨#[46]⟩ : ByteArray) = mk [46] := rfl
    rw [← Nat.add_assoc, rhynelaw17_NameBack.l0, List.length_map, if_pos (by omega), if_pos (by omega), rdOf_map xs i hix, mk_size, mk_size, if_pos (by omega), mk_app, mk_size, List.length_append, if_pos (by omega), h1, mk_app, ← hj,
      show wrap64 ((i : Int) + 1) = ((i + 1 : Nat) : Int) from w_one i (by omega)]
    exact ih k (i + 1) (by omega) hn

theorem NameBack : ∀ (a0 : ByteArray) (l1 : List Int) (l2 : List Int), a0.size ≤ maxLen → (l1.length ≤ maxLen ∧ ∀ x ∈ l1, (Lit.int .u8 x).wf = true) → (l2.length ≤ maxLen ∧ ∀ x ∈ l2, (Lit.int .u8 x).wf = true) → ∃ k, rhynelaw17_NameBack.f k a0 l1 l2 = some true := by
  intro a l1 l2 ha hw1 hw2
  refine ⟨99999 + 1, ?_⟩
  have hb1 := bytes_wf l1 hw1.2
  have hb2 := bytes_wf l2 hw2.2
  have hno : rhynelaw17_NameBack.j0 (99999 + 1) a l1 l2 true = some true := by rw [rhynelaw17_NameBack.j0, if_pos rfl, named' _ (by decide)]; rfl
  unfold rhynelaw17_NameBack.f
  by_cases c1 : (a.size : Int) > 3000
  · rw [if_pos c1]; exact hno
  rw [if_neg c1]
  by_cases c2 : (l1.length : Int) > 2000
  · rw [if_pos c2]; exact hno
  rw [if_neg c2]
  by_cases c3 : (l2.length : Int) > 2000
  · rw [decide_eq_true c3]; exact hno
  have hwire := wire (99999 - 300) a (by omega)
  rw [show 99999 - 300 + 300 = 99999 from rfl] at hwire
  rw [decide_eq_false c3, rhynelaw17_NameBack.j0, if_neg (by decide), hwire, Option.bind_some, named' _ (by decide), Option.bind_some, if_pos rfl]
  cases hx : nameOf a.data.toList with
  | none =>
    dsimp only
    rw [show (99999 : Nat) = 99998 + 1 from rfl, rhynelaw17_NameBack.j1, if_pos (by decide), named' _ (by decide), Option.bind_some, if_pos rfl, if_pos rfl, right _ a (by omega) (by omega), hx]
    rfl
  | some ps =>
    dsimp only
    have hpsl := name_bound _ _ hx
    have hlab := labels (99998 - 300) a (by omega)
    rw [show 99998 - 300 + 300 = 99998 from rfl, hx, out_some] at hlab
    have hok : ∀ p ∈ ps, okPart p = true := by
      rcases nameOf_some _ _ hx with ⟨h, _⟩ | ⟨_, _, _, _, h⟩
      · subst h; simp
      · exact h
    have hj : (joined ps).length ≤ 254 ∧ (if ps = [] then ([46] : List UInt8) else joined ps) = a.data.toList ∧ (joined ps = [] ↔ ps = []) := by
      rcases nameOf_some _ _ hx with ⟨h, h2⟩ | ⟨h, h2, h3, h4, _⟩
      · subst h; exact ⟨by decide, by rw [if_pos rfl, h2], by simp [joined]⟩
      · refine ⟨by rw [← h2]; exact h3, by rw [if_neg h, h2], ⟨fun e => ?_, fun e => absurd e h⟩⟩
        obtain ⟨p, q, rfl⟩ : ∃ p q, ps = p :: q := by cases ps with | nil => exact absurd rfl h | cons p q => exact ⟨p, q, rfl⟩
        rw [joined_cons] at e; simp at e
    have hwl : (wireL ps).length = (joined ps).length := wireL_length ps
    rw [show (99999 : Nat) = 99998 + 1 from rfl, rhynelaw17_NameBack.j1, if_neg (by decide), Option.bind_some, List.nil_append, if_pos (by simp; omega), Option.bind_some, if_pos (by simp; omega), Option.bind_some, if_pos (by simp; omega)]
    have hlen : (l1 ++ (wireL ps ++ [0]) ++ l2).length ≤ 10000 := by simp; omega
    have hrange : ∀ x ∈ l1 ++ (wireL ps ++ [0]) ++ l2, 0 ≤ x ∧ x ≤ 255 := by
      intro x hx'
      rcases List.mem_append.1 hx' with h | h
      · rcases List.mem_append.1 h with h | h
        · exact hb1 x h
        · rcases List.mem_append.1 h with h | h
          · obtain ⟨p, hp, hxp⟩ := List.mem_flatMap.1 h
            have := hok p hp
            simp only [okPart, Bool.and_eq_true, decide_eq_true_eq] at this
            rcases List.mem_cons.1 hxp with h | h
            · omega
            · exact ints_range p x h
          · simp at h; omega
      · exact hb2 x h
    have hget : name_Get.f 99998 (l1 ++ (wireL ps ++ [0]) ++ l2) (l1.length : Int) = some (a, ((l1.length + (wireL ps).length + 1 : Nat) : Int), 0) := by
      unfold name_Get.f
      rw [if_neg (by omega), decide_eq_false (by simp; omega), show (99998 : Nat) = 99997 + 1 from rfl, name_Get.j0, if_neg (by decide)]
      rw [get_name _ hrange hlen ps l1.length ⟨#[]⟩ _ l2 99997 hok (by simp) (by show 0 + _ ≤ 254; omega) (by omega)]
      have e : (⟨#[]⟩ : ByteArray) ++ mk (joined ps) = mk (joined ps) := by rw [show (⟨#[]⟩ : ByteArray) = mk [] from rfl, mk_app]; rfl
      rw [e, mk_list]
      have : (if joined ps = [] then (⟨#[46]⟩ : ByteArray) else mk (joined ps)) = a := by
        by_cases h : ps = []
        · rw [if_pos (hj.2.2.2 h)]
          have := hj.2.1
          rw [if_pos h] at this
          rw [← mk_of a, ← this]; rfl
        · rw [if_neg (fun e => h (hj.2.2.1 e))]
          have := hj.2.1
          rw [if_neg h] at this
          rw [this, mk_of]
      rw [this]
    rw [hget, Option.bind_some, hlab, Option.bind_some]
    dsimp only
    have hb := back_l0 a l1 (wireL ps ++ [0]) a ((l1.length + (wireL ps).length + 1 : Nat) : Int) ps (by omega) ps.length (99997 - ps.length) 0 (by omega) (by omega)
    rw [show 99997 - ps.length + ps.length + 1 = 99998 from by omega, show ((0 : Nat) : Int) = 0 from rfl, show mk (joined (ps.take 0)) = (⟨#[]⟩ : ByteArray) from rfl] at hb
    rw [hb, hj.2.1, ByteArray.toList_eq]
    have hw : wrap64 ((l1.length : Int) + ((wireL ps ++ [0]).length : Int)) = ((l1.length + (wireL ps).length + 1 : Nat) : Int) := by
      rw [w64 _ (by omega) (by simp; omega)]; simp; omega
    rw [hw]
    simp
end Go.Proofs.YtkmjempbechagaaDoor.Pure
