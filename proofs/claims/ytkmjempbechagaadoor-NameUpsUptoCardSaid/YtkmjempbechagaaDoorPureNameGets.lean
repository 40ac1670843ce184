/- Get: the law, in plain Lean. -/
import Derived.Test.YtkmjempbechagaaDoorM5
import Derived.Test.YtkmjempbechagaaDoorPureNameOrders
namespace Go.Proofs.YtkmjempbechagaaDoor.Pure
open Go.RowKit Go.Proofs.YtkmjempbechagaaDoor.X Go.Proofs.YtkmjempbechagaaDoorW.PrintWords Go.Proofs.YtkmjempbechagaaDoorW.PrintLast Go.Proofs.YtkmjempbechagaaDoorW.PrintMore
set_option linter.unusedSimpArgs false
set_option linter.unusedVariables false

theorem andnot (n : Int) (h0 : 192 ≤ n) (h1 : n ≤ 255) : Go.bits .andNot .i64 n 192 = n - 192 := by
  have : ∀ m : Fin 64, Go.bits .andNot .i64 (192 + (m.val : Int)) 192 = (m.val : Int) := by decide +kernel
  have h := this ⟨(n - 192).toNat, by omega⟩
  simp only at h
  rw [show (192 : Int) + ((n - 192).toNat : Int) = n from by omega] at h
  rw [h]; omega
theorem wrap_i64 (n : Int) (h0 : 0 ≤ n) (h1 : n < 2 ^ 63) : IntKind.i64.wrap n = n := by rw [IntKind.wrap_i64]; omega
theorem place (n b : Int) (h0 : 192 ≤ n) (h1 : n ≤ 255) (h2 : 0 ≤ b) (h3 : b ≤ 255) : Go.bits .or .i64 (wrap64 ((Go.bits .andNot .i64 n 192) * 256)) b = (n - 192) * 256 + b := by
  rw [andnot n h0 h1, w64 _ (by omega) (by omega)]
  exact bits_join .i64 63 (by decide +kernel) wrap_i64 8 _ _ (by omega) (by omega) (by omega) h2 (by omega) (by omega)
theorem emp_nums : (⟨#[]⟩ : ByteArray) = strOfNums [] := rfl
theorem app_assoc (a b c : ByteArray) : (a ++ b) ++ c = a ++ (b ++ c) := by
  rw [← mk_of a, ← mk_of b, ← mk_of c, mk_app, mk_app, mk_app, mk_app, List.append_assoc]
theorem app_size (a b : ByteArray) : (a ++ b).size = a.size + b.size := ByteArray.size_append

theorem w_one (n : Nat) (h : n < 1000000) : wrap64 ((n : Int) + 1) = ((n + 1 : Nat) : Int) := by rw [w64 _ (by omega) (by omega)]; omega
theorem w_two (n : Nat) (h : n < 1000000) : wrap64 ((n : Int) + 2) = ((n + 2 : Nat) : Int) := by rw [w64 _ (by omega) (by omega)]; omega
theorem w_nat (n : Nat) (h : n < 1000000) : wrap64 (n : Int) = (n : Int) := w64 _ (by omega) (by omega)
theorem w_to (n b : Nat) (h1 : 192 ≤ n) (h2 : n ≤ 255) (h3 : b ≤ 255) : wrap64 (wrap64 (wrap64 ((n : Int) - 192) * 256) + b) = (((n - 192) * 256 + b : Nat) : Int) := by
  rw [show wrap64 ((n : Int) - 192) = (n : Int) - 192 from w64 _ (by omega) (by omega), show wrap64 (((n : Int) - 192) * 256) = ((n : Int) - 192) * 256 from w64 _ (by omega) (by omega), w64 _ (by omega) (by omega)]
  omega
theorem w_to2 (n b : Nat) (h1 : 192 ≤ n) (h2 : n ≤ 255) (h3 : b ≤ 255) : Go.bits .or .i64 (wrap64 ((Go.bits .andNot .i64 (n : Int) 192) * 256)) b = (((n - 192) * 256 + b : Nat) : Int) := by
  rw [place _ _ (by omega) (by omega) (by omega) (by omega)]; omega
theorem w_next (a n : Nat) (h1 : a < 1000000) (h2 : n < 1000) : wrap64 ((a : Int) + wrap64 (1 + (n : Int))) = ((a + 1 + n : Nat) : Int) := by
  rw [show wrap64 (1 + (n : Int)) = 1 + (n : Int) from w64 _ (by omega) (by omega), w64 _ (by omega) (by omega)]; omega

theorem get_l0 (l : List Int) (hl : ∀ x ∈ l, 0 ≤ x ∧ x ≤ 255) (hn : l.length ≤ 10000) : ∀ (M : Nat) (u at_ before : Nat) (name : ByteArray) (d g : Int) (K1 K2 : Nat),
    u * 200 * 100 + before ≤ M → name.size + u = 300 → name.size ≤ 254 → M + 600 ≤ K1 → M + 600 ≤ K2 → at_ ≤ 20000 → before ≤ 10000 → (d = -1 ∧ g = 0) ∨ (d = g ∧ 0 < g) →
    ∃ r, rhyneref17_DocGet.l0 K1 (strOfNums l) at_ name d before = some r ∧ name_Get.l0 K2 l at_ name g before = some r := by
  intro M
  induction M using Nat.strongRecOn with
  | _ M ih =>
    intro u at_ before name d g K1 K2 hM hu hs hK1 hK2 hat hbef hdg
    obtain ⟨k1, rfl⟩ : ∃ k, K1 = k + 1 := ⟨K1 - 1, by omega⟩
    obtain ⟨k2, rfl⟩ : ∃ k, K2 = k + 1 := ⟨K2 - 1, by omega⟩
    rw [rhyneref17_DocGet.l0, name_Get.l0, nums_size]
    by_cases hlt : at_ < l.length
    · have hc := hl _ (List.getElem_mem hlt)
      obtain ⟨n, hn'⟩ : ∃ n : Nat, l[at_] = (n : Int) := ⟨l[at_].toNat, by omega⟩
      have q1 : (at_ : Int) < (l.length : Int) := by omega
      have q2 : (0 : Int) ≤ (at_ : Int) := by omega
      rw [if_neg (show ¬ (at_ : Int) ≥ (l.length : Int) from by omega), if_pos q2, if_pos q1, if_pos q1, if_pos q2, nums_bt l hl, nums_bt l hl, rd_at l at_ hlt, hn', w_one at_ (by omega), w_two at_ (by omega)]
      rw [hn'] at hc
      rw [w_nat n (by omega)]
      by_cases hz : n = 0
      · have q : (n : Int) = 0 := by omega
        rw [if_pos q, if_pos q]
        rcases hdg with ⟨e1, e2⟩ | ⟨e1, hg⟩
        · subst e1; subst e2
          rw [if_pos (show (-1 : Int) < 0 from by decide), if_pos (show (0 : Int) = 0 from rfl)]
          by_cases he : name.toList = []
          · rw [if_pos he]; exact ⟨_, rfl, rfl⟩
          · rw [if_neg he]; exact ⟨_, rfl, rfl⟩
        · subst e1
          rw [if_neg (show ¬ d < 0 from by omega), if_neg (show ¬ d = 0 from by omega)]
          by_cases he : name.toList = []
          · rw [if_pos he]; exact ⟨_, rfl, rfl⟩
          · rw [if_neg he]; exact ⟨_, rfl, rfl⟩
      have q3 : ¬ (n : Int) = 0 := by omega
      rw [if_neg q3, if_neg q3]
      by_cases h192 : (n : Int) ≥ 192
      · rw [if_pos h192, if_pos h192]
        by_cases hend : at_ + 1 < l.length
        · have hb := hl _ (List.getElem_mem hend)
          obtain ⟨b, hb'⟩ : ∃ b : Nat, l[at_ + 1] = (b : Int) := ⟨l[at_ + 1].toNat, by omega⟩
          rw [hb'] at hb
          have q4 : (0 : Int) ≤ ((at_ + 1 : Nat) : Int) := by omega
          have q5 : ((at_ + 1 : Nat) : Int) < (l.length : Int) := by omega
          rw [if_neg (show ¬ ((at_ + 1 : Nat) : Int) ≥ (l.length : Int) from by omega), if_pos q4, if_pos q5, if_neg (show ¬ ((at_ + 1 : Nat) : Int) = (l.length : Int) from by omega), if_pos q4, if_pos q5, rd_at l _ hend, hb']
          rw [w_nat b (by omega), w_to n b (by omega) (by omega) (by omega), w_to2 n b (by omega) (by omega) (by omega)]
          have hto : (n - 192) * 256 + b ≤ 20000 := by omega
          generalize (n - 192) * 256 + b = to_ at hto ⊢
          by_cases hge : ((to_ : Nat) : Int) ≥ (before : Int)
          · rcases hdg with ⟨e1, e2⟩ | ⟨e1, hg⟩
            · subst e1; subst e2
              rw [if_pos (show (-1 : Int) < 0 from by decide), if_pos (show (0 : Int) = 0 from rfl), if_pos hge, if_pos hge]; exact ⟨_, rfl, rfl⟩
            · subst e1
              rw [if_neg (show ¬ d < 0 from by omega), if_neg (show ¬ d = 0 from by omega), if_pos hge, if_pos hge]; exact ⟨_, rfl, rfl⟩
          · rcases hdg with ⟨e1, e2⟩ | ⟨e1, hg⟩
            · subst e1; subst e2
              rw [if_pos (show (-1 : Int) < 0 from by decide), if_pos (show (0 : Int) = 0 from rfl), if_neg hge, if_neg hge]
              exact ih (u * 200 * 100 + to_) (by omega) u to_ to_ name _ _ k1 k2 (Nat.le_refl _) hu hs (by omega) (by omega) (by omega) (by omega) (.inr ⟨rfl, by omega⟩)
            · subst e1
              rw [if_neg (show ¬ d < 0 from by omega), if_neg (show ¬ d = 0 from by omega), if_neg hge, if_neg hge]
              exact ih (u * 200 * 100 + to_) (by omega) u to_ to_ name _ _ k1 k2 (Nat.le_refl _) hu hs (by omega) (by omega) (by omega) (by omega) (.inr ⟨rfl, hg⟩)
        · rw [if_pos (show ((at_ + 1 : Nat) : Int) ≥ (l.length : Int) from by omega), if_pos (show ((at_ + 1 : Nat) : Int) = (l.length : Int) from by omega)]; exact ⟨_, rfl, rfl⟩
      · rw [if_neg h192, if_neg h192]
        by_cases h63 : (n : Int) > 63
        · rw [if_pos h63, if_pos h63]; exact ⟨_, rfl, rfl⟩
        rw [if_neg h63, if_neg h63, if_pos (show (0 : Int) ≤ ((at_ + 1 : Nat) : Int) from by omega), if_pos (show ((at_ + 1 : Nat) : Int) ≤ (l.length : Int) from by omega), Int.toNat_natCast]
        have hd := docpart l hl (by omega) at_ hlt name d n (by omega) n (k1 - (2 * n + 1)) 1 [] (l.drop (at_ + 1)) rfl (by omega) (by simp)
        rw [show k1 - (2 * n + 1) + 2 * n + 1 = k1 from by omega, ← emp_nums, show ((1 : Nat) : Int) = 1 from rfl] at hd
        have hp := part_f (k2 - (2 * n + 1)) (l.drop (at_ + 1)) (fun x hx => hl x (List.mem_of_mem_drop hx)) (by simp; omega) n (by omega)
        rw [show k2 - (2 * n + 1) + 2 * n + 1 = k2 from by omega] at hp
        rw [hd, hp, Option.bind_some]
        clear hd hp
        dsimp only
        by_cases he : (readPart (l.drop (at_ + 1)) n []).1 = 0
        · obtain ⟨hlen, hroom⟩ := readPart_len _ _ _ he
          rw [if_pos he, if_pos he]
          simp only [List.length_nil, Nat.zero_add, List.length_drop] at hlen hroom
          revert hlen
          generalize (readPart (l.drop (at_ + 1)) n []).2 = p
          intro hlen
          have hps : (strOfNums p).size = n := by rw [nums_size, hlen]
          have h1 : (⟨#[46]⟩ : ByteArray).size = 1 := rfl
          have a1 : name.size + p.length ≤ 9223372036854775807 := by omega
          have a2 : (name ++ strOfNums p).size + 1 ≤ 9223372036854775807 := by rw [app_size]; omega
          have a3 : (strOfNums p).size + 1 ≤ 9223372036854775807 := by omega
          have a4 : name.size + (strOfNums p ++ (⟨#[46]⟩ : ByteArray)).size ≤ 9223372036854775807 := by rw [app_size]; omega
          have hsz : (name ++ (strOfNums p ++ (⟨#[46]⟩ : ByteArray))).size = name.size + (n + 1) := by rw [app_size, app_size]; omega
          rw [if_pos a1, if_pos a2, if_pos a3, if_pos a4, app_assoc, hsz]
          by_cases h254 : ((name.size + (n + 1) : Nat) : Int) > 254
          · rw [if_pos h254, if_pos h254]; exact ⟨_, rfl, rfl⟩
          · rw [if_neg h254, if_neg h254]
            rw [w_next at_ n (by omega) (by omega)]
            exact ih ((u - (n + 1)) * 200 * 100 + at_) (by omega) (u - (n + 1)) (at_ + 1 + n) at_ _ _ _ _ _ (Nat.le_refl _) (by omega) (by omega) (by omega) (by omega) (by omega) (by omega) hdg
        · rw [if_neg he, if_neg he]; exact ⟨_, rfl, rfl⟩
    · rw [if_pos (show (at_ : Int) ≥ (l.length : Int) from by omega), if_neg (show ¬ (at_ : Int) < (l.length : Int) from by omega)]; exact ⟨_, rfl, rfl⟩

theorem bytes_wf (l : List Int) (h : ∀ x ∈ l, (Lit.int .u8 x).wf = true) : ∀ x ∈ l, 0 ≤ x ∧ x ≤ 255 := fun x hx => by
  have := h x hx
  simp only [Lit.wf, IntKind.min, IntKind.max, IntKind.signed, IntKind.bits, Bool.and_eq_true, decide_eq_true_eq] at this
  simpa using this
theorem get_eq (l : List Int) (hl : ∀ x ∈ l, 0 ≤ x ∧ x ≤ 255) (hn : l.length ≤ 10000) (a1 : Int) (K1 K2 : Nat) (h1 : 6020000 ≤ K1) (h2 : 6020000 ≤ K2) :
    ∃ r, rhyneref17_DocGet.f K1 (strOfNums l) a1 = some r ∧ name_Get.f K2 l a1 = some r := by
  obtain ⟨k1, rfl⟩ : ∃ k, K1 = k + 1 := ⟨K1 - 1, by omega⟩
  obtain ⟨k2, rfl⟩ : ∃ k, K2 = k + 1 := ⟨K2 - 1, by omega⟩
  unfold rhyneref17_DocGet.f name_Get.f
  rw [nums_size]
  by_cases hneg : a1 < 0
  · rw [if_pos hneg, if_pos hneg, rhyneref17_DocGet.j0, name_Get.j0, if_pos rfl, if_pos rfl]; exact ⟨_, rfl, rfl⟩
  rw [if_neg hneg, if_neg hneg, rhyneref17_DocGet.j0, name_Get.j0]
  by_cases hgt : a1 > (l.length : Int)
  · rw [decide_eq_true hgt, if_pos rfl, if_pos rfl]; exact ⟨_, rfl, rfl⟩
  · rw [decide_eq_false hgt, if_neg (by decide), if_neg (by decide)]
    obtain ⟨n, rfl⟩ : ∃ n : Nat, a1 = (n : Int) := ⟨a1.toNat, by omega⟩
    have h0 : (⟨#[]⟩ : ByteArray).size = 0 := rfl
    have e1 : 300 * 200 * 100 + 10000 + 600 ≤ k1 := Nat.le_trans (by decide +kernel : 300 * 200 * 100 + 10000 + 600 ≤ 6019999) (Nat.le_of_succ_le_succ h1)
    have e2 : 300 * 200 * 100 + 10000 + 600 ≤ k2 := Nat.le_trans (by decide +kernel : 300 * 200 * 100 + 10000 + 600 ≤ 6019999) (Nat.le_of_succ_le_succ h2)
    have hn' : n ≤ 10000 := by omega
    clear h1 h2
    exact get_l0 l hl hn (300 * 200 * 100 + 10000) 300 n n ⟨#[]⟩ (-1) 0 k1 k2 (Nat.add_le_add_left hn' _) (by rw [h0]) (by rw [h0]; decide) e1 e2 (Nat.le_trans hn' (by decide +kernel)) hn' (.inl ⟨rfl, rfl⟩)

theorem NameGets : ∀ (l0 : List Int) (a1 : Int), (l0.length ≤ maxLen ∧ ∀ x ∈ l0, (Lit.int .u8 x).wf = true) → (Lit.int .i64 a1).wf = true → ∃ k, rhynelaw17_NameGets.f k l0 a1 = some true := by
  intro l a1 hl ha
  refine ⟨6020000, ?_⟩
  unfold rhynelaw17_NameGets.f
  by_cases h : (l.length : Int) > 3000
  · rw [if_pos h, named' _ (by decide)]; rfl
  · rw [if_neg h]
    obtain ⟨r, h1, h2⟩ := get_eq l (bytes_wf l hl.2) (by omega) a1 6020000 6020000 (Nat.le_refl _) (Nat.le_refl _)
    rw [h1, h2, Option.bind_some, Option.bind_some, named' _ (by decide), Option.bind_some, if_pos rfl, if_pos rfl, if_pos rfl]
    simp
end Go.Proofs.YtkmjempbechagaaDoor.Pure
