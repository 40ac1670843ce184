import Derived.Test.YthagjeomcgphiaaDoorN14
import Derived.Test.YthagjeomcgphiaaDoorN18
set_option maxRecDepth 100000
set_option maxHeartbeats 4000000
set_option linter.unusedSimpArgs false
set_option linter.unusedVariables false
/- What is put is got: plain. -/
namespace Ph
open Go Go.Proofs
theorem lowS4 {n : Nat} (h : n < 4294967296) : numW (lowS n 4) = n := by
  have e : lowS n 4 = [UInt8.ofNat (n / 256 ^ 3), UInt8.ofNat (n / 256 ^ 2), UInt8.ofNat (n / 256 ^ 1), UInt8.ofNat (n / 256 ^ 0)] := rfl
  rw [e]
  have t : ∀ m, ((UInt8.ofNat m).toNat : Int) = ((m % 256 : Nat) : Int) := fun m => by rw [UInt8.toNat_ofNat']
  have p : (2 : Int) ^ min 8 64 = 256 := by decide
  simp only [numW, List.foldl_cons, List.foldl_nil, stepW, t, p]
  have h3 : n / 256 ^ 3 < 256 := by omega
  generalize ha : n / 256 ^ 3 % 256 = a
  generalize hb : n / 256 ^ 2 % 256 = b
  generalize hc : n / 256 ^ 1 % 256 = c
  generalize hd : n / 256 ^ 0 % 256 = d
  have q : a < 256 ∧ b < 256 ∧ c < 256 ∧ d < 256 := by omega
  have s : ((a * 256 + b) * 256 + c) * 256 + d = n := by omega
  rw [i64wrap (x := 0 * 256) (by omega) (by omega), i64wrap (x := 0 * 256 + (a : Int)) (by omega) (by omega), i64wrap (x := (0 * 256 + (a : Int)) * 256) (by omega) (by omega),
    i64wrap (x := (0 * 256 + (a : Int)) * 256 + (b : Int)) (by omega) (by omega), i64wrap (x := ((0 * 256 + (a : Int)) * 256 + (b : Int)) * 256) (by omega) (by omega),
    i64wrap (x := ((0 * 256 + (a : Int)) * 256 + (b : Int)) * 256 + (c : Int)) (by omega) (by omega), i64wrap (x := (((0 * 256 + (a : Int)) * 256 + (b : Int)) * 256 + (c : Int)) * 256) (by omega) (by omega), i64wrap (by omega) (by omega)]
  omega
theorem nameS_put (d X : List UInt8) (h : d.length ≤ 20) : nameS ((UInt8.ofNat d.length :: d) ++ X) = (d, X, 0) := by
  have e : (UInt8.ofNat d.length).toNat = d.length := by rw [UInt8.toNat_ofNat']; omega
  simp only [List.cons_append, nameS, e]
  rw [if_neg (by omega), if_neg (by simp)]
  simp
theorem lowS_getD (n : Nat) : ∀ (k i : Nat), i < k → (lowS n k).getD i 0 = UInt8.ofNat (n / 256 ^ (k - 1 - i))
  | 0, _, h => by omega
  | k + 1, 0, _ => by simp [lowS]
  | k + 1, i + 1, h => by
    rw [lowS, List.getD_cons_succ, lowS_getD n k i (by omega)]
    congr 2; congr 1; omega
theorem low_fold (n : Nat) : ∀ (k m : Nat), (lowS n k).foldl (fun n b => n * 256 + b.toNat) m = m * 256 ^ k + n % 256 ^ k
  | 0, m => by simp [lowS, Nat.mod_one]
  | k + 1, m => by
    rw [lowS, List.foldl_cons, low_fold n k, UInt8.toNat_ofNat', show 2 ^ 8 = 256 from rfl, Nat.pow_succ, Nat.mod_mul (x := n) (a := 256 ^ k) (b := 256)]
    generalize n / 256 ^ k % 256 = a
    generalize n % 256 ^ k = b
    generalize 256 ^ k = p
    rw [Nat.add_mul, Nat.mul_assoc, Nat.mul_comm 256 p, Nat.mul_comm a p]
    omega
theorem vget_put {n sz : Nat} (hs : okSz sz) (hn : n < top sz) (X : List UInt8) : vget (vputS n sz ++ X) = (n, sz, 0) := by
  have hl : (vputS n sz).length = sz := vputS_len n sz
  have hpos : 0 < sz := by rcases hs with rfl | rfl | rfl | rfl <;> decide
  have h0 : ((vputS n sz ++ X).getD 0 0).toNat = lg sz * 64 + n / 256 ^ (sz - 1) := by
    have : (vputS n sz ++ X).getD 0 0 = (vputS n sz).getD 0 0 := by
      rw [List.getD_eq_getElem?_getD, List.getElem?_append_left (by omega), ← List.getD_eq_getElem?_getD]
    rw [this, vputS, lowS_getD _ _ _ hpos, UInt8.toNat_ofNat']
    rcases hs with rfl | rfl | rfl | rfl <;> simp only [top, lg] at hn ⊢ <;> simp at hn ⊢ <;> omega
  have hq : n / 256 ^ (sz - 1) < 64 := by
    rcases hs with rfl | rfl | rfl | rfl <;> simp only [top] at hn ⊢ <;> simp at hn ⊢ <;> omega
  have hv : vsize (vputS n sz ++ X) = sz := by
    unfold vsize
    rw [h0, show (lg sz * 64 + n / 256 ^ (sz - 1)) / 64 = lg sz from by generalize n / 256 ^ (sz - 1) = q at hq; omega]
    rcases hs with rfl | rfl | rfl | rfl <;> rfl
  unfold vget
  rw [hv, if_neg (by rw [List.length_append]; omega)]
  have hm : vnum (vputS n sz ++ X) sz = n := by
    unfold vnum
    rw [List.take_append_of_le_length (by omega), List.take_of_length_le (by omega), h0, show (lg sz * 64 + n / 256 ^ (sz - 1)) % 64 = n / 256 ^ (sz - 1) from by generalize n / 256 ^ (sz - 1) = q at hq; omega]
    obtain ⟨k, rfl⟩ : ∃ k, sz = k + 1 := ⟨sz - 1, by omega⟩
    rw [vputS, lowS, List.drop_succ_cons, List.drop_zero, low_fold]
    simp only [Nat.add_sub_cancel]
    have hd : (n + lg (k + 1) * top (k + 1)) % 256 ^ k = n % 256 ^ k := by
      rw [top, Nat.add_sub_cancel, ← Nat.mul_assoc, Nat.add_mul_mod_self_right]
    rw [hd, Nat.mul_comm]
    exact Nat.div_add_mod _ _
  rw [hm]
theorem foursW_put : ∀ (l : List Int), (∀ x ∈ l, isW x = true) → foursW l.length (l.flatMap fun x => lowS x.toNat 4) = l
  | [], _ => rfl
  | x :: l, h => by
    have hx : 0 ≤ x ∧ x ≤ 4294967295 := by simpa [isW] using h x (by simp)
    rw [List.length_cons, foursW, List.flatMap_cons, List.take_append_of_le_length (by rw [lowS_len]; exact Nat.le_refl _), List.take_of_length_le (by rw [lowS_len]; exact Nat.le_refl _), List.drop_append, lowS_len, Nat.sub_self, List.drop_zero, List.drop_of_length_le (by rw [lowS_len]; exact Nat.le_refl _), List.nil_append,
      foursW_put l (fun y hy => h y (by simp [hy])), lowS4 (by omega)]
    congr 1; omega
theorem doc_long (b : UInt8) (V : Nat) (d s Y : List UInt8) (hb : 192 ≤ b.toNat) (hV : V < 4294967296) (hd : d.length ≤ 20) (hs : s.length ≤ 20) :
    docL b (nmS V d s ++ Y) = docR (kind b) ((nmS V d s ++ Y).length + 1) (decide (V = 0)) V d s Y := by
  have e : nmS V d s ++ Y = lowS V 4 ++ ((UInt8.ofNat d.length :: d) ++ ((UInt8.ofNat s.length :: s) ++ Y)) := by simp [nmS]
  have hl : 4 ≤ (nmS V d s ++ Y).length := by rw [e, List.length_append, lowS_len]; omega
  have ht : (nmS V d s ++ Y).take 4 = lowS V 4 := by rw [e, List.take_append_of_le_length (by rw [lowS_len]; exact Nat.le_refl _), List.take_of_length_le (by rw [lowS_len]; exact Nat.le_refl _)]
  have hdr : (nmS V d s ++ Y).drop 4 = (UInt8.ofNat d.length :: d) ++ ((UInt8.ofNat s.length :: s) ++ Y) := by
    rw [e, List.drop_append, lowS_len, Nat.sub_self, List.drop_zero, List.drop_of_length_le (by rw [lowS_len]; exact Nat.le_refl _), List.nil_append]
  have hv : decide (4 ≤ (nmS V d s ++ Y).length ∧ numW ((nmS V d s ++ Y).take 4) = 0) = decide (V = 0) := by
    rw [ht, lowS4 hV]
    by_cases h0 : V = 0
    · rw [decide_eq_decide]; exact ⟨fun _ => h0, fun _ => ⟨hl, by rw [h0]; rfl⟩⟩
    · have : ¬ ((V : Int) = 0) := by omega
      simp [h0, this]
  unfold docL
  rw [hv, if_neg (by omega), if_neg (by omega), ht, hdr, lowS4 hV, nameS_put _ _ hd]
  unfold docD
  rw [if_neg (by simp)]
  simp only []
  rw [nameS_put _ _ hs]
  unfold docS
  rw [if_neg (by simp)]
def backS (k v : Int) (d s t : List UInt8) (len sz : Int) (l : List Int) (bl rl : Nat) : GetR :=
  if k < 3 then (if sz + rl < len then noneR 3 else ⟨hd9 k v d s t len, [], bl - sz, bl - sz + len, 0⟩)
  else if k = 4 then ⟨hd9 4 v d s t len, [], bl - sz, bl + rl, 0⟩ else ⟨hd9 k v d s t len, l, bl, bl, 0⟩
theorem vget_pre {n sz : Nat} (hs : okSz sz) (hn : n < top sz) (X : List UInt8) : (vputS n sz ++ X).drop sz = X := by
  rw [List.drop_append, vputS_len, Nat.sub_self, List.drop_zero, List.drop_of_length_le (by rw [vputS_len]; exact Nat.le_refl _), List.nil_append]
theorem tok_put (t X : List UInt8) (ht : t.length ≤ 512) : tokS (vtextS t ++ X) = (t, X, 0) := by
  have hg : vget (vtextS t ++ X) = (t.length, vsz t.length, 0) := by
    rw [vtextS, List.append_assoc]; exact vget_put (vsz_ok _) (vsz_fit (by omega)) _
  have hd : (vtextS t ++ X).drop (vsz t.length) = t ++ X := by
    rw [vtextS, List.append_assoc]; exact vget_pre (vsz_ok _) (vsz_fit (by omega)) _
  have hl : (vtextS t ++ X).length = vsz t.length + t.length + X.length := by rw [vtextS, List.length_append, List.length_append, vputS_len]
  unfold tokS
  rw [hg]
  simp only []
  rw [if_neg (by simp), if_neg (by omega), if_neg (by omega), hd, ← List.drop_drop, hd]
  simp
theorem end_put (n : Nat) (k v : Int) (d s t : List UInt8) (L : Nat) (hL : L ≤ 16383) (X : List UInt8) :
    docEnd n k v d s t (vputS L 2 ++ X) = if X.length < L then noneR 3 else ⟨hd9 k v d s t L, [], (n : Int) - X.length, (n : Int) - X.length + L, 0⟩ := by
  have hg := vget_put (n := L) (sz := 2) (.inr (.inl rfl)) (by rw [top2]; omega) X
  have hd := vget_pre (n := L) (sz := 2) (.inr (.inl rfl)) (by rw [top2]; omega) X
  unfold docEnd
  rw [hg]
  simp only []
  rw [if_neg (by simp), if_neg (by omega), hd]
theorem fin_eq {k v : Int} {d s t : List UInt8} (n L Z bl : Nat) (X rest : List UInt8) (hX : X.length = Z + rest.length) (hn : n = bl + rest.length) (hZ : Z ≤ bl) :
    (if X.length < L then noneR 3 else (⟨hd9 k v d s t L, [], (n : Int) - X.length, (n : Int) - X.length + L, 0⟩ : GetR)) = if (Z : Int) + rest.length < L then noneR 3 else ⟨hd9 k v d s t L, [], (bl : Int) - Z, (bl : Int) - Z + L, 0⟩ := by
  have e1 : (n : Int) - X.length = (bl : Int) - Z := by omega
  rw [e1]
  by_cases c : Z + rest.length < L
  · rw [if_pos (by omega), if_pos (by omega)]
  · rw [if_neg (by omega), if_neg (by omega)]
theorem back (k v : Int) (d s t : List UInt8) (len num sz : Int) (ph : Bool) (l : List Int) (hr : rightP k v d s t len num sz ph l) (rest : List UInt8) (hrest : 3 ≤ k → k ≠ 4 → rest = []) :
    docG (putS k v d s t len num sz ph l ++ rest) d.length = backS k v d s t len sz l (putS k v d s t len num sz ph l).length rest.length := by
  obtain ⟨⟨hd, hs, ht5, hv, hlen, hnum, hl16, hlw⟩, hcase⟩ := id hr
  have hvw : 0 ≤ v ∧ v ≤ 4294967295 := by simpa [isW] using hv
  obtain ⟨V, rfl⟩ : ∃ V : Nat, v = V := ⟨v.toNat, by omega⟩
  obtain ⟨N, rfl⟩ : ∃ N : Nat, num = N := ⟨num.toNat, by omega⟩
  obtain ⟨L, rfl⟩ : ∃ L : Nat, len = L := ⟨len.toNat, by omega⟩
  have hown : ¬ ((d.length : Int) < 0 ∨ 20 < (d.length : Int)) := by omega
  rcases hcase with ⟨hk, hl0, hsz, hv0, hph, hkt⟩ | ⟨rfl, hl0, hbare, hv0⟩ | ⟨rfl, hl0, hsz, hv0, hlen0, hs0, ht0⟩ | ⟨rfl, hl0, hbare, hv0, ht0⟩
  · obtain ⟨K, rfl⟩ : ∃ K : Nat, k = K := ⟨k.toNat, by omega⟩
    obtain ⟨Z, rfl⟩ : ∃ Z : Nat, sz = Z := ⟨sz.toNat, by omega⟩
    have hput : putS K V d s t L N Z ph l = UInt8.ofNat (192 + 16 * K + Z - 1) :: (nmS V d s ++ ((if K = 0 then vtextS t else []) ++ (vputS L 2 ++ lowS N Z))) := by
      rw [putS, if_neg (by omega), if_neg (by omega), if_neg (by omega)]
      by_cases hk0 : K = 0
      · rw [if_pos hk0, if_pos (by omega)]; simp
      · rw [if_neg hk0, if_neg (by omega)]; simp
    have hB : (UInt8.ofNat (192 + 16 * K + Z - 1)).toNat = 192 + 16 * K + Z - 1 := by rw [UInt8.toNat_ofNat']; omega
    have hkind : kind (UInt8.ofNat (192 + 16 * K + Z - 1)) = K := by unfold kind; rw [hB]; omega
    have hbl : (putS K V d s t L N Z ph l).length = (nmS V d s).length + (if K = 0 then vtextS t else []).length + 2 + Z + 1 := by
      rw [hput]; simp only [List.length_cons, List.length_append, vputS_len, lowS_len]; omega
    have hbs : backS K V d s t L Z l (putS K V d s t L N Z ph l).length rest.length = if (Z : Int) + rest.length < L then noneR 3 else ⟨hd9 K V d s t L, [], ((putS K V d s t L N Z ph l).length : Int) - Z, ((putS K V d s t L N Z ph l).length : Int) - Z + L, 0⟩ := by
      unfold backS; rw [if_pos (by omega)]
    rw [hbs]
    generalize (putS K V d s t L N Z ph l).length = bl at hbl ⊢
    rw [hput]
    simp only [List.cons_append, List.append_assoc]
    rw [docG_cons hown, if_neg (by omega), doc_long _ V d s _ (by omega) (by omega) hd hs, hkind]
    unfold docR
    rw [if_neg (by simp; omega)]
    by_cases hk0 : K = 0
    · subst hk0
      simp only [if_true] at hbl ⊢
      unfold docK
      rw [if_neg (by decide), if_pos rfl, tok_put _ _ ht5, if_neg (by simp)]
      simp only []
      rw [end_put _ _ _ _ _ _ _ (by omega)]
      exact fin_eq _ _ _ _ _ _ (by rw [List.length_append, lowS_len]) (by rw [hbl]; simp only [List.length_append, lowS_len, vputS_len]; omega) (by omega)
    · simp only [if_neg hk0] at hbl ⊢
      unfold docK
      rw [if_neg (by omega), if_neg hk0, List.nil_append, end_put _ _ _ _ _ _ _ (by omega)]
      obtain rfl : t = [] := hkt.resolve_left (by omega)
      exact fin_eq _ _ _ _ _ _ (by rw [List.length_append, lowS_len]) (by rw [hbl]; simp only [List.length_append, lowS_len, vputS_len, List.length_nil]; omega) (by omega)
  · obtain rfl := hrest (by decide) (by decide)
    subst hl0
    have hput : putS 3 V d s t L N sz ph [] = (240 : UInt8) :: (nmS V d s ++ t) := by rw [putS, if_neg (by decide), if_pos rfl]
    rw [hput, List.append_nil, docG_cons hown, if_neg (by decide), doc_long _ V d s _ (by decide) (by omega) hd hs]
    unfold docR
    rw [if_neg (by simp; omega)]
    unfold docK
    rw [if_pos (by decide), if_neg (by omega)]
    have hL0 : (L : Int) = 0 := hbare.1
    unfold backS
    rw [if_neg (by decide), if_neg (by decide), hL0]
    rfl
  · obtain ⟨Z, rfl⟩ : ∃ Z : Nat, sz = Z := ⟨sz.toNat, by omega⟩
    subst hl0 hs0 ht0
    have hV0 : V = 0 := by omega
    have hL0 : L = 0 := by omega
    subst hV0 hL0
    have hput : putS 4 (0 : Nat) d [] [] (0 : Nat) N Z ph [] = UInt8.ofNat (64 + Z - 1 + if ph then 4 else 0) :: (d ++ lowS N Z) := by rw [putS, if_pos rfl]; rfl
    have hB : (UInt8.ofNat (64 + Z - 1 + if ph then 4 else 0)).toNat < 128 ∧ 64 ≤ (UInt8.ofNat (64 + Z - 1 + if ph then 4 else 0)).toNat := by
      rw [UInt8.toNat_ofNat']; cases ph <;> simp <;> omega
    have hbl : (putS 4 (0 : Nat) d [] [] (0 : Nat) N Z ph []).length = 1 + d.length + Z := by rw [hput]; simp only [List.length_cons, List.length_append, lowS_len]; omega
    unfold backS
    rw [if_neg (by decide), if_pos rfl, hbl, hput]
    simp only [List.cons_append, List.append_assoc]
    rw [docG_cons hown, if_pos hB.1, if_neg (by omega), if_neg (by simp)]
    have h1 : (d ++ (lowS N Z ++ rest)).take (d.length : Int).toNat = d := by
      rw [Int.toNat_natCast, List.take_append_of_le_length (Nat.le_refl _), List.take_length]
    rw [h1]
    simp only [List.length_append, lowS_len]
    congr 1 <;> omega
  · obtain rfl := hrest (by decide) (by decide)
    subst ht0
    have hV0 : V = 0 := by omega
    subst hV0
    have hput : putS 5 (0 : Nat) d s [] L N sz ph l = (192 : UInt8) :: (nmS (0 : Nat) d s ++ (l.flatMap fun x => lowS x.toNat 4)) := by rw [putS, if_neg (by decide), if_neg (by decide), if_pos rfl]
    have hfl : ∀ m : List Int, (m.flatMap fun x => lowS x.toNat 4).length = 4 * m.length := fun m => by
      induction m with
      | nil => rfl
      | cons x m ih => rw [List.flatMap_cons, List.length_append, lowS_len, ih, List.length_cons]; omega
    have hl1 : l.length ≠ 0 := fun x => hl0 (List.length_eq_zero_iff.1 x)
    rw [hput, List.append_nil, docG_cons hown, if_neg (by decide), doc_long _ 0 d s _ (by decide) (by omega) hd hs]
    unfold docR
    rw [if_pos (by simp), if_neg (by rw [hfl]; omega), hfl, show 4 * l.length / 4 = l.length by omega, foursW_put l (fun x hx => by
      have := List.any_eq_false.1 hlw x hx
      simpa using this)]
    have hL0 : (L : Int) = 0 := hbare.1
    unfold backS
    rw [if_neg (by decide), if_neg (by decide), hL0]
    rfl
end Ph
