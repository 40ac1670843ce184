import Derived.Test.YtliblomkhapibaaL21
set_option maxRecDepth 100000
set_option maxHeartbeats 1000000
set_option linter.unusedSimpArgs false
set_option linter.unusedVariables false
namespace Ph
open Go Go.Proofs
def setAll (t : List Bool) (l : List Int) : List Bool := l.foldl (fun t n => t.set n.toNat true) t
theorem setAll_len (t : List Bool) (l : List Int) : (setAll t l).length = t.length := by
  induction l generalizing t with
  | nil => rfl
  | cons n l ih => exact (ih _).trans (List.length_set ..)
theorem setAll_get (l : List Int) : ∀ (t : List Bool), (∀ n ∈ l, 0 ≤ n) → ∀ (i : Nat) (b : Bool), t[i]? = some b → (setAll t l)[i]? = some (b || decide ((i : Int) ∈ l)) := by
  induction l with
  | nil => intro t _ i b h; rw [show setAll t [] = t from rfl, h]; simp
  | cons n l ih =>
    intro t hn i b h
    have h0 := hn n (by simp)
    have hi := (List.getElem?_eq_some_iff.1 h).1
    show (setAll (t.set n.toNat true) l)[i]? = _
    by_cases e : n.toNat = i
    · rw [ih _ (fun m hm => hn m (by simp [hm])) i true (by rw [e, List.getElem?_set_self hi])]
      have : (i : Int) ∈ n :: l := by rw [← e]; rw [Int.toNat_of_nonneg h0]; simp
      simp [this]
    · rw [ih _ (fun m hm => hn m (by simp [hm])) i b (by rw [List.getElem?_set_ne e, h])]
      have : ((i : Int) ∈ n :: l) ↔ (i : Int) ∈ l := by
        rw [List.mem_cons]
        refine ⟨fun h => h.resolve_left (fun e2 => e (by omega)), fun h => .inr h⟩
      simp [this]
    
def untold (told : List Bool) (x : Pk) : Bool := !(told[x.num.toNat]?.getD true)
structure OI (al : List Pk) (told : List Bool) (s : St) : Prop where
  ok : Ok s
  len : told.length = al.length
  nums : ∀ (i : Nat) x, al[i]? = some x → x.num = i ∧ x.asks = true
  waits : s.waits = al.filter (untold told)
  top : s.top = (al.length : Int) - 1
theorem OI.nodup {al : List Pk} {told : List Bool} {s : St} (h : OI al told s) : (s.waits.map (·.num)).Nodup := by
  rw [h.waits]
  have e : al.map (·.num) = (List.range al.length).map Int.ofNat := by
    apply List.ext_getElem?
    intro i
    rw [List.getElem?_map, List.getElem?_map]
    by_cases hi : i < al.length
    · have hx := List.getElem?_eq_getElem hi
      rw [hx, List.getElem?_range hi]
      simp only [Option.map_some, (h.nums i _ hx).1]
      rfl
    · rw [List.getElem?_eq_none (by omega), List.getElem?_eq_none (by simp; omega)]; rfl
  have hd : (al.map (·.num)).Nodup := by
    rw [e]
    refine List.Pairwise.map _ (fun a b hab e2 => hab ?_) List.nodup_range
    exact Int.ofNat.inj e2
  exact hd.sublist (List.Sublist.map _ List.filter_sublist)
theorem OI.zero : OI [] [] newS := ⟨newS_ok, rfl, fun i x hx => by simp at hx, rfl, rfl⟩
theorem OI.sent {al : List Pk} {told : List Bool} {s : St} {size at_ : Int} (h : OI al told s) (hlen : al.length ≤ 1000) (hok : sentOk s al.length size at_ = true) :
    OI (al ++ [⟨(al.length : Int), size, at_, true⟩]) (told ++ [false]) (sentS s al.length size true at_) := by
  have hwl : s.waits.length < 100000 := by rw [h.waits]; have := List.length_filter_le (untold told) al; omega
  refine ⟨h.ok.sent hwl hok, by simp [h.len], fun i x hx => ?_, ?_, by simp [sentS]⟩
  · by_cases hi : i < al.length
    · rw [List.getElem?_append_left hi] at hx; exact h.nums i x hx
    · rw [List.getElem?_append_right (by omega)] at hx
      have hi2 : i - al.length < 1 := by have := (List.getElem?_eq_some_iff.1 hx).1; simpa using this
      obtain rfl : i = al.length := by omega
      simp at hx; subst hx; exact ⟨rfl, rfl⟩
  · show s.waits ++ _ = _
    rw [List.filter_append, h.waits]
    congr 1
    · refine List.filter_congr fun x hx => ?_
      obtain ⟨i, hi⟩ := List.getElem?_of_mem hx
      have hil := (List.getElem?_eq_some_iff.1 hi).1
      unfold untold
      rw [(h.nums i x hi).1, Int.toNat_natCast, List.getElem?_append_left (by rw [h.len]; exact hil)]
    · rw [List.filter_cons, if_pos (by unfold untold; rw [Int.toNat_natCast, List.getElem?_append_right (by rw [h.len]; exact Nat.le_refl _), h.len]; simp)]
      rfl
theorem OI.tell {al : List Pk} {told : List Bool} {s s' : St} {l : List Int} (h : OI al told s) (ht : Tells s s' l) (hok : Ok s') :
    OI al (setAll told l) s' ∧ ∀ (k : Nat) (n : Int), l[k]? = some n → 0 ≤ n ∧ n < told.length ∧ (setAll told (l.take k))[n.toNat]? = some false := by
  have hmem : ∀ n ∈ l, 0 ≤ n ∧ n < told.length ∧ told[n.toNat]? = some false := fun n hn => by
    obtain ⟨x, hx, e⟩ := ht.from_ n hn
    rw [h.waits] at hx
    obtain ⟨hx1, hx2⟩ := List.mem_filter.1 hx
    obtain ⟨i, hi⟩ := List.getElem?_of_mem hx1
    have hil := (List.getElem?_eq_some_iff.1 hi).1
    have hnum := (h.nums i x hi).1
    rw [← e, hnum]
    refine ⟨by omega, by rw [h.len]; omega, ?_⟩
    unfold untold at hx2
    rw [hnum, Int.toNat_natCast] at hx2
    rw [Int.toNat_natCast]
    rw [List.getElem?_eq_getElem (by rw [h.len]; exact hil)] at hx2 ⊢
    simp at hx2; rw [hx2]
  refine ⟨⟨hok, by rw [setAll_len, h.len], h.nums, ?_, by rw [ht.top, h.top]⟩, fun k n hk => ?_⟩
  · obtain ⟨R, e1, e2⟩ := ht.waits
    rw [e1, h.waits, List.filter_filter]
    refine List.filter_congr fun x hx => ?_
    obtain ⟨i, hi⟩ := List.getElem?_of_mem hx
    have hil := (List.getElem?_eq_some_iff.1 hi).1
    have hnum := (h.nums i x hi).1
    have hti := List.getElem?_eq_getElem (l := told) (i := i) (by rw [h.len]; exact hil)
    have hsi := setAll_get l told (fun n hn => (hmem n hn).1) i _ hti
    unfold untold
    rw [hnum, Int.toNat_natCast, hti, hsi]
    simp only [Option.getD_some]
    cases htt : told[i]'(by rw [h.len]; exact hil) with
    | true => simp
    | false =>
      have hxw : x ∈ s.waits := by
        rw [h.waits]
        refine List.mem_filter.2 ⟨hx, ?_⟩
        unfold untold
        rw [hnum, Int.toNat_natCast, hti, htt]; rfl
      rw [e2 x hxw, hnum]; simp
  · have hn := List.mem_of_getElem? hk
    obtain ⟨a1, a2, a3⟩ := hmem n hn
    refine ⟨a1, a2, ?_⟩
    rw [setAll_get (l.take k) told (fun m hm => (hmem m (List.mem_of_mem_take hm)).1) _ _ a3, Int.toNat_of_nonneg a1]
    have hnd := ht.nodup h.nodup
    have : n ∉ l.take k := fun hm => by
      obtain ⟨j, hj⟩ := List.getElem?_of_mem hm
      have hjl := (List.getElem?_eq_some_iff.1 hj).1
      have hjk : j < k := by simp at hjl; omega
      rw [List.getElem?_take_of_lt hjk] at hj
      have hkl := (List.getElem?_eq_some_iff.1 hk).1
      have hjl2 := (List.getElem?_eq_some_iff.1 hj).1
      have e1 := (List.getElem?_eq_some_iff.1 hj).2
      have e2 := (List.getElem?_eq_some_iff.1 hk).2
      have := (List.getElem_inj (h₀ := hjl2) (h₁ := hkl) hnd).1 (e1.trans e2.symm)
      omega
    simp [this]
theorem OI.flight {al : List Pk} {told : List Bool} {s : St} (h : OI al told s) : s.flight = asum (al.filter (untold told)) := by rw [h.ok.flight, h.waits]
/-- the law's sum, packet by packet -/
theorem OI.part {al : List Pk} {told : List Bool} {s : St} (h : OI al told s) {k : Nat} {x : Pk} (hx : al[k]? = some x) : asum ((al.take (k + 1)).filter (untold told)) = asum ((al.take k).filter (untold told)) + (if told[k]?.getD true then 0 else x.size) := by
  rw [take_next hx, List.filter_append]
  have e : ∀ a b : List Pk, asum (a ++ b) = asum a + asum b := fun a b => by simp [asum]
  rw [e]
  congr 1
  obtain ⟨h1, h2⟩ := h.nums k x hx
  rw [List.filter_cons]
  unfold untold
  rw [h1, Int.toNat_natCast]
  cases told[k]?.getD true <;> simp [asum, h2]
end Ph
