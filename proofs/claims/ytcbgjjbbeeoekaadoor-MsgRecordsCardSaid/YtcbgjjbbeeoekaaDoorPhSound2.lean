import Derived.Test.YtcbgjjbbeeoekaaDoorPhMem
set_option linter.unusedVariables false
namespace Ph
open Go
section
variable {P : Program} {ρ : Ren} {h : Heap} {W : World}
theorem elemSize_inv {t sz : Nat} (h : elemSize P t = some sz) : ∃ e i, P.underlying t = some (.slice e) ∧ P.info? e = some i ∧ P.cellsOf e = sz := by
  unfold elemSize at h
  split at h
  · rename_i e hu
    split at h
    · rename_i hi
      obtain ⟨i, hi⟩ := Option.isSome_iff_exists.1 hi
      cases h; exact ⟨e, i, hu, hi, rfl⟩
    · cases h
  · cases h
/-- bounds, as they are -/
theorem bounds_inv {lo lo' : Option Value} (h : boundOk lo = true) (hr : ∀ v v', lo = some v → lo' = some v' → VRel ρ v v') (hn : lo'.isSome = lo.isSome) :
    (lo = none ∧ lo' = none) ∨ ∃ k n, lo = some (.int k n) ∧ lo' = some (.int k n) := by
  cases lo with
  | none => cases lo' with
    | none => exact .inl ⟨rfl, rfl⟩
    | some v => simp at hn
  | some v => cases lo' with
    | none => simp at hn
    | some v' =>
      cases v <;> simp [boundOk] at h
      have := hr _ _ rfl rfl
      cases this.int_inv
      exact .inr ⟨_, _, rfl, rfl⟩
theorem run_bounds (s : Bool) (len cap : Nat) (lo hi : Option Value) (h1 : boundOk lo = true) (h2 : boundOk hi = true) (h3 : 0 ≤ intOr lo 0) (h4 : intOr lo 0 ≤ intOr hi len) (h5 : intOr hi len ≤ cap) :
    (Instr.sliceBounds s len cap lo hi none).run P W = .ok ((intOr lo 0).toNat, (intOr hi len).toNat, cap) W := by
  have hsb : ∀ (k : IntKind) (n : Int) (y : Nat) (c : BoundsCode) (W : World), 0 ≤ n → n ≤ y → (Instr.sliceBound (.int k n) y c).run P W = .ok n.toNat W := fun k n y c W a b => by
    simp [Instr.sliceBound, asIntOf, a, b]
  cases lo with
  | none =>
    cases hi with
    | none => simp [Instr.sliceBounds, intOr]
    | some v =>
      cases v <;> simp [boundOk] at h2
      simp only [intOr] at h3 h4 h5 ⊢
      simp [Instr.sliceBounds, hsb _ _ cap _ W h4 h5]
  | some u =>
    cases u <;> simp [boundOk] at h1
    cases hi with
    | none => simp only [intOr] at h3 h4 h5 ⊢; simp [Instr.sliceBounds, hsb _ _ len _ W h3 h4]
    | some v =>
      cases v <;> simp [boundOk] at h2
      simp only [intOr] at h3 h4 h5 ⊢
      rename_i n _ m
      have e : (m.toNat : Int) = m := by omega
      simp [Instr.sliceBounds, hsb _ _ cap _ W (Int.le_trans h3 h4) h5, hsb _ n m.toNat _ W h3 (by omega)]
theorem slice_sound {t : Nat} {x x' : Value} {lo hi lo' hi' : Option Value} {K : Value → Prop} (hx : VRel ρ x x') (hlo : ∀ v v', lo = some v → lo' = some v' → VRel ρ v v') (hln : lo'.isSome = lo.isSome)
    (hhi : ∀ v v', hi = some v → hi' = some v' → VRel ρ v v') (hhn : hi'.isSome = hi.isSome) (hs : @sliceH P t x lo hi ⟨K⟩) :
    ∃ v v', (∀ W : World, (Instr.sliceAt t x' lo' hi' none).run P W = .ok v' W) ∧ VRel ρ v v' ∧ K v := by
  have hb : boundOk lo = true → boundOk hi = true → lo = lo' ∧ hi = hi' := fun a b => by
    rcases bounds_inv a hlo hln with ⟨rfl, rfl⟩ | ⟨k, n, rfl, rfl⟩ <;> rcases bounds_inv b hhi hhn with ⟨rfl, rfl⟩ | ⟨k', n', rfl, rfl⟩ <;> exact ⟨rfl, rfl⟩
  unfold sliceH at hs
  split at hs
  · rename_i a n st
    cases he : elemSize P t with
    | none => rw [he] at hs; exact hs.elim
    | some sz =>
      rw [he] at hs
      obtain ⟨⟨rfl, b1, b2⟩, ⟨c1, c2, c3⟩, hK⟩ := hs
      obtain ⟨rfl, rfl⟩ := hb b1 b2
      obtain ⟨e, i, hu, hinf, hce⟩ := elemSize_inv he
      rcases hx.slice_inv with ⟨c, cap, h1, h2, rfl, h4, h5⟩ | ⟨rfl, c0, a', hc0, rfl⟩
      · have hrb := fun W : World => run_bounds (P := P) (W := W) true n cap lo hi b1 b2 c1 c2 (by omega)
        refine ⟨_, .slice (if cap = (intOr lo 0).toNat then (some ⟨c.blk, c.sh + a.off, none⟩) else some ⟨c.blk, c.sh + a.off + (intOr lo 0).toNat * st, none⟩) ((intOr hi n).toNat - (intOr lo 0).toNat) (cap - (intOr lo 0).toNat), ?_, ?_, hK⟩
        · intro W; simp only [Instr.sliceAt, Sem.run_bind, run_und hu, Result.andThen_ok, Instr.slice, hrb W, run_size hinf, hce, Sem.run_pure]
          congr 2
          split
          · rfl
          · simp [addr_add]
        · by_cases hcp : cap = (intOr lo 0).toNat
          · rw [if_pos hcp, show cap - (intOr lo 0).toNat = 0 by omega, show (intOr hi n).toNat - (intOr lo 0).toNat = 0 by omega, show (intOr hi n - intOr lo 0).toNat = 0 by omega]
            exact .slice0 _ _ _ c h1
          · rw [if_neg hcp, show (intOr hi n - intOr lo 0).toNat = (intOr hi n).toNat - (intOr lo 0).toNat by omega, Nat.add_assoc]
            refine .slice a.block _ _ st c _ h1 (by omega) ?_
            obtain ⟨q, hq⟩ : ∃ q, cap = (intOr lo 0).toNat + q := ⟨cap - (intOr lo 0).toNat, by omega⟩
            rw [hq] at h5 ⊢
            rw [Nat.add_sub_cancel_left]
            rw [Nat.add_mul] at h5
            omega
      · have c2' : intOr lo 0 ≤ intOr hi 0 := by simpa using c2
        have c3' : intOr hi 0 ≤ 0 := by simpa using c3
        have l0 : intOr lo 0 = 0 := by omega
        have h0' : intOr hi 0 = 0 := by omega
        have h0 : intOr hi ((0 : Nat) : Int) = 0 := by simpa using h0'
        have hrb := fun W : World => run_bounds (P := P) (W := W) true 0 0 lo hi b1 b2 c1 c2 (by simpa using c3)
        refine ⟨_, .slice (some a') 0 0, ?_, ?_, hK⟩
        · intro W; simp only [Instr.sliceAt, Sem.run_bind, run_und hu, Result.andThen_ok, Instr.slice, hrb W, run_size hinf, hce, Sem.run_pure, l0, h0]
          simp
        · rw [h0, l0]; exact .slice0 _ _ _ c0 hc0
  · cases he : elemSize P t with
    | none => rw [he] at hs; exact hs.elim
    | some sz =>
      rw [he] at hs
      obtain ⟨⟨b1, b2⟩, ⟨c1, c2⟩, hK⟩ := hs
      obtain ⟨rfl, rfl⟩ := hb b1 b2
      obtain ⟨e, i, hu, hinf, hce⟩ := elemSize_inv he
      obtain ⟨_, _, rfl⟩ := hx.nilslice_inv
      have hrb := fun W : World => run_bounds (P := P) (W := W) true 0 0 lo hi b1 b2 (by omega) (by simp; omega) (by simp; omega)
      refine ⟨_, .slice none 0 0, ?_, .same _ rfl, hK⟩
      intro W; simp only [Instr.sliceAt, Sem.run_bind, run_und hu, Result.andThen_ok, Instr.slice, hrb W, run_size hinf, hce, Sem.run_pure, c1]
      simp [c2]
  · rename_i s
    obtain ⟨⟨hst, b1, b2⟩, ⟨c1, c2, c3⟩, hK⟩ := hs
    obtain ⟨rfl, rfl⟩ := hb b1 b2
    cases hx.string_inv
    have hu : P.underlying t = some .string := by unfold isStr at hst; split at hst <;> first | assumption | cases hst
    have hrb := fun W : World => run_bounds (P := P) (W := W) false s.size s.size lo hi b1 b2 c1 c2 (by omega)
    refine ⟨_, _, ?_, .same _ rfl, hK⟩
    intro W; simp [Instr.sliceAt, run_und hu, Instr.slice, hrb W]
  · exact hs.elim
theorem run_index_str {t : Nat} (hst : isStr P t = true) (s : ByteArray) (k : IntKind) (n : Int) (h0 : 0 ≤ n) (h1 : n < s.size) : (Instr.index t (.string s) (.int k n)).run P W = .ok (.int .u8 (s.data.toList.getD n.toNat 0).toNat) W := by
  have hu : P.underlying t = some .string := by unfold isStr at hst; split at hst <;> first | assumption | cases hst
  have hlt : n.toNat < s.size := by omega
  have hlt' : n.toNat < s.data.toList.length := by rw [Array.length_toList]; exact hlt
  have e : s[n.toNat]? = some (s.data.toList.getD n.toNat 0) := by
    rw [List.getD_eq_getElem?_getD, List.getElem?_eq_getElem hlt', Option.getD_some]
    rw [getElem?_pos s n.toNat hlt]
    rfl
  simp [Instr.index, asIntOf, run_und hu, h0, e]
theorem part_run {cs cs' : Array Value} {p : Nat × Option Nat} {t : Nat} {v : Value} (hr : ARel ρ cs cs') (ha : aggSize P t = some p.2) (hv : partOf cs p = some v) :
    ∃ v', (part t cs' p.1).run P W = .ok v' W ∧ VRel ρ v v' := by
  unfold partOf at hv
  obtain ⟨o, s⟩ := p
  cases s with
  | none =>
    simp only at hv ha
    have hlt : o < cs'.size := by rw [← hr.1]; exact (Array.getElem?_eq_some_iff.1 hv).1
    exact ⟨cs'[o], by simp [part, agg_none (W := W) ha, Array.getElem?_eq_getElem hlt], hr.2 o v _ hv (Array.getElem?_eq_getElem hlt)⟩
  | some n =>
    simp only [Option.some.injEq] at hv ha
    subst hv
    obtain ⟨g1, i, g2, g3⟩ := agg_some (W := W) ha
    refine ⟨.agg (cs'.extract o (o + n)), by simp [part, g1, run_size g2, g3], .agg _ _ (by simp [hr.1]) fun i x y hx hy => ?_⟩
    rw [Array.getElem?_extract] at hx hy
    split at hx
    · split at hy
      · exact hr.2 _ x y hx hy
      · cases hy
    · cases hx
theorem part_all {cs cs' : Array Value} {p : Nat × Option Nat} {t : Nat} {v : Value} (hr : ARel ρ cs cs') (ha : aggSize P t = some p.2) (hv : partOf cs p = some v) :
    ∃ v', (∀ W : World, (part t cs' p.1).run P W = .ok v' W) ∧ VRel ρ v v' := by
  unfold partOf at hv
  obtain ⟨o, s⟩ := p
  cases s with
  | none =>
    simp only at hv ha
    have hlt : o < cs'.size := by rw [← hr.1]; exact (Array.getElem?_eq_some_iff.1 hv).1
    exact ⟨cs'[o], fun W => by simp [part, agg_none (W := W) ha, Array.getElem?_eq_getElem hlt], hr.2 o v _ hv (Array.getElem?_eq_getElem hlt)⟩
  | some n =>
    simp only [Option.some.injEq] at hv ha
    subst hv
    refine ⟨.agg (cs'.extract o (o + n)), fun W => ?_, .agg _ _ (by simp [hr.1]) fun i x y hx hy => ?_⟩
    · obtain ⟨g1, i, g2, g3⟩ := agg_some (W := W) ha
      simp [part, g1, run_size g2, g3]
    · rw [Array.getElem?_extract] at hx hy
      split at hx
      · split at hy
        · exact hr.2 _ x y hx hy
        · cases hy
      · cases hx
theorem index_agg {t : Nat} {cs cs' : Array Value} {k : IntKind} {n : Int} {K : Value → Prop} (hr : ARel ρ cs cs') (hs : @indexH P t (.agg cs) (.int k n) ⟨K⟩) :
    ∃ v v', (∀ W : World, (Instr.index t (.agg cs') (.int k n)).run P W = .ok v' W) ∧ VRel ρ v v' ∧ K v := by
  simp only [indexH, onInt] at hs
  unfold arrPart at hs
  split at hs
  · rename_i len e hu
    cases hie : P.info? e with
    | none => simp [hie, onSome] at hs
    | some ie =>
      cases ha : aggSize P e with
      | none => simp [hie, ha, onSome] at hs
      | some s =>
        simp only [hie, ha, Option.isSome_some, if_true, Option.map_some, onSome, also] at hs
        obtain ⟨⟨h0, h1⟩, hs⟩ := hs
        cases hp : partOf cs (n.toNat * P.cellsOf e, s) with
        | none => simp [hp] at hs
        | some v =>
          simp only [hp] at hs
          obtain ⟨v', g1, g2⟩ := part_all (p := (n.toNat * P.cellsOf e, s)) hr ha hp
          refine ⟨v, v', fun W => ?_, g2, hs⟩
          simp only [Instr.index, asIntOf, run_und hu, Sem.run_bind, Sem.run_pure, Result.andThen_ok, if_pos (show 0 ≤ n ∧ n < (len : Int) from ⟨h0, h1⟩), run_size hie]
          exact g1 W
  · simp [onSome] at hs
theorem index_sound {t : Nat} {x i x' i' : Value} {K : Value → Prop} (hx : VRel ρ x x') (hi : VRel ρ i i') (hs : @indexH P t x i ⟨K⟩) :
    ∃ v v', (Instr.index t x' i').run P W = .ok v' W ∧ VRel ρ v v' ∧ K v := by
  unfold indexH at hs
  split at hs
  · rename_i s
    cases hx.string_inv
    cases i <;> try exact hs.elim
    rename_i k n
    cases hi.int_inv
    obtain ⟨hst, ⟨h0, h1⟩, hK⟩ := hs
    have hu : P.underlying t = some .string := by unfold isStr at hst; split at hst <;> first | assumption | cases hst
    refine ⟨_, _, ?_, .same _ rfl, hK⟩
    have hlt : n.toNat < s.size := by omega
    have hlt' : n.toNat < s.data.toList.length := by rw [Array.length_toList]; exact hlt
    have e : s[n.toNat]? = some (s.data.toList.getD n.toNat 0) := by
      rw [List.getD_eq_getElem?_getD, List.getElem?_eq_getElem hlt', Option.getD_some]
      rw [getElem?_pos s n.toNat hlt]
      rfl
    simp [Instr.index, asIntOf, run_und hu, h0, e]
  · rename_i cs
    obtain ⟨cs', rfl, hr⟩ := hx.agg_inv
    cases i <;> try exact hs.elim
    rename_i k n
    cases hi.int_inv
    obtain ⟨v, v', g1, g2, g3⟩ := index_agg hr (show @indexH P t (.agg cs) (.int k n) ⟨K⟩ from hs)
    exact ⟨v, v', g1 W, g2, g3⟩
  · exact hs.elim
theorem field_sound {t f : Nat} {cs : Array Value} {x' v : Value} {p : Nat × Option Nat} (hx : VRel ρ (.agg cs) x') (hp : fieldPart P t f = some p) (hv : partOf cs p = some v) :
    ∃ v', (Instr.field t x' f).run P W = .ok v' W ∧ VRel ρ v v' := by
  unfold fieldPart at hp
  split at hp
  · rename_i fs hu
    split at hp
    · rename_i fl hf
      obtain ⟨s, hs, rfl⟩ := Option.map_eq_some_iff.1 hp
      obtain ⟨cs', rfl, hr⟩ := hx.agg_inv
      obtain ⟨v', h1, h2⟩ := part_run (P := P) (W := W) (t := fl.type) hr hs hv
      exact ⟨v', by simpa [Instr.field, run_und hu, hf, asAgg] using h1, h2⟩
    · cases hp
  · cases hp
end
end Ph
