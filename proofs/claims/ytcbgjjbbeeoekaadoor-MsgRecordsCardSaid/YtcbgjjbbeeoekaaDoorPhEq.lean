import Derived.Test.YtcbgjjbbeeoekaaDoorPhRel
import Derived.Laws.StructEq
import Derived.ChangeKeysEq
set_option linter.unusedVariables false
/-! Structs and arrays of numbers, texts and truths: compared; as keys. -/
namespace Ph
open Go
section
variable {P : Program} {W : World} {ρ : Ren}
theorem bytes_beq (s c : ByteArray) : (s == c) = decide (s = c) := by
  cases s with
  | mk a =>
    cases c with
    | mk b =>
      rw [Bool.eq_iff_iff]
      show (a == b) = true ↔ _
      simp
theorem run_equalIn_c {t : TypeId} {x y : Value} {b : Bool} (hf : cellFit P t x = true) (hs : sameC x y = some b) (d : Nat) : (Op.equalIn (d + 1) t x y).run P W = .ok b W := by
  unfold cellFit at hf
  split at hf
  · rename_i k j a hu
    cases y with
    | int l c =>
      simp only [sameC] at hs
      split at hs
      · rename_i e; subst e; cases hs
        rw [Op.equalIn]; simp [run_underlying hu]; rfl
      · cases hs
    | _ => cases hs
  · rename_i s hu
    cases y with
    | string c =>
      simp only [sameC] at hs; cases hs
      rw [Op.equalIn]; simp [run_underlying hu, bytes_beq]
    | _ => cases hs
  · rename_i s hu
    cases y with
    | bool c =>
      simp only [sameC] at hs; cases hs
      rw [Op.equalIn]; simp [run_underlying hu]
      rw [Bool.eq_iff_iff]; simp
    | _ => cases hs
  · cases hf
theorem fits_drop {ts : List Nat} {l : List Value} {t : Nat} (h : fitsL P (t :: ts) l = true) : ∃ x xr, l = x :: xr ∧ cellFit P t x = true ∧ fitsL P ts xr = true := by
  cases l with
  | nil => cases h
  | cons x xr => simp only [fitsL, Bool.and_eq_true] at h; exact ⟨x, xr, rfl, h.1, h.2⟩
theorem drop_head {l : Array Value} {i : Nat} {x : Value} {xr : List Value} (h : l.toList.drop i = x :: xr) : l[i]? = some x ∧ l.toList.drop (i + 1) = xr := by
  refine ⟨?_, ?_⟩
  · have := congrArg (·[0]?) h
    simpa using this
  · rw [← List.drop_drop, h]; rfl
theorem run_eqFields_flat (d : Nat) (xs ys : Array Value) : ∀ (fs : List Field) (i : Nat) (b : Bool), (∀ (j : Nat) (f : Field), fs[j]? = some f → f.name ≠ "_" ∧ P.plainKey f.type = true ∧ f.offset = i + j) →
    fitsL P (fs.map (·.type)) (xs.toList.drop i) = true → sameL (xs.toList.drop i) (ys.toList.drop i) = some b → (Op.eqFields (d + 1) xs ys fs).run P W = .ok b W
  | [], i, b, _, hf, hs => by
    have h0 : xs.toList.drop i = [] := by cases hl : xs.toList.drop i with | nil => rfl | cons x xr => rw [hl] at hf; cases hf
    rw [h0] at hs
    cases hl : ys.toList.drop i with
    | nil => rw [hl] at hs; cases hs; simp [Op.eqFields]
    | cons y yr => rw [hl] at hs; cases hs
  | f :: fs, i, b, hof, hf, hs => by
    obtain ⟨x, xr, e1, hc, hr⟩ := fits_drop hf
    obtain ⟨n1, n2, n3⟩ := hof 0 f rfl
    rw [e1] at hs
    cases hl : ys.toList.drop i with
    | nil => rw [hl] at hs; cases hs
    | cons y yr =>
      rw [hl] at hs
      obtain ⟨gx, dx⟩ := drop_head e1
      obtain ⟨gy, dy⟩ := drop_head hl
      rw [Nat.add_zero] at n3
      have p1 := run_part_plain W n2 (xs := xs) (off := f.offset) (by rw [n3]; exact gx)
      have p2 := run_part_plain W n2 (xs := ys) (off := f.offset) (by rw [n3]; exact gy)
      unfold sameL at hs
      simp only [Op.eqFields, n1, ne_eq, not_false_eq_true, if_true, Sem.run_bind, p1, p2, Result.andThen_ok]
      split at hs
      · rename_i hc2
        rw [run_equalIn_c hc hc2 d]
        simp only [Result.andThen_ok, Bool.not_true, Bool.false_eq_true, if_false]
        refine run_eqFields_flat d xs ys fs (i + 1) b (fun j g hg => ?_) (by rw [dx]; exact hr) (by rw [dx, dy]; exact hs)
        have := hof (j + 1) g (by simpa using hg)
        exact ⟨this.1, this.2.1, by rw [this.2.2]; omega⟩
      · rename_i hc2
        cases hs
        rw [run_equalIn_c hc hc2 d]
        simp
      · cases hs
theorem run_eqItems_flat (d : Nat) {e : TypeId} (he : P.plainKey e = true) (xs ys : Array Value) : ∀ (n i : Nat) (b : Bool),
    fitsL P (List.replicate n e) (xs.toList.drop i) = true → sameL (xs.toList.drop i) (ys.toList.drop i) = some b → (Op.eqItems (d + 1) e 1 xs ys (List.range' i n)).run P W = .ok b W
  | 0, i, b, hf, hs => by
    have h0 : xs.toList.drop i = [] := by cases hl : xs.toList.drop i with | nil => rfl | cons x xr => rw [hl] at hf; cases hf
    rw [h0] at hs
    cases hl : ys.toList.drop i with
    | nil => rw [hl] at hs; cases hs; simp [Op.eqItems]
    | cons y yr => rw [hl] at hs; cases hs
  | n + 1, i, b, hf, hs => by
    rw [List.replicate_succ] at hf
    obtain ⟨x, xr, e1, hc, hr⟩ := fits_drop hf
    rw [e1] at hs
    cases hl : ys.toList.drop i with
    | nil => rw [hl] at hs; cases hs
    | cons y yr =>
      rw [hl] at hs
      obtain ⟨gx, dx⟩ := drop_head e1
      obtain ⟨gy, dy⟩ := drop_head hl
      have p1 := run_part_plain W he (xs := xs) (off := i * 1) (by rw [Nat.mul_one]; exact gx)
      have p2 := run_part_plain W he (xs := ys) (off := i * 1) (by rw [Nat.mul_one]; exact gy)
      unfold sameL at hs
      rw [List.range'_succ]
      simp only [Op.eqItems, Sem.run_bind, p1, p2, Result.andThen_ok]
      split at hs
      · rename_i hc2
        rw [run_equalIn_c hc hc2 d]
        simp only [Result.andThen_ok, Bool.not_true, Bool.false_eq_true, if_false]
        exact run_eqItems_flat d he xs ys n (i + 1) b (by rw [dx]; exact hr) (by rw [dx, dy]; exact hs)
      · rename_i hc2
        cases hs
        rw [run_equalIn_c hc hc2 d]
        simp
      · cases hs
theorem flat_inv {t : Nat} {ts : List Nat} (h : flatTy P t = some ts) : P.stoodInHeld t = false ∧ P.eqGuardType P.depth t = false ∧
    ((∃ fs, P.underlying t = some (.struct fs) ∧ ts = fs.toList.map (·.type) ∧ ∀ (j : Nat) (f : Field), fs.toList[j]? = some f → f.name ≠ "_" ∧ P.plainKey f.type = true ∧ f.offset = j) ∨
     (∃ n e i, P.underlying t = some (.array n e) ∧ P.info? e = some i ∧ P.plainKey e = true ∧ P.cellsOf e = 1 ∧ ts = List.replicate n e)) := by
  unfold flatTy at h
  split at h
  · cases h
  · rename_i hn
    simp only [Bool.or_eq_true, not_or, Bool.not_eq_true] at hn
    refine ⟨hn.1, hn.2, ?_⟩
    split at h
    · rename_i fs hu
      split at h
      · rename_i hall
        cases h
        refine .inl ⟨fs, hu, rfl, fun j f hf => ?_⟩
        have hm : (f, j) ∈ fs.toList.zipIdx := by
          rw [List.mem_iff_getElem?]
          exact ⟨j, by rw [List.getElem?_zipIdx, hf]; simp⟩
        have := List.all_eq_true.1 hall _ hm
        simp only [Bool.and_eq_true, bne_iff_ne, ne_eq, beq_iff_eq] at this
        exact ⟨this.1.1, this.1.2, this.2⟩
      · cases h
    · rename_i n e hu
      split at h
      · rename_i hc
        simp only [Bool.and_eq_true, beq_iff_eq] at hc
        obtain ⟨i, hi⟩ := Option.isSome_iff_exists.1 hc.2
        cases h
        exact .inr ⟨n, e, i, hu, hi, hc.1.1, hc.1.2, rfl⟩
      · cases h
    · cases h
theorem run_equal_flat {t : Nat} {ts : List Nat} (ht : flatTy P t = some ts) {xs ys : Array Value} {b : Bool} (hf : fitsL P ts xs.toList = true) (hs : sameL xs.toList ys.toList = some b) : (Op.equal t (.agg xs) (.agg ys)).run P W = .ok b W := by
  obtain ⟨h1, h2, ⟨fs, hu, rfl, hof⟩ | ⟨n, e, i, hu, hi, he, hc, rfl⟩⟩ := flat_inv ht
  · have hfs : P.fieldsOf t = fs := by unfold Program.fieldsOf; rw [hu]
    show (Op.equalIn 10000 t _ _).run P W = _
    rw [show (10000 : Nat) = 9998 + 1 + 1 from rfl, run_equalIn_struct W (9998 + 1) t xs ys (by rw [hfs]; exact hu) h1, hfs]
    exact run_eqFields_flat 9998 xs ys fs.toList 0 b (fun j f hj => by rw [Nat.zero_add]; exact hof j f hj) (by simpa using hf) (by simpa using hs)
  · show (Op.equalIn 10000 t _ _).run P W = _
    rw [show (10000 : Nat) = 9998 + 1 + 1 from rfl, run_equalIn_array W (9998 + 1) xs ys hu hi, hc, List.range_eq_range']
    exact run_eqItems_flat 9998 he xs ys n 0 b (by simpa using hf) (by simpa using hs)
theorem cellFit_plain {t : Nat} {x : Value} (h : cellFit P t x = true) : plainCell x = true := by
  unfold cellFit at h
  split at h <;> first | rfl | cases h
theorem fits_plain : ∀ {ts : List Nat} {l : List Value}, fitsL P ts l = true → ∀ x ∈ l, plainCell x = true
  | [], [], _, x, hx => by simp at hx
  | t :: ts, y :: l, h, x, hx => by
    simp only [fitsL, Bool.and_eq_true] at h
    rcases List.mem_cons.1 hx with rfl | hx
    · exact cellFit_plain h.1
    · exact fits_plain h.2 x hx
  | [], _ :: _, h, _, _ => by cases h
  | _ :: _, [], h, _, _ => by cases h
theorem fits_plainA {ts : List Nat} {cs : Array Value} (h : fitsL P ts cs.toList = true) : plain (.agg cs) = true := by
  show cs.all plainCell = true
  exact Array.all_eq_true'.2 fun x hx => fits_plain h x (by simpa using hx)
theorem run_check_c {t : TypeId} {x : Value} (hf : cellFit P t x = true) (em : Bool) (d : Nat) : (Instr.checkKey em (d + 1) t x).run P W = .ok () W := by
  unfold cellFit at hf
  split at hf
  · rename_i hu; simp [Instr.checkKey, run_underlying hu]
  · rename_i hu; simp [Instr.checkKey, run_underlying hu]
  · rename_i hu; simp [Instr.checkKey, run_underlying hu]
  · cases hf
theorem run_check_flat {t : Nat} {ts : List Nat} (ht : flatTy P t = some ts) {xs : Array Value} (hf : fitsL P ts xs.toList = true) (em : Bool) : (Instr.checkKey em 10000 t (.agg xs)).run P W = .ok () W := by
  obtain ⟨h1, h2, ⟨fs, hu, rfl, hof⟩ | ⟨n, e, i, hu, hi, he, hc, rfl⟩⟩ := flat_inv ht
  · rw [show (10000 : Nat) = 9998 + 1 + 1 from rfl, Instr.checkKey]
    simp only [Sem.run_bind, run_underlying hu, Result.andThen_ok]
    rw [← Array.forIn_toList]
    have key : ∀ (L : List Field) (i : Nat), (∀ (j : Nat) (f : Field), L[j]? = some f → f.name ≠ "_" ∧ P.plainKey f.type = true ∧ f.offset = i + j) → fitsL P (L.map (·.type)) (xs.toList.drop i) = true →
        Sem.run P (forIn L PUnit.unit fun f (_ : PUnit) => do
          if f.name ≠ "_" then Instr.checkKey em (9998 + 1) f.type (← part f.type xs f.offset)
          pure (ForInStep.yield PUnit.unit)) W = .ok PUnit.unit W := by
      intro L
      induction L with
      | nil => intro i _ _; simp
      | cons f L ih =>
        intro i hof hf
        obtain ⟨x, xr, e1, hcf, hr⟩ := fits_drop hf
        obtain ⟨n1, n2, n3⟩ := hof 0 f rfl
        obtain ⟨gx, dx⟩ := drop_head e1
        have p1 := run_part_plain W n2 (xs := xs) (off := f.offset) (by rw [n3, Nat.add_zero]; exact gx)
        have p2 := run_check_c (W := W) hcf em 9998
        simp only [List.forIn_cons, Sem.run_bind, n1, ne_eq, not_false_eq_true, if_true, Result.andThen_ok, p1, p2, Sem.run_pure]
        exact ih (i + 1) (fun j g hg => by have := hof (j + 1) g (by simpa using hg); exact ⟨this.1, this.2.1, by rw [this.2.2]; omega⟩) (by rw [dx]; exact hr)
    have := key fs.toList 0 (fun j f hj => by rw [Nat.zero_add]; exact hof j f hj) (by simpa using hf)
    simp at this ⊢
    rw [this]; rfl
  · rw [show (10000 : Nat) = 9998 + 1 + 1 from rfl, Instr.checkKey]
    simp only [Sem.run_bind, run_underlying hu, Result.andThen_ok]
    simp only [Std.Legacy.Range.forIn_eq_forIn_range', Std.Legacy.Range.size, Nat.sub_zero, Nat.add_one_sub_one, Nat.div_one]
    have key : ∀ (n i : Nat), fitsL P (List.replicate n e) (xs.toList.drop i) = true →
        Sem.run P (forIn (List.range' i n) PUnit.unit fun j (_ : PUnit) => do
          Instr.checkKey em (9998 + 1) e (← part e xs (j * (← sizeOf e)))
          pure (ForInStep.yield PUnit.unit)) W = .ok PUnit.unit W := by
      intro n
      induction n with
      | zero => intro i _; simp
      | succ n ih =>
        intro i hf
        rw [List.replicate_succ] at hf
        obtain ⟨x, xr, e1, hcf, hr⟩ := fits_drop hf
        obtain ⟨gx, dx⟩ := drop_head e1
        have p1 := run_part_plain W he (xs := xs) (off := i * 1) (by rw [Nat.mul_one]; exact gx)
        have p2 := run_check_c (W := W) hcf em 9998
        rw [List.range'_succ]
        simp only [List.forIn_cons, Sem.run_bind, run_sizeOf W hi, hc, Result.andThen_ok, p1, p2, Sem.run_pure]
        exact ih (i + 1) (by rw [dx]; exact hr)
    have := key n 0 (by simpa using hf)
    simp at this ⊢
    rw [this]; rfl
theorem sameC_eq {x y : Value} (h : sameC x y = some true) : x = y := by
  unfold sameC at h
  split at h
  · split at h
    · rename_i e; simp at h; rw [e, h]
    · cases h
  · simp at h; rw [h]
  · simp at h; rw [h]
  · cases h
theorem sameL_eq : ∀ {a b : List Value}, sameL a b = some true → a = b
  | [], [], _ => rfl
  | x :: a, y :: b, h => by
    unfold sameL at h
    split at h
    · rename_i hc; rw [sameC_eq hc, sameL_eq h]
    · cases h
    · cases h
  | [], _ :: _, h => by cases h
  | _ :: _, [], h => by cases h
theorem bits_flat {ts : List Nat} {cs : Array Value} (h : fitsL P ts cs.toList = true) : Instr.sameBits 10000 (.agg cs) (.agg cs) = true := by
  rw [show (10000 : Nat) = 9999 + 1 from rfl]
  simp only [Instr.sameBits, BEq.rfl, Bool.true_and]
  have key : ∀ (ts : List Nat) (l : List Value), fitsL P ts l = true → ((l.zip l).all fun (x, y) => Instr.sameBits 9999 x y) = true := by
    intro ts
    induction ts with
    | nil => intro l hl; cases l with | nil => rfl | cons x l => cases hl
    | cons t ts ih =>
      intro l hl
      obtain ⟨x, xr, rfl, h1, h2⟩ := fits_drop hl
      simp only [List.zip_cons_cons, List.all_cons, Bool.and_eq_true]
      refine ⟨?_, ih xr h2⟩
      unfold cellFit at h1
      split at h1 <;> first | (simp [Instr.sameBits, bytes_beq]; done) | cases h1
  exact key ts cs.toList h
theorem plainCell_eq {v v' : Value} (hp : plainCell v = true) (h : VRel ρ v v') : v' = v := by
  cases h with
  | same _ _ => rfl
  | _ => simp [plainCell] at hp
theorem plainCells_eq {a : Array Value} {x' : Value} (hp : plain (.agg a) = true) (h : VRel ρ (.agg a) x') : x' = .agg a := by
  cases h with
  | same _ _ => rfl
  | agg _ ys hs hh =>
    have hall : a.all plainCell = true := hp
    congr 1
    apply Array.ext_getElem?
    intro i
    by_cases hi : i < a.size
    · have hi' : i < ys.size := by omega
      rw [Array.getElem?_eq_getElem hi, Array.getElem?_eq_getElem hi']
      have h1 := hh i a[i] ys[i] (Array.getElem?_eq_getElem hi) (Array.getElem?_eq_getElem hi')
      have h2 := Array.all_eq_true'.1 hall a[i] (Array.getElem_mem hi)
      rw [plainCell_eq h2 h1]
    · rw [Array.getElem?_eq_none (by omega), Array.getElem?_eq_none (by omega)]
end
end Ph
