import Derived.Test.YtcbgjjbbeeoekaaDoorPhSound2
set_option linter.unusedVariables false
namespace Ph
open Go
section
variable {P : Program} {ρ : Ren} {h : Heap} {W : World}
/-! ## New blocks -/
theorem alloc_sound (hC : Conc ρ h W) (cs : List Value) (ys extra : Array Value) (hr : ARel ρ cs.toArray ys) (e : TypeId) (fr : Nat × Nat) (hfr : ∀ i, i < (ys ++ extra).size → ¬ (fr.1 ≤ i ∧ i < fr.2)) :
    Conc (ρ.add h.next ⟨W.heap.size, 0, (ys ++ extra).size⟩) (h.alloc (.cells cs .own)) { W with heap := W.heap.push (.cells (ys ++ extra) e fr) } ∧
    Frame h.next ρ h W (ρ.add h.next ⟨W.heap.size, 0, (ys ++ extra).size⟩) (h.alloc (.cells cs .own)) { W with heap := W.heap.push (.cells (ys ++ extra) e fr) } := by
  have hfree := hC.next h.next (Nat.le_refl _)
  have hlen : cs.length = ys.size := by simpa using hr.1
  refine hC.new h.next hfree (.cells cs .own) _ _ (h.next + 1) (by omega) (by omega) ?_ h.next (Nat.le_refl _)
  refine ⟨ys ++ extra, e, fr, by simp, rfl, by simp; omega, fun i v hv => ?_, hfr⟩
  have hi : i < ys.size := by rw [← hlen]; exact (List.getElem?_eq_some_iff.1 hv).1
  refine ⟨ys[i], ?_, (hr.2 i v ys[i] (by simpa using hv) (Array.getElem?_eq_getElem hi)).mono (Ren.add_le (hC.free _ hfree))⟩
  simp only [Nat.zero_add]
  rw [Array.getElem?_append_left hi]; exact Array.getElem?_eq_getElem hi
theorem add_self (ρ : Ren) (id : Nat) (c : CB) : (ρ.add id c) id = some c := by simp [Ren.add]
theorem ARel.mono {ρ' : Ren} (hs : ∀ id c, ρ id = some c → ρ' id = some c) {xs ys : Array Value} (hr : ARel ρ xs ys) : ARel ρ' xs ys := ⟨hr.1, fun i x y hx hy => (hr.2 i x y hx hy).mono hs⟩
theorem ARel.oneCells {xs ys : Array Value} (hr : ARel ρ xs ys) (h1 : xs.all (·.oneCell') = true) : ∀ y ∈ ys, y.oneCell' = true := by
  intro y hy
  obtain ⟨i, hi, he⟩ := Array.getElem_of_mem hy
  have hx : i < xs.size := by rw [hr.1]; exact hi
  have := hr.2 i xs[i] y (Array.getElem?_eq_getElem hx) (by rw [← he]; exact Array.getElem?_eq_getElem hi)
  rw [this.oneCell]
  exact Array.all_eq_true'.1 h1 _ (Array.getElem_mem hx)
/-! ## Literals -/
theorem over_list (off : Nat) : ∀ (l : List Value) (k : Nat) (cs : Array Value), off + k + l.length ≤ cs.size →
    ((l.zipIdx k).foldl (fun (cs : Array Value) (p : Value × Nat) => cs.setIfInBounds (off + p.2) p.1) cs).size = cs.size ∧
    ∀ i, i < cs.size → ((l.zipIdx k).foldl (fun (cs : Array Value) (p : Value × Nat) => cs.setIfInBounds (off + p.2) p.1) cs)[i]? = if off + k ≤ i ∧ i < off + k + l.length then l[i - (off + k)]? else cs[i]?
  | [], k, cs, _ => ⟨rfl, fun i hi => by rw [if_neg (by simp only [List.length_nil]; omega)]; rfl⟩
  | v :: r, k, cs, hl => by
    simp only [List.length_cons] at hl
    obtain ⟨a1, a2⟩ := over_list off r (k + 1) (cs.setIfInBounds (off + k) v) (by simp; omega)
    simp only [List.zipIdx_cons, List.foldl_cons]
    refine ⟨by rw [a1]; simp, fun i hi => ?_⟩
    rw [a2 i (by simpa using hi)]
    by_cases e1 : i = off + k
    · subst e1
      rw [if_neg (by omega), if_pos (by simp), Array.getElem?_setIfInBounds_self_of_lt hi]; simp
    · by_cases e2 : off + (k + 1) ≤ i ∧ i < off + (k + 1) + r.length
      · rw [if_pos e2, if_pos (by simp; omega)]
        obtain ⟨q, rfl⟩ : ∃ q, i = off + (k + 1) + q := ⟨i - (off + (k + 1)), by omega⟩
        rw [show off + (k + 1) + q - (off + (k + 1)) = q by omega, show off + (k + 1) + q - (off + k) = q + 1 by omega, List.getElem?_cons_succ]
      · rw [if_neg e2, if_neg (by simp; omega), Array.getElem?_setIfInBounds_ne (fun h => e1 h.symm)]
theorem splice_rel {cs vs : List Value} {cs' vs' : Array Value} (hr : ARel ρ cs.toArray cs') (hv : ARel ρ vs.toArray vs') (o : Nat) (hl : o + vs.length ≤ cs.length) :
    ARel ρ (splice cs o vs).toArray (vs'.zipIdx.foldl (fun (cs : Array Value) (p : Value × Nat) => cs.setIfInBounds (o + p.2) p.1) cs') := by
  have h1 : cs.length = cs'.size := by simpa using hr.1
  have h2 : vs.length = vs'.size := by simpa using hv.1
  have e : vs'.zipIdx.foldl (fun (cs : Array Value) (p : Value × Nat) => cs.setIfInBounds (o + p.2) p.1) cs' = (vs'.toList.zipIdx 0).foldl (fun (cs : Array Value) (p : Value × Nat) => cs.setIfInBounds (o + p.2) p.1) cs' := by
    rw [← Array.foldl_toList]; congr 1; simp [Array.toList_zipIdx]
  obtain ⟨a1, a2⟩ := over_list o vs'.toList 0 cs' (by simp; omega)
  rw [e]
  refine ⟨by rw [a1]; simp [splice]; omega, fun i x y hx hy => ?_⟩
  have hi : i < cs'.size := by rw [← a1]; exact (Array.getElem?_eq_some_iff.1 hy).1
  rw [a2 i hi] at hy
  simp only [List.getElem?_toArray, splice] at hx
  simp only [Nat.add_zero, Array.length_toList] at hy
  by_cases e1 : i < o
  · rw [if_neg (by omega)] at hy
    rw [List.append_assoc, List.getElem?_append_left (by simp; omega), List.getElem?_take_of_lt e1] at hx
    exact hr.2 i x y (by simpa using hx) hy
  · by_cases e2 : i < o + vs.length
    · rw [if_pos (by omega)] at hy
      rw [List.getElem?_append_left (by simp; omega), List.getElem?_append_right (by simp; omega)] at hx
      refine hv.2 (i - o) x y ?_ (by simpa using hy)
      simp only [List.getElem?_toArray]; rw [← hx]; congr 1; simp; omega
    · rw [if_neg (by omega)] at hy
      rw [List.getElem?_append_right (by simp; omega), List.getElem?_drop] at hx
      refine hr.2 i x y ?_ hy
      simp only [List.getElem?_toArray]; rw [← hx]; congr 1; simp; omega
inductive PRel (ρ : Ren) : List (Nat × Value) → List (Nat × Value) → Prop
  | nil : PRel ρ [] []
  | cons (i : Nat) (v v' : Value) (l l' : List (Nat × Value)) (hv : VRel ρ v v') (h : PRel ρ l l') : PRel ρ ((i, v) :: l) ((i, v') :: l')
theorem PRel.mono {ρ' : Ren} (hs : ∀ id c, ρ id = some c → ρ' id = some c) {l l' : List (Nat × Value)} (h : PRel ρ l l') : PRel ρ' l l' := by
  induction h with
  | nil => exact .nil
  | cons i v v' l l' hv _ ih => exact .cons i v v' l l' (hv.mono hs) ih
theorem fill_rel (pl : Nat → Option (Nat × Nat)) : ∀ (parts parts' : List (Nat × Value)) (cs : List Value) (cs' : Array Value) (r : List Value), ARel ρ cs.toArray cs' →
    PRel ρ parts parts' → fillL pl cs parts = some r → ∃ r', Instr.fill pl cs' parts' = some r' ∧ ARel ρ r.toArray r'
  | [], [], cs, cs', r, hr, _, hf => by simp only [fillL, Option.some.injEq] at hf; subst hf; exact ⟨cs', rfl, hr⟩
  | [], _ :: _, _, _, _, _, hp, _ => by cases hp
  | _ :: _, [], _, _, _, _, hp, _ => by cases hp
  | (i, v) :: rest, (j, v') :: rest', cs, cs', r, hr, hp, hf => by
    cases hp with
    | cons _ _ _ _ _ hv h2 =>
      simp only [fillL] at hf
      cases hpl : pl i with
      | none => simp [hpl] at hf
      | some p =>
        simp only [hpl] at hf
        split at hf
        · rename_i hc
          have hvc := hv.cells
          have hs := splice_rel hr (vs := v.cells.toList) (vs' := v'.cells) (by simpa using hvc) p.1 (by simpa using hc.2)
          obtain ⟨r', e1, e2⟩ := fill_rel pl rest rest' _ _ r hs h2 hf
          refine ⟨r', ?_, e2⟩
          simp only [Instr.fill, hpl]
          have h3 : v'.cells.size = p.2 := by rw [← hvc.1]; exact hc.1
          have h4 : cs.length = cs'.size := by simpa using hr.1
          have h5 : ¬ (p.1 + v'.cells.size > cs'.size) := by rw [← hvc.1]; omega
          rw [if_neg (by simp [h3]; omega)]
          exact e1
        · cases hf
theorem fill_more {pl pl' : Nat → Option (Nat × Nat)} (hpp : ∀ i p, pl i = some p → pl' i = some p) : ∀ (parts : List (Nat × Value)) (cs r : List Value), fillL pl cs parts = some r → fillL pl' cs parts = some r
  | [], cs, r, h => h
  | (i, v) :: rest, cs, r, h => by
    simp only [fillL] at h ⊢
    cases hpl : pl i with
    | none => simp [hpl] at h
    | some p =>
      simp only [hpl] at h
      simp only [hpp i p hpl]
      split at h
      · rename_i hc
        rw [if_pos hc]
        exact fill_more hpp rest _ r h
      · cases h
theorem zero_inv {t : Nat} {z : List Value} (h : zeroOf P t = some z) : ∃ i v, P.info? t = some i ∧ i.zero = some v ∧ z = v.cells.toList ∧ v.cells.all plainCell = true ∧ v.cells.size = P.cellsOf t := by
  unfold zeroOf at h
  cases hi : P.info? t with
  | none => simp [hi] at h
  | some i =>
    cases hz : i.zero with
    | none => simp [hi, hz] at h
    | some v =>
      simp only [hi, hz] at h
      split at h
      · rename_i hc
        simp only [Bool.and_eq_true, beq_iff_eq] at hc
        cases h
        exact ⟨i, v, rfl, hz, rfl, hc.1, by simpa [Program.cellsOf, hi] using hc.2⟩
      · cases h
theorem run_zero {t : Nat} {i : TypeInfo} {v : Value} (hi : P.info? t = some i) (hz : i.zero = some v) : (zeroValue t).run P W = .ok v W := by simp [zeroValue, typeInfo, hi, hz]
theorem run_places (l : List Field) (hl : ∀ f ∈ l, (P.info? f.type).isSome = true) :
    (l.mapM fun (f : Field) => do pure (f.offset, ← Go.sizeOf f.type) : Sem (List (Nat × Nat))).run P W = .ok (l.map fun f => (f.offset, P.cellsOf f.type)) W := by
  induction l with
  | nil => rfl
  | cons f r ih =>
    obtain ⟨i, hi⟩ := Option.isSome_iff_exists.1 (hl f (List.mem_cons_self ..))
    have ih' := ih (fun g hg => hl g (List.mem_cons_of_mem _ hg))
    simp only [List.mapM_cons, Sem.run_bind, run_size hi, Result.andThen_ok, Sem.run_pure, ih', List.map_cons]
theorem build_sound {t : Nat} {parts parts' : List (Nat × Value)} {cs : List Value} (hp : PRel ρ parts parts') (hb : buildV P t parts = some cs) :
    ∃ v', (∀ W : World, (Instr.build t parts'.toArray).run P W = .ok v' W) ∧ VRel ρ (.agg cs.toArray) v' := by
  unfold buildV at hb
  cases hpl : places P t with
  | none => simp [hpl] at hb
  | some pl =>
    cases hz : zeroOf P t with
    | none => simp [hpl, hz] at hb
    | some z =>
      simp only [hpl, hz] at hb
      obtain ⟨i, v, hi, hv, rfl, hplain, hsz⟩ := zero_inv hz
      unfold places at hpl
      split at hpl
      · rename_i fs hu
        split at hpl
        · rename_i hall
          cases hpl
          have hall' : ∀ f ∈ fs.toList, (P.info? f.type).isSome = true := fun f hf => Array.all_eq_true'.1 hall f (by simpa using hf)
          have hm : ∀ W : World, (fs.mapM fun (f : Field) => do pure (f.offset, ← Go.sizeOf f.type) : Sem (Array (Nat × Nat))).run P W = .ok ((fs.toList.map fun f => (f.offset, P.cellsOf f.type)).toArray) W := by
            intro W
            have e := run_places (P := P) (W := W) fs.toList hall'
            rw [Array.mapM_eq_mapM_toList, Sem.run_map, e]
            rfl
          obtain ⟨r', e1, e2⟩ := fill_rel (ρ := ρ) _ parts parts' _ v.cells cs (by simpa using ARel.of_plain hplain) hp hb
          refine ⟨.agg r', fun W => ?_, .agg _ _ e2.1 e2.2⟩
          have e1' : Instr.fill (fun x => ((fs.toList.map fun f => (f.offset, P.cellsOf f.type)).toArray)[x]?) v.cells parts' = some r' := by
            rw [← e1]; congr 1; funext x; simp
          simp only [Instr.build, Sem.run_bind, run_zero hi hv, Result.andThen_ok, run_und hu, hm W]
          rw [e1']
          rfl
        · cases hpl
      · rename_i len e hu
        split at hpl
        · rename_i hie
          cases hpl
          obtain ⟨ie, hie⟩ := Option.isSome_iff_exists.1 hie
          have hb' : fillL (fun i => some (i * P.cellsOf e, P.cellsOf e)) v.cells.toList parts = some cs := fill_more (fun i p hp => by
            simp only [List.getElem?_map] at hp
            cases hr : (List.range len)[i]? with
            | none => simp [hr] at hp
            | some j =>
              have hj := (List.getElem?_eq_some_iff.1 hr).2
              simp only [List.getElem_range] at hj
              rw [hr] at hp
              subst hj
              simpa using hp) parts _ cs hb
          obtain ⟨r', e1, e2⟩ := fill_rel (ρ := ρ) _ parts parts' _ v.cells cs (by simpa using ARel.of_plain hplain) hp hb'
          refine ⟨.agg r', fun W => ?_, .agg _ _ e2.1 e2.2⟩
          simp only [Instr.build, Sem.run_bind, run_zero hi hv, Result.andThen_ok, run_und hu, run_size hie]
          rw [e1]
          rfl
        · cases hpl
      · cases hpl
end
end Ph
