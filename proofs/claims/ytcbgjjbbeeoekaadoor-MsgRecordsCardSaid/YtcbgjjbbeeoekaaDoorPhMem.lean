import Derived.Test.YtcbgjjbbeeoekaaDoorPhSound
import Derived.Laws.IdiomCopy
import Derived.Deep.AppendSrc
import Derived.Lib.ConvBytes
import Derived.Laws.BytesString
set_option linter.unusedVariables false
namespace Ph
open Go
section
variable {P : Program} {ρ : Ren} {h : Heap} {W : World}
/-! ## Cells written -/
theorem setCell_drawn (W : World) (a : Addr) (v : Value) : (W.setCell a v).drawn = W.drawn := rfl
theorem setCell_heap (W : World) (b o : Nat) (v : Value) (cs : Array Value) (e : TypeId) (fr : Nat × Nat) (hg : W.heap[b]? = some (.cells cs e fr)) :
    (W.setCell ⟨b, o, none⟩ v).heap[b]? = some (.cells (cs.setIfInBounds o v) e fr) ∧ (∀ k, k ≠ b → (W.setCell ⟨b, o, none⟩ v).heap[k]? = W.heap[k]?) ∧ (W.setCell ⟨b, o, none⟩ v).heap.size = W.heap.size := by
  refine ⟨by simp [World.setCell, Array.getElem?_modify, hg], fun k hk => by simp [World.setCell, Array.getElem?_modify, Ne.symm hk], by simp [World.setCell]⟩
theorem setCells_heap (b : Nat) (e : TypeId) (fr : Nat × Nat) : ∀ (vs : List Value) (o : Nat) (W : World) (cs : Array Value), W.heap[b]? = some (.cells cs e fr) →
    ∃ cs', (W.setCells b o vs).heap[b]? = some (.cells cs' e fr) ∧ cs'.size = cs.size ∧ (∀ i, i < cs.size → cs'[i]? = if o ≤ i ∧ i < o + vs.length then vs[i - o]? else cs[i]?) ∧
      (∀ k, k ≠ b → (W.setCells b o vs).heap[k]? = W.heap[k]?) ∧ (W.setCells b o vs).heap.size = W.heap.size ∧ (W.setCells b o vs).os = W.os ∧ (W.setCells b o vs).tape = W.tape ∧ (W.setCells b o vs).output = W.output
  | [], o, W, cs, hg => ⟨cs, hg, rfl, fun i hi => by rw [if_neg (by simp only [List.length_nil]; omega)], fun _ _ => rfl, rfl, rfl, rfl, rfl⟩
  | v :: r, o, W, cs, hg => by
    obtain ⟨h1, h2, h3⟩ := setCell_heap W b o v cs e fr hg
    obtain ⟨cs', a1, a2, a3, a4, a5, a6, a7, a8⟩ := setCells_heap b e fr r (o + 1) _ _ h1
    refine ⟨cs', a1, by simpa using a2, fun i hi => ?_, fun k hk => (a4 k hk).trans (h2 k hk), a5.trans h3, a6, a7, a8⟩
    rw [a3 i (by simpa using hi)]
    by_cases e1 : i = o
    · subst e1
      rw [if_neg (by omega), if_pos (by simp), Array.getElem?_setIfInBounds_self_of_lt hi]; simp
    · by_cases e2 : o + 1 ≤ i ∧ i < o + 1 + r.length
      · rw [if_pos e2, if_pos (by simp; omega)]
        obtain ⟨k, rfl⟩ : ∃ k, i = o + 1 + k := ⟨i - (o + 1), by omega⟩
        rw [show o + 1 + k - (o + 1) = k by omega, show o + 1 + k - o = k + 1 by omega, List.getElem?_cons_succ]
      · rw [if_neg e2, if_neg (by simp; omega), Array.getElem?_setIfInBounds_ne (fun h => e1 h.symm)]
theorem BlkAt.own_at {c : CB} {vs : List Value} (h : BlkAt ρ W c (.cells vs .own)) : ∃ cs e fr, W.heap[c.blk]? = some (.cells cs e fr) ∧ cs.size = c.sz ∧ c.sh + vs.length ≤ c.sz ∧
      (∀ (i : Nat) (v : Value), vs[i]? = some v → ∃ v', cs[c.sh + i]? = some v' ∧ VRel ρ v v') ∧ (∀ i, i < cs.size → ¬ (fr.1 ≤ i ∧ i < fr.2)) := h
/-- Cells of a block of one's own are written: the block reads so. -/
theorem setCells_drawn : ∀ (vs : List Value) (b o : Nat) (W : World), (W.setCells b o vs).drawn = W.drawn
  | [], _, _, _ => rfl
  | v :: vs, b, o, W => by rw [World.setCells, setCells_drawn vs]; exact setCell_drawn W _ v
theorem write_own {c : CB} {vs : List Value} (hb : BlkAt ρ W c (.cells vs .own)) (o : Nat) (xs ys : List Value) (hl : o + xs.length ≤ vs.length) (hr : ARel ρ xs.toArray ys.toArray) (h1 : ∀ y ∈ ys, y.oneCell' = true) :
    (storeCells ⟨c.blk, c.sh + o, none⟩ ys 0).run P W = .ok () (W.setCells c.blk (c.sh + o) ys) ∧
    BlkAt ρ (W.setCells c.blk (c.sh + o) ys) c (.cells (vs.take o ++ xs ++ vs.drop (o + xs.length)) .own) ∧
    (∀ k, k ≠ c.blk → (W.setCells c.blk (c.sh + o) ys).heap[k]? = W.heap[k]?) ∧ (W.setCells c.blk (c.sh + o) ys).heap.size = W.heap.size ∧ (W.setCells c.blk (c.sh + o) ys).os = W.os ∧ (W.setCells c.blk (c.sh + o) ys).tape = W.tape ∧ (W.setCells c.blk (c.sh + o) ys).output = W.output := by
  obtain ⟨cs, e, fr, g1, g2, g3, g4, g5⟩ := hb.own_at
  have hlen : xs.length = ys.length := by simpa using hr.1
  obtain ⟨cs', a1, a2, a3, a4, a5, a6, a7, a8⟩ := setCells_heap c.blk e fr ys (c.sh + o) W cs g1
  refine ⟨?_, ⟨cs', e, fr, a1, a2.trans g2, by simp; omega, fun i v hv => ?_, fun i hi => g5 i (by omega)⟩, a4, a5, a6, a7, a8⟩
  · have := run_storeCells_cells (P := P) c.blk (c.sh + o) ys 0 W (fun j hj => by
      have hj' : c.sh + o + j < cs.size := by omega
      simp [World.cell?, g1, hj']) (fun j hj => by
      have := g5 (c.sh + o + 0 + j) (by omega)
      simp only [World.frozen?, g1]
      cases hd : (decide (fr.1 ≤ c.sh + o + 0 + j) && decide (c.sh + o + 0 + j < fr.2)) with
      | false => rfl
      | true => simp only [Bool.and_eq_true, decide_eq_true_eq] at hd; exact absurd hd this) h1
    simpa using this
  · rw [a3 _ (by have := (List.getElem?_eq_some_iff.1 hv).1; simp at this; omega)]
    by_cases e1 : i < o
    · rw [if_neg (by omega)]
      rw [List.append_assoc, List.getElem?_append_left (by simp; omega), List.getElem?_take_of_lt e1] at hv
      exact g4 i v hv
    · by_cases e2 : i < o + xs.length
      · rw [if_pos (by omega)]
        rw [List.getElem?_append_left (by simp; omega), List.getElem?_append_right (by simp; omega)] at hv
        have hv' : xs[i - o]? = some v := by rw [← hv]; congr 1; simp; omega
        have hi : i - o < ys.length := by omega
        refine ⟨ys[i - o], by rw [show c.sh + i - (c.sh + o) = i - o by omega]; exact List.getElem?_eq_getElem hi, hr.2 (i - o) _ _ (by simpa using hv') (by simp)⟩
      · rw [if_neg (by omega)]
        rw [List.getElem?_append_right (by simp; omega), List.getElem?_drop] at hv
        refine g4 i v ?_
        rw [← hv]; congr 1; simp; omega
theorem run_storeAt {t : TypeId} {k : Nat} (hi : ∃ i, P.info? t = some i ∧ P.cellsOf t = k) (A : Addr) (v : Value) (hv : v.cells.size = k) {W' : World}
    (hs : (storeCells A v.cells.toList 0).run P W = .ok () W') : (Instr.storeAt t (.pointer (some A)) v).run P W = .ok () W' := by
  obtain ⟨i, hi, hk⟩ := hi
  simp [Instr.storeAt, Instr.sureAddr, storeVar, run_size hi, hk, hv, hs]
theorem agg_one {t : Nat} (h : aggSize P t = some none) : ∃ i, P.info? t = some i ∧ P.cellsOf t = 1 := by
  unfold aggSize at h
  cases hi : P.info? t with
  | none => simp [hi] at h
  | some i =>
    cases hu : P.underlying t with
    | none => simp [hi, hu] at h
    | some d => cases d <;> simp [hi, hu, Program.cellsOf] at h ⊢ <;> exact h
theorem Conc.owns_of {id : Nat} {vs : List Value} (hh : h.get id = .live (.cells vs .own)) : h.owns id := ⟨_, hh, rfl⟩
theorem cells_of_one {v : Value} (h : v.oneCell' = true) : v.cells = #[v] := by cases v <;> simp_all [Value.oneCell', Value.cells]
theorem store_sound {t : Nat} {a : Addr} {v v' : Value} {K : Heap → Prop} (hC : Conc ρ h W) {c : CB} (hc : ρ a.block = some c) (hv : VRel ρ v v') (hs : @storeH P t a v h ⟨K⟩) :
    ∃ W' h', (Instr.storeAt t (.pointer (some ⟨c.blk, c.sh + a.off, none⟩)) v').run P W = .ok () W' ∧ Conc ρ h' W' ∧ Frame h.next ρ h W ρ h' W' ∧ K h' := by
  unfold storeH at hs
  cases ha : aggSize P t with
  | none => rw [ha] at hs; exact hs.elim
  | some s =>
    rw [ha] at hs
    cases hg : h.get a.block with
    | free => simp [onSome, onCells, hg] at hs
    | dead => simp [onSome, onCells, hg] at hs
    | live b =>
      cases b with
      | map _ _ _ => simp [onSome, onCells, hg] at hs
      | iter _ _ _ _ _ => simp [onSome, onCells, hg] at hs
      | loop _ _ => simp [onSome, onCells, hg] at hs
      | cells vs o =>
        simp only [onSome, onCells, hg] at hs
        obtain ⟨rfl, hs⟩ := hs
        have hat := hC.at_ _ _ _ hc hg
        cases s with
        | none =>
          obtain ⟨⟨h1, h2⟩, hK⟩ := hs
          have h1' : v'.oneCell' = true := by rw [hv.oneCell]; exact h1
          obtain ⟨w1, w2, w3, w4, w5, w6, w7⟩ := write_own (P := P) hat a.off [v] [v'] (by simp; omega) (by
            refine ⟨rfl, fun i x y hx hy => ?_⟩
            cases i with
            | zero => simp at hx hy; subst hx; subst hy; exact hv
            | succ i => simp at hx) (by simpa using h1')
          have e : vs.take a.off ++ [v] ++ vs.drop (a.off + [v].length) = vs.set a.off v := by rw [List.set_eq_take_append_cons_drop, if_pos h2]; simp
          rw [e] at w2
          obtain ⟨t1, t2⟩ := hC.turn a.block c hc ⟨_, hg, rfl⟩ _ w3 w4 w5 w6 w7 (Nat.le_of_eq (setCells_drawn ..).symm) w2 h.next
          exact ⟨_, _, run_storeAt (agg_one ha) _ _ (by rw [cells_of_one h1']; rfl) (by rw [cells_of_one h1']; exact w1), t1, t2, hK⟩
        | some n =>
          obtain ⟨⟨h1, h2, h3⟩, hK⟩ := hs
          have hcr := hv.cells
          have hsz : v'.cells.size = n := by rw [← hcr.1]; exact h1
          obtain ⟨w1, w2, w3, w4, w5, w6, w7⟩ := write_own (P := P) hat a.off v.cells.toList v'.cells.toList (by simp; omega) (by simpa using hcr) (fun y hy => by
            obtain ⟨i, hi, he⟩ := List.getElem_of_mem hy
            have hx : i < v.cells.size := by rw [hcr.1]; simpa using hi
            have := hcr.2 i v.cells[i] y (Array.getElem?_eq_getElem hx) (by rw [← he]; simp)
            rw [this.oneCell]
            exact Array.all_eq_true'.1 h2 _ (Array.getElem_mem hx))
          simp only [Array.length_toList, h1] at w2
          obtain ⟨t1, t2⟩ := hC.turn a.block c hc ⟨_, hg, rfl⟩ _ w3 w4 w5 w6 w7 (Nat.le_of_eq (setCells_drawn ..).symm) w2 h.next
          exact ⟨_, _, run_storeAt (agg_some (W := W) ha).2 _ _ hsz w1, t1, t2, hK⟩
theorem load_sound {t : Nat} {a : Addr} {K : Value → Prop} (hC : Conc ρ h W) {c : CB} (hc : ρ a.block = some c) (hs : @loadH P t a h ⟨K⟩) :
    ∃ v v', (∀ W', W'.heap[c.blk]? = W.heap[c.blk]? → (Instr.loadAt t (.pointer (some ⟨c.blk, c.sh + a.off, none⟩))).run P W' = .ok v' W') ∧ VRel ρ v v' ∧ K v := by
  have sameCell : ∀ (W' : World), W'.heap[c.blk]? = W.heap[c.blk]? → ∀ o, W'.cell? ⟨c.blk, o, none⟩ = W.cell? ⟨c.blk, o, none⟩ := fun W' hw o => by simp only [World.cell?, hw]
  unfold loadH at hs
  cases ha : aggSize P t with
  | none => rw [ha] at hs; exact hs.elim
  | some s =>
    rw [ha] at hs
    cases hg : h.get a.block with
    | free => simp [onSome, onCells, hg] at hs
    | dead => simp [onSome, onCells, hg] at hs
    | live b =>
      cases b with
      | map _ _ _ => simp [onSome, onCells, hg] at hs
      | iter _ _ _ _ _ => simp [onSome, onCells, hg] at hs
      | loop _ _ => simp [onSome, onCells, hg] at hs
      | cells vs o =>
        simp only [onSome, onCells, hg] at hs
        have hat := hC.at_ _ _ _ hc hg
        cases s with
        | none =>
          cases hv : vs[a.off]? with
          | none => simp [hv] at hs
          | some v =>
            simp only [hv] at hs
            obtain ⟨v', h1, h2⟩ := hat.cell hv
            exact ⟨v, v', fun W' hw => by simp [Instr.loadAt, Instr.sureAddr, loadVar, agg_none (W := W') ha, sameCell W' hw, h1], h2, hs⟩
        | some n =>
          obtain ⟨h1, hK⟩ := hs
          obtain ⟨ys, y1, y2, y3⟩ := cells_list hat a.off n h1
          refine ⟨_, .agg ys.toArray, fun W' hw => ?_, .agg _ _ y3.1 y3.2, hK⟩
          obtain ⟨g1, i, g2, g3⟩ := agg_some (W := W') ha
          have hl := run_loadCells_list (P := P) (w := W') _ ys (fun j v hj => by rw [addr_add, sameCell W' hw, ← addr_add]; exact y2 j v hj)
          rw [y1] at hl
          simp [Instr.loadAt, Instr.sureAddr, loadVar, g1, run_size g2, g3, hl]
end
end Ph
