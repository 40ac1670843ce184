import Derived.Test.YtcbgjjbbeeoekaaDoorPhSound6
import Derived.Maps.RangeRun
set_option linter.unusedVariables false
/-! Loops over maps. -/
namespace Ph
open Go Go.RowKit
section
variable {P : Program} {ρ : Ren} {h : Heap} {W : World}
theorem range_sound {t : Nat} {x x' : Value} {K : Blk → Prop} (hC : Conc ρ h W) (hx : VRel ρ x x') (hs : @rangeH P t x h ⟨K⟩) :
    ∃ (b : Blk) (o : Obj), (Instr.range t x').run P W = .ok (.pointer (some ⟨W.heap.size, 0, none⟩)) { W with heap := W.heap.push o } ∧
      BlkAt (ρ.add h.next ⟨W.heap.size, 0, 0⟩) { W with heap := W.heap.push o } ⟨W.heap.size, 0, 0⟩ b ∧ K b := by
  have hadd : ∀ id c, ρ id = some c → (ρ.add h.next ⟨W.heap.size, 0, 0⟩) id = some c := Ren.add_le (hC.free _ (hC.next _ (Nat.le_refl _)))
  unfold rangeH at hs
  cases hm : mapTy P t with
  | none => rw [hm] at hs; exact hs.elim
  | some ke =>
    rw [hm] at hs
    simp only [onSome] at hs
    have hu := mapTy_inv hm
    split at hs
    · have hx0 := hx.nilmap_inv
      subst hx0
      refine ⟨.iter none 0 #[] 0 .own, .mapIter none 0 #[] 0, ?_, ⟨rfl, none, by simp, .same _ rfl⟩, hs⟩
      simp [Instr.range, run_underlying hu]
    · rename_i id
      obtain ⟨c, hc, rfl⟩ := hx.map_inv
      cases hg : h.get id with
      | free => simp [onMap, hg] at hs
      | dead => simp [onMap, hg] at hs
      | live b =>
        cases b with
        | cells _ _ => simp [onMap, hg] at hs
        | iter _ _ _ _ _ => simp [onMap, hg] at hs
        | loop _ _ => simp [onMap, hg] at hs
        | map es cl o =>
          simp only [onMap, hg] at hs
          obtain ⟨en, w1, w2, w3⟩ := map_at hC hc hg
          refine ⟨.iter (some id) cl #[] cl .own, .mapIter (some c.blk) cl #[] cl, ?_, ⟨rfl, some c.blk, by simp, .map id c (hadd id c hc)⟩, hs⟩
          simp [Instr.range, run_underlying hu, run_getM w1]
    · exact hs.elim
theorem iter_at {id : Nat} {c : CB} {m : Option Nat} {since last : Nat} {seen : Array Nat} {o : Own} (hC : Conc ρ h W) (hc : ρ id = some c) (hg : h.get id = .live (.iter m since seen last o)) :
    c.sh = 0 ∧ ∃ m', W.heap[c.blk]? = some (.mapIter m' since seen last) ∧ VRel ρ (.map m) (.map m') := by
  have := hC.at_ _ _ _ hc hg
  exact this
theorem next_sound {v v' : Value} {ty : TypeId} {K : Value → Heap → Prop} (hC : Conc ρ h W) (hv : VRel ρ v v') (hs : @nextH v h ⟨K⟩) :
    ∃ (u u' : Value) (W' : World) (h' : Heap), (Instr.next v' false ty).run P W = .ok u' W' ∧ Conc ρ h' W' ∧ Frame h.next ρ h W ρ h' W' ∧ VRel ρ u u' ∧ K u h' := by
  unfold nextH at hs
  cases v with
  | pointer p =>
    cases p with
    | none => exact hs.elim
    | some A =>
      simp only [onPtr] at hs
      obtain ⟨hA, hs⟩ := hs
      obtain ⟨c, hc, _, rfl⟩ := hv.ptr_inv
      cases hg : h.get A.block with
      | free => simp [onIter, hg] at hs
      | dead => simp [onIter, hg] at hs
      | live b =>
        cases b with
        | cells _ _ => simp [onIter, hg] at hs
        | map _ _ _ => simp [onIter, hg] at hs
        | loop _ _ => simp [onIter, hg] at hs
        | iter m since seen last o =>
          simp only [onIter, hg] at hs
          obtain ⟨rfl, hs⟩ := hs
          obtain ⟨s0, m', i1, i2⟩ := iter_at hC hc hg
          have e0 : c.sh + A.off = 0 := by omega
          rw [e0]
          cases m with
          | none =>
            have hm0 : m' = none := by have := i2.nilmap_inv; cases this; rfl
            subst hm0
            refine ⟨_, _, W, h, ?_, hC, Frame.refl _ _ _ _, .same (.tuple #[.bool false]) rfl, hs⟩
            simp [Instr.next, getObj, Sem.run, i1, Result.andThen]
          | some id =>
            obtain ⟨c2, hc2, e2⟩ := i2.map_inv
            cases e2
            dsimp only at hs
            cases hg2 : h.get id with
            | free => simp [onMap, hg2] at hs
            | dead => simp [onMap, hg2] at hs
            | live b2 =>
              cases b2 with
              | cells _ _ => simp [onMap, hg2] at hs
              | iter _ _ _ _ _ => simp [onMap, hg2] at hs
              | loop _ _ => simp [onMap, hg2] at hs
              | map es cl o2 =>
                simp only [onMap, hg2] at hs
                obtain ⟨⟨hb1, hb2⟩, hend, hstep⟩ := hs
                obtain ⟨en, w1, w2, w3⟩ := map_at hC hc2 hg2
                have hold : ∀ x ∈ en.toList, x.born < since := fun x hx => by
                  obtain ⟨i, hi, he⟩ := List.getElem_of_mem hx
                  have hil : i < es.length := by rw [← w2]; simpa using hi
                  have := w3 i es[i].1 es[i].2.1 es[i].2.2 x (List.getElem?_eq_getElem hil) (by rw [← he]; simp)
                  have h9 := hb1 es[i] (List.getElem_mem _)
                  omega
                rcases run_next_at (P := P) W ty c.blk c2.blk since last seen en cl i1 w1 hold hb2 with ⟨l0, l1⟩ | ⟨e, he, W1, hW1, hrun⟩
                · refine ⟨_, _, W, h, l1, hC, Frame.refl _ _ _ _, .same (.tuple #[.bool false]) rfl, hend fun e he => ?_⟩
                  obtain ⟨i, hi, he2⟩ := List.getElem_of_mem he
                  have hin : i < en.size := by rw [w2]; exact hi
                  have h9 := w3 i e.1 e.2.1 e.2.2 en[i] (by rw [List.getElem?_eq_getElem hi, he2]) (Array.getElem?_eq_getElem hin)
                  have hl : leftOf en seen = #[] := Array.eq_empty_of_size_eq_zero l0
                  unfold leftOf at hl
                  rw [Array.filter_eq_empty_iff] at hl
                  have := hl en[i] (Array.getElem_mem hin)
                  rw [h9.2.2.2] at this
                  simpa using this
                · have he3 : e ∈ en ∧ e.born ∉ seen := by
                    unfold leftOf at he
                    have := Array.mem_toList_iff.1 he
                    rw [Array.mem_filter] at this
                    exact ⟨this.1, by simpa using this.2⟩
                  obtain ⟨i, hi, he2⟩ := Array.getElem_of_mem he3.1
                  have hil : i < es.length := by rw [← w2]; exact hi
                  have h9 := w3 i es[i].1 es[i].2.1 es[i].2.2 e (List.getElem?_eq_getElem hil) (by rw [← he2]; exact Array.getElem?_eq_getElem hi)
                  have hB : Below W.heap.size W W1 := by
                    rcases hW1 with rfl | rfl
                    · exact Below.refl _ _
                    · exact (Below.refl _ _).drew
                  have hD : W.drawn ≤ W1.drawn := by rcases hW1 with rfl | rfl; exact Nat.le_refl _; exact Nat.le_succ _
                  have hC1 := hC.below hB
                  have hsz : W1.heap.size = W.heap.size := by rcases hW1 with rfl | rfl <;> rfl
                  have hlt : c.blk < W1.heap.size := by rw [hsz]; exact hC.lt _ _ hc
                  obtain ⟨t1, t2⟩ := hC1.turn (W' := ChangeMaps.setBlock W1 c.blk (.mapIter (some c2.blk) since (seen.push e.born) cl)) A.block c hc ⟨_, hg, rfl⟩ (.iter (some id) since (seen.push es[i].2.2) cl .own) (fun k hk => Array.getElem?_setIfInBounds_ne (fun e => hk e.symm)) (by simp [ChangeMaps.setBlock]) rfl rfl rfl (Nat.le_refl _) ⟨s0, some c2.blk, by rw [← h9.2.2.2]; exact Array.getElem?_setIfInBounds_self_of_lt hlt, i2⟩ h.next
                  refine ⟨.tuple #[.bool true, es[i].1, es[i].2.1], .tuple #[.bool true, e.key, e.val], _, _, hrun, t1, (Frame.below ⟨hB, hD⟩).trans t2, ?_, hstep es[i] (List.getElem_mem _) (by rw [← h9.2.2.2]; exact he3.2)⟩
                  refine .tuple _ _ rfl fun j a b ha hb => ?_
                  match j, ha, hb with
                  | 0, ha, hb => cases ha; cases hb; exact .same _ rfl
                  | 1, ha, hb => cases ha; cases hb; rw [h9.2.1]; exact .same _ h9.1
                  | 2, ha, hb => cases ha; cases hb; exact h9.2.2.1
                  | j + 3, ha, hb => simp at ha
  | _ => exact hs.elim
theorem entry_sound {v v' : Value} {K : Value → Prop} (hC : Conc ρ h W) (hv : VRel ρ v v') (hs : @entryH v h ⟨K⟩) :
    ∃ u u' : Value, (Instr.entry v').run P W = .ok u' W ∧ VRel ρ u u' ∧ K u := by
  unfold entryH at hs
  cases v with
  | pointer p =>
    cases p with
    | none => exact hs.elim
    | some A =>
      simp only [onPtr] at hs
      obtain ⟨hA, hs⟩ := hs
      obtain ⟨c, hc, _, rfl⟩ := hv.ptr_inv
      cases hg : h.get A.block with
      | free => simp [onIter, hg] at hs
      | dead => simp [onIter, hg] at hs
      | live b =>
        cases b with
        | cells _ _ => simp [onIter, hg] at hs
        | map _ _ _ => simp [onIter, hg] at hs
        | loop _ _ => simp [onIter, hg] at hs
        | iter m since seen last o =>
          simp only [onIter, hg] at hs
          obtain ⟨s0, m', i1, i2⟩ := iter_at hC hc hg
          have e0 : c.sh + A.off = 0 := by omega
          rw [e0]
          cases m with
          | none => exact hs.elim
          | some id =>
            obtain ⟨c2, hc2, e2⟩ := i2.map_inv
            cases e2
            simp only [onSome] at hs
            cases hst : seen.back? with
            | none => rw [hst] at hs; exact hs.elim
            | some st =>
              rw [hst] at hs
              dsimp only at hs
              cases hg2 : h.get id with
              | free => simp [onMap, hg2] at hs
              | dead => simp [onMap, hg2] at hs
              | live b2 =>
                cases b2 with
                | cells _ _ => simp [onMap, hg2] at hs
                | iter _ _ _ _ _ => simp [onMap, hg2] at hs
                | loop _ _ => simp [onMap, hg2] at hs
                | map es cl o2 =>
                  simp only [onMap, hg2] at hs
                  obtain ⟨rfl, hs⟩ := hs
                  cases hf : es.find? (fun e => e.2.2 == st) with
                  | none => rw [hf] at hs; exact hs.elim
                  | some e =>
                    rw [hf] at hs
                    obtain ⟨en, w1, w2, w3⟩ := map_at hC hc2 hg2
                    obtain ⟨p1, i, hi, he, hmin⟩ := List.find?_eq_some_iff_getElem.1 hf
                    have hin : i < en.size := by rw [w2]; exact hi
                    have h9 := w3 i e.1 e.2.1 e.2.2 en[i] (by rw [List.getElem?_eq_getElem hi, he]) (Array.getElem?_eq_getElem hin)
                    have hff : en.find? (fun x => x.born == st) = some en[i] := by
                      rw [← Array.find?_toList, List.find?_eq_some_iff_getElem]
                      refine ⟨by rw [h9.2.2.2]; exact p1, i, by simpa using hin, by simp, fun j hj => ?_⟩
                      have hjl : j < es.length := by omega
                      have hjn : j < en.size := by rw [w2]; exact hjl
                      have h8 := w3 j es[j].1 es[j].2.1 es[j].2.2 en[j] (List.getElem?_eq_getElem hjl) (Array.getElem?_eq_getElem hjn)
                      have h7 := hmin j hj
                      simp only [Array.getElem_toList]
                      rw [h8.2.2.2]; exact h7
                    refine ⟨.tuple #[e.1, e.2.1], .tuple #[en[i].key, en[i].val], ?_, ?_, hs⟩
                    · simp [Instr.entry, getObj, Sem.run, i1, w1, Result.andThen, hst, hff]
                    · refine .tuple _ _ rfl fun j a b ha hb => ?_
                      match j, ha, hb with
                      | 0, ha, hb => cases ha; cases hb; rw [h9.2.1]; exact .same _ h9.1
                      | 1, ha, hb => cases ha; cases hb; exact h9.2.2.1
                      | j + 2, ha, hb => simp at ha
  | _ => exact hs.elim
end
end Ph
