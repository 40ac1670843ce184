import Derived.Test.YtcbgjjbbeeoekaaDoorPhMap2
import Derived.Laws.MakeOwn
set_option linter.unusedVariables false
namespace Ph
open Go Go.RowKit
section
variable {P : Program} {n lo : Nat} {ρ : Ren} {r : Regs} {a : Act} {h : Heap} {W : World} {o : Oper}
theorem alloc0 (hC : Conc ρ h W) (cs : List Value) (ys : Array Value) (hr : ARel ρ cs.toArray ys) (e : TypeId) :
    Conc (ρ.add h.next ⟨W.heap.size, 0, ys.size⟩) (h.alloc (.cells cs .own)) { W with heap := W.heap.push (.cells ys e) } ∧
    Frame h.next ρ h W (ρ.add h.next ⟨W.heap.size, 0, ys.size⟩) (h.alloc (.cells cs .own)) { W with heap := W.heap.push (.cells ys e) } ∧ (∀ id c, ρ id = some c → (ρ.add h.next ⟨W.heap.size, 0, ys.size⟩) id = some c) := by
  have := alloc_sound hC cs ys #[] hr e (0, 0) (nofreeze _)
  simp only [Array.append_empty] at this
  exact ⟨this.1, this.2, Ren.add_le (hC.free _ (hC.next _ (Nat.le_refl _)))⟩
theorem repl_length : ∀ (k : Nat) (z : List Value), (repl k z).length = k * z.length
  | 0, z => by simp [repl]
  | k + 1, z => by simp [repl, repl_length k z, Nat.add_mul, Nat.add_comm]
theorem repl_get : ∀ (k : Nat) (z : List Value) (i : Nat), i < k * z.length → (repl k z)[i]? = z[i % z.length]?
  | 0, z, i, h => by simp at h
  | k + 1, z, i, h => by
    simp only [repl]
    by_cases hi : i < z.length
    · rw [List.getElem?_append_left hi, Nat.mod_eq_of_lt hi]
    · rw [List.getElem?_append_right (by omega), repl_get k z (i - z.length) (by rw [Nat.add_mul] at h; omega), ← Nat.mod_eq_sub_mod (by omega)]
theorem fillL_length (pl : Nat → Option (Nat × Nat)) : ∀ (parts : List (Nat × Value)) (cs r : List Value), fillL pl cs parts = some r → r.length = cs.length
  | [], cs, r, h => by simp only [fillL, Option.some.injEq] at h; rw [h]
  | (i, v) :: rest, cs, r, h => by
    simp only [fillL] at h
    split at h
    · cases h
    · split at h
      · rename_i p _ hc
        rw [fillL_length pl rest _ r h]; simp [splice]; omega
      · cases h
theorem sliceLit_sound {t len : Nat} {parts parts' : List (Nat × Value)} {sc : Nat × List Value} (hC : Conc ρ h W) (hp : PRel ρ parts parts') (hb : sliceLit P t len parts = some sc) :
    ∃ (cells : Array Value) (e : TypeId), (Instr.buildSlice t len parts'.toArray).run P W = .ok (.slice (some ⟨W.heap.size, 0, none⟩) len len) { W with heap := W.heap.push (.cells cells e) } ∧ ARel ρ sc.2.toArray cells ∧ cells.size = len * sc.1 := by
  unfold sliceLit at hb
  cases hez : elemZero P t with
  | none => simp [hez] at hb
  | some ez =>
    obtain ⟨e, i, v, hu, hi, hv, rfl, hpl, hzs⟩ := elemZero_inv hez
    simp only [hez] at hb
    split at hb
    · rename_i hlim
      obtain ⟨cs, hcs, rfl⟩ := Option.map_eq_some_iff.1 hb
      have hcell : P.cellsOf e = i.size := by simp [Program.cellsOf, hi]
      have hz : ARel ρ (repl len v.cells.toList).toArray ((Array.range (len * i.size)).map fun k => v.cells[k % v.cells.size]!) := by
        refine ⟨by simp [repl_length, hzs], fun k x y hx hy => ?_⟩
        have hk : k < len * v.cells.toList.length := by
          have := (List.getElem?_eq_some_iff.1 (by simpa using hx)).1; simpa [repl_length] using this
        rw [List.getElem?_toArray, repl_get _ _ _ hk] at hx
        have hpos : 0 < v.cells.size := by
          rcases Nat.eq_zero_or_pos v.cells.size with h0 | h0
          · simp [h0] at hk
          · exact h0
        have hm : k % v.cells.size < v.cells.size := Nat.mod_lt _ hpos
        simp only [Array.getElem?_map] at hy
        rw [Array.getElem?_range, if_pos (by simpa [hzs] using hk)] at hy
        simp only [Option.map_some, Option.some.injEq] at hy
        simp only [Array.length_toList, Array.getElem?_toList] at hx
        rw [getElem!_pos v.cells _ hm] at hy
        rw [Array.getElem?_eq_getElem hm] at hx
        cases hx; subst hy
        have := Array.all_eq_true'.1 hpl _ (Array.getElem_mem hm)
        exact .same _ (by generalize v.cells[k % v.cells.size] = q at this ⊢; cases q <;> simp_all [plain, plainCell])
      obtain ⟨r', e1, e2⟩ := fill_rel _ parts parts' _ _ cs hz hp hcs
      have hsz : r'.size = len * i.size := by
        have h1 := fillL_length _ _ _ _ hcs
        have h2 : cs.length = r'.size := by simpa using e2.1
        rw [← h2, h1, repl_length]; simp [hzs]
      refine ⟨r', e, ?_, by simpa using e2, hsz⟩
      have hl : ¬ (len * P.cellsOf e > 2 ^ 24) := by rw [hcell]; have hlim' : len * i.size ≤ 2 ^ 24 := hlim; omega
      by_cases h0 : len * i.size = 0
      · have hE : ∀ f : Nat → Value, (Array.range (len * i.size)).map f = #[] := fun f => by apply Array.eq_empty_of_size_eq_zero; rw [Array.size_map, Array.size_range, h0]
        rw [hE] at e1
        simp only [Instr.buildSlice, Sem.run_bind, run_und hu, Result.andThen_ok, run_size hi, hcell]
        rw [if_neg (by rw [← hcell]; exact hl)]
        have hR : ∀ f : Nat → Value, (Array.range 0).map f = #[] := fun f => by apply Array.eq_empty_of_size_eq_zero; rw [Array.size_map, Array.size_range]
        rw [h0]
        simp only [if_true, Sem.run_bind, Sem.run_pure, Result.andThen_ok, hR, e1, newRow, run_newObj]
      · simp only [Instr.buildSlice, Sem.run_bind, run_und hu, Result.andThen_ok, run_size hi, hcell]
        rw [if_neg (by rw [← hcell]; exact hl)]
        simp [h0, run_zero hi hv, e1, newRow]
    · cases hb

theorem range_split (f : Nat → Value) (a b : Nat) : (Array.range (a + b)).map f = (Array.range a).map f ++ (Array.range b).map fun i => f (a + i) := by
  apply Array.ext
  · simp
  · intro i h1 h2
    simp only [Array.getElem_map, Array.getElem_range, Array.getElem_append]
    split
    · rfl
    · rename_i hh
      simp only [Array.size_map, Array.size_range] at hh ⊢
      congr 1; omega
theorem zeros_rel {z : Array Value} (hpl : z.all plainCell = true) (len : Nat) : ARel ρ (repl len z.toList).toArray ((Array.range (len * z.size)).map fun k => z[k % z.size]!) := by
  refine ⟨by simp [repl_length], fun k x y hx hy => ?_⟩
  have hk : k < len * z.toList.length := by
    have := (List.getElem?_eq_some_iff.1 (by simpa using hx)).1; simpa [repl_length] using this
  rw [List.getElem?_toArray, repl_get _ _ _ hk] at hx
  have hpos : 0 < z.size := by
    rcases Nat.eq_zero_or_pos z.size with h0 | h0
    · simp [h0] at hk
    · exact h0
  have hm : k % z.size < z.size := Nat.mod_lt _ hpos
  simp only [Array.getElem?_map] at hy
  rw [Array.getElem?_range, if_pos (by simpa using hk)] at hy
  simp only [Option.map_some, Option.some.injEq] at hy
  simp only [Array.length_toList, Array.getElem?_toList] at hx
  rw [getElem!_pos z _ hm] at hy
  rw [Array.getElem?_eq_getElem hm] at hx
  cases hx; subst hy
  have hp := Array.all_eq_true.1 hpl _ hm
  exact .same _ (by cases hz : z[k % z.size] <;> simp_all [plain, plainCell])
theorem run_append_zeros {t tx ty e : Nat} {i : TypeInfo} {z : Value} {kx kd : IntKind} (ht : P.underlying t = some (.slice e)) (hk : P.underlying tx = some (.int kx)) (hi : P.info? e = some i) (hz : i.zero = some z) (k : Nat) (hk0 : 0 < k) (hsz : 0 < i.size)
    (h63 : k ≤ 9223372036854775807) (hb : k * i.bytes ≤ 140737488355328) :
    (Builtin.append_ #[t, tx] ty #[.slice none 0 0, .int kd (k : Int)]).run P W = .ok (.slice (some ⟨W.heap.size, 0, none⟩) k (grownCap W k 0 e)) (W.drew.alloc (.cells (Builtin.zeroCells z.cells k ++ Builtin.zeroCells z.cells (grownCap W k 0 e - k)) e)) := by
  have hw : IntKind.i64.wrap (k : Int) = (k : Int) := by rw [IntKind.wrap_i64]; omega
  have hn : ¬ (k ≤ 0) := by omega
  have h63' : ¬ (9223372036854775807 < (k : Int)) := by omega
  have hb' : ¬ (281474976710656 < (k : Int) * (i.bytes : Int)) := by rw [← Int.natCast_mul]; omega
  have hl : ¬ ((k : Int) < 0) := by omega
  have hfit := growslice_fits (need := k) (old := 0) (by omega) hb
  have h48' : ¬ (281474976710656 < Builtin.nextslicecap k 0 * i.bytes) := by omega
  have h00 : ¬ (k = 0) := by omega
  have h01 : ¬ (k * i.size = 0) := Nat.ne_of_gt (Nat.mul_pos hk0 hsz)
  simp [Builtin.append_, asInt, asIntOf, run_underlying ht, run_underlying hk, Go.sizeOf, typeInfo, zeroValue, hi, hz, hw, hl, hb', h63', h48', h00, h01, Question.forced, newRow, grownCap, Builtin.firstCells]
theorem append_all2 {t tx ty : Nat} {s x s' x' : Value} {K : Kt} {d : Option Nat} (hC : Conc ρ h W) (hs : VRel ρ s s') (hx : VRel ρ x x') (hA : appendZH P (some t) (some tx) (isInt P tx) K r d s x h) :
    ∃ v v' h' W' ρ', (Builtin.append_ #[t, tx] ty #[s', x']).run P W = .ok v' W' ∧ Conc ρ' h' W' ∧ Frame h.next ρ h W ρ' h' W' ∧ VRel ρ' v v' ∧ (∀ id c, ρ id = some c → ρ' id = some c) ∧ K (upd r d v) h' := by
  unfold appendZH at hA
  cases hk : isInt P tx with
  | none => rw [hk] at hA; exact append_all hC hs hx hA
  | some kx =>
    rw [hk] at hA
    simp only [onSome] at hA
    cases hez : elemZero P t with
    | none => simp [hez] at hA
    | some ez =>
      cases heb : elemBytes P t with
      | none => simp [hez, heb] at hA
      | some by_ =>
        simp only [hez, heb] at hA
        obtain ⟨e, i, z, hu, hi, hz, rfl, hpl, hzs⟩ := elemZero_inv hez
        have hbe := elemBytes_inv hu hi heb
        subst hbe
        unfold makeZ at hA
        split at hA
        · rename_i kd k
          obtain ⟨⟨h0, hb, h63, hzl⟩, hK⟩ := hA
          obtain ⟨_, _, rfl⟩ := hs.nilslice_inv
          cases hx.int_inv
          by_cases hk0 : k = 0
          · subst hk0
            simp only [gate, decide_true, if_true] at hK
            refine ⟨.slice none 0 0, .slice none 0 0, h, W, ρ, ?_, hC, Frame.refl _ _ _ _, .same _ rfl, fun _ _ h => h, hK⟩
            have hw : IntKind.i64.wrap (0 : Int) = 0 := by decide
            simp [Builtin.append_, asInt, asIntOf, run_und hu, run_und (isInt_inv hk), Go.sizeOf, typeInfo, hi, hw]
          · obtain ⟨m, rfl⟩ : ∃ m : Nat, k = m := ⟨k.toNat, by omega⟩
            simp only [gate, hk0, decide_false] at hK
            rw [Int.toNat_natCast] at hb
            simp only [Int.toNat_natCast] at hK
            have hsz : 0 < i.size := by rw [← hzs]; simpa using hzl
            have hrun := run_append_zeros (P := P) (W := W) (ty := ty) (kd := kd) hu (isInt_inv hk) hi hz m (by omega) hsz (by omega) hb
            have hge := grownCap_ge W m 0 e
            obtain ⟨a1, a2⟩ := alloc_sound (hC.drew (W.drawn + 1)) (repl m z.cells.toList) (Builtin.zeroCells z.cells m) (Builtin.zeroCells z.cells (grownCap W m 0 e - m)) (zeros_rel hpl m) e (0, 0) (nofreeze _)
            refine ⟨_, _, _, _, _, hrun, a1, (Frame.drew W _).trans a2, .slice _ _ _ _ _ _ (add_self _ _ _) hge ?_, Ren.add_le (hC.free _ (hC.next _ (Nat.le_refl _))), hK⟩
            have hzs' : z.cells.toList.length = i.size := by simpa using hzs
            simp only [Array.size_append, size_zc, hzs, hzs', Nat.zero_add]
            obtain ⟨q, hq⟩ : ∃ q, grownCap W m 0 e = m + q := ⟨grownCap W m 0 e - m, by omega⟩
            rw [hq, Nat.add_sub_cancel_left, Nat.add_mul]; exact Nat.le_refl _
        · exact hA.elim
theorem make_sound {t : Nat} {k k' : IntKind} {n m : Int} {ez : Nat × List Value} {by_ : Nat} (hz : elemZero P t = some ez) (hby : elemBytes P t = some by_) (h0 : 0 ≤ n) (h1 : n ≤ m) (h2 : m ≤ 9223372036854775807) (h3 : m.toNat * by_ ≤ 140737488355328) :
    ∃ (ys extra : Array Value) (e : TypeId), (Instr.makeSlice t (.int k n) (.int k' m)).run P W = .ok (.slice (some ⟨W.heap.size, 0, none⟩) n.toNat m.toNat) { W with heap := W.heap.push (.cells (ys ++ extra) e) } ∧ ARel ρ (repl n.toNat ez.2).toArray ys ∧ (ys ++ extra).size = m.toNat * ez.1 := by
  obtain ⟨e, i, v, hu, hi, hv, rfl, hpl, hzs⟩ := elemZero_inv hz
  have hb := elemBytes_inv hu hi hby
  subst hb
  have hcell : P.cellsOf e = i.size := by simp [Program.cellsOf, hi]
  obtain ⟨q, hq⟩ : ∃ q, m.toNat * i.size = n.toNat * i.size + q := ⟨(m.toNat - n.toNat) * i.size, by rw [← Nat.add_mul]; congr 1; omega⟩
  refine ⟨(Array.range (n.toNat * i.size)).map fun k => v.cells[k % v.cells.size]!, (Array.range q).map fun k => v.cells[(n.toNat * i.size + k) % v.cells.size]!, e, ?_, ?_, ?_⟩
  · have hbi : (i.bytes : Int) * m ≤ 140737488355328 := by
      have hm : m = (m.toNat : Int) := by omega
      rw [hm, Int.mul_comm, ← Int.natCast_mul]; exact Int.ofNat_le.2 h3
    rw [← range_split (fun k => v.cells[k % v.cells.size]!), ← hq]
    exact run_make (P := P) W t e i v hu hi hv k k' n m h0 h1 (by omega) h2
  · have := zeros_rel (ρ := ρ) hpl n.toNat
    rw [hzs] at this ⊢; exact this
  · simp [hq]
/-! ## One operation -/
theorem run_box (t : TypeId) (v : Value) : (Instr.box t v).run P W = .ok (.pointer (some ⟨W.heap.size, 0, none⟩)) { W with heap := W.heap.push (.cells v.cells t) } := by
  simp [Instr.box, newVar, newRow]
  try rfl
theorem ptr0 {ρ : Ren} {id : Nat} {c : CB} (hs : c.sh = 0) : VRel (ρ.add id c) (.pointer (some ⟨id, 0, none⟩)) (.pointer (some ⟨c.blk, 0, none⟩)) := by
  have := VRel.ptr (ρ := ρ.add id c) id 0 c (add_self _ _ _)
  rw [hs] at this; exact this
theorem clear_sound {ts : Array TypeId} {x x' : Value} {ty : TypeId} {K : Heap → Prop} (hC : Conc ρ h W) (hx : VRel ρ x x') (hs : @clearH P ts[0]? x h ⟨K⟩) :
    ∃ W' h', (Builtin.clear_ ts ty #[x']).run P W = .ok (.tuple #[]) W' ∧ Conc ρ h' W' ∧ Frame h.next ρ h W ρ h' W' ∧ K h' := by
  cases hts : ts[0]? with
  | none => rw [hts] at hs; unfold clearH at hs; split at hs <;> exact hs.elim
  | some t =>
  rw [hts] at hs
  unfold clearH at hs
  split at hs
  · obtain ⟨_, _, rfl⟩ := hx.nilslice_inv
    simp only [onSome] at hs
    cases hez : elemZero P t with
    | none => rw [hez] at hs; exact hs.elim
    | some ez =>
      rw [hez] at hs
      obtain ⟨e, i, v, hu, hi, hv, rfl, hpl, hzs⟩ := elemZero_inv hez
      exact ⟨W, h, by simp [Builtin.clear_, hts, run_underlying hu], hC, Frame.refl _ _ _ _, hs⟩
  · rename_i a n st
    simp only [onSome] at hs
    cases hez : elemZero P t with
    | none => rw [hez] at hs; exact hs.elim
    | some ez =>
      rw [hez] at hs
      cases hg : h.get a.block with
      | free => simp [onCells, hg] at hs
      | dead => simp [onCells, hg] at hs
      | live b =>
        cases b with
        | map _ _ _ => simp [onCells, hg] at hs
        | iter _ _ _ _ _ => simp [onCells, hg] at hs
        | loop _ _ => simp [onCells, hg] at hs
        | cells vs o =>
          simp only [onCells, hg] at hs
          obtain ⟨rfl, ⟨h1, h2⟩, hK⟩ := hs
          obtain ⟨e, i, v, hu, hi, hv, rfl, hpl, hzs⟩ := elemZero_inv hez
          simp only at h1 hK
          subst h1
          by_cases hn : n = 0
          · subst hn
            have e0 : h.put a.block (.live (.cells (vs.take a.off ++ repl 0 v.cells.toList ++ vs.drop (a.off + 0 * i.size)) .own)) = h := by
              simp only [repl, Nat.zero_mul, Nat.add_zero, List.append_nil, List.take_append_drop]
              unfold Heap.put
              cases h with
              | mk g nx => simp only [Heap.mk.injEq, and_true]; funext j; by_cases hj : j = a.block
                           · subst hj; simp only [if_true]; exact hg.symm
                           · rw [if_neg hj]
            rw [e0] at hK
            refine ⟨W, h, ?_, hC, Frame.refl _ _ _ _, hK⟩
            rcases hx.slice_inv with ⟨c, cap, a1, a2, rfl, a4, a5⟩ | ⟨_, c, a', a1, rfl⟩ <;> simp [Builtin.clear_, hts, run_underlying hu]
          · rcases hx.slice_inv with ⟨c, cap, a1, a2, rfl, a4, a5⟩ | ⟨rfl, c, a', a1, rfl⟩
            · have hz := zeros_rel (ρ := ρ) hpl n
              have hlen : (repl n v.cells.toList).length = n * i.size := by rw [repl_length, Array.length_toList, hzs]
              obtain ⟨w1, w2, w3, w4, w5, w6, w7⟩ := write_own (P := P) (hC.at_ _ _ _ a1 hg) a.off (repl n v.cells.toList) ((Array.range (n * v.cells.size)).map fun k => v.cells[k % v.cells.size]!).toList (by rw [hlen]; exact h2) (by rw [Array.toArray_toList]; exact hz) (fun y hy => by
                rw [Array.mem_toList_iff, Array.mem_map] at hy
                obtain ⟨k, hk, rfl⟩ := hy
                have hk' : k < n * v.cells.size := by simpa using hk
                have hpos : 0 < v.cells.size := by
                  rcases Nat.eq_zero_or_pos v.cells.size with h0 | h0
                  · rw [h0] at hk'; simp at hk'
                  · exact h0
                rw [getElem!_pos v.cells _ (Nat.mod_lt _ hpos)]
                have hp := Array.all_eq_true.1 hpl _ (Nat.mod_lt k hpos)
                cases hz : v.cells[k % v.cells.size]'(Nat.mod_lt _ hpos) <;> simp_all [plainCell, Value.oneCell'])
              rw [hlen] at w2
              obtain ⟨t1, t2⟩ := hC.turn a.block c a1 ⟨_, hg, rfl⟩ _ w3 w4 w5 w6 w7 (Nat.le_of_eq (setCells_drawn ..).symm) w2 h.next
              refine ⟨_, _, ?_, t1, t2, hK⟩
              obtain ⟨m, rfl⟩ : ∃ m, n = m + 1 := ⟨n - 1, by omega⟩
              simp [Builtin.clear_, hts, run_underlying hu, run_zero hi hv, Builtin.zeroCells]
              have w1' : (storeCells ⟨c.blk, c.sh + a.off, none⟩ (List.map (fun i => v.cells[i % v.cells.size]!) (List.range ((m + 1) * v.cells.size))) 0).run P W = .ok () (W.setCells c.blk (c.sh + a.off) (List.map (fun i => v.cells[i % v.cells.size]!) (List.range ((m + 1) * v.cells.size)))) := by simpa using w1
              rw [w1']; rfl
            · exact absurd rfl hn
  · exact hs.elim
theorem step_sound {K : Kt} (hC : Conc ρ h W) (hr : RRel n lo W ρ r a) (ho : okOper n o = true) (hs : step P o K r h) (Q : Exit → Act → World → Prop) : o.wp P a W (Lf n lo h.next ρ h W K) Q := by
  by_cases hk : rlOp P o = true
  · obtain ⟨v, v', h1, h2, h3⟩ := rl_quiet hC hr ho hk hs
    exact wp_new hC hr ho (fun _ _ h => h) hC (Frame.refl _ _ _ _) (h1 W ⟨Below.refl _ _, Nat.le_refl _⟩) h2 h3
  · obtain ⟨d, op, ty, pos, af, g⟩ := o
    have arg := fun {x : Operand} (hx : x ∈ op.operands) => eval_rel (okOper_arg (o := ⟨d, op, ty, pos, af, g⟩) ho hx) hr
    cases op with
    | alloc t =>
      simp only [step] at hs
      cases hz : zeroOf P t with
      | none => rw [hz] at hs; exact hs.elim
      | some z =>
        rw [hz] at hs
        obtain ⟨i, v, hi, hv, rfl, hp, hsz⟩ := zero_inv hz
        obtain ⟨c1, c2, c3⟩ := alloc0 hC v.cells.toList v.cells (by simpa using ARel.of_plain hp) t
        exact wp_new hC hr ho c3 c1 c2 (v' := .pointer (some ⟨W.heap.size, 0, none⟩)) (by simp [execOp, Instr.alloc, run_zero hi hv, newVar, newRow] <;> rfl) (ptr0 rfl) hs
    | box t x =>
      simp only [step] at hs
      obtain ⟨h1, hK⟩ := hs
      have hx := arg (x := x) (by simp [Op.operands])
      obtain ⟨c1, c2, c3⟩ := alloc0 hC (ev r x).cells.toList (a.eval x).cells (by simpa using hx.cells) t
      exact wp_new hC hr ho c3 c1 c2 (v' := .pointer (some ⟨W.heap.size, 0, none⟩)) (by simp only [execOp, Sem.run_bind, run_box]; rfl) (ptr0 rfl) hK
    | buildSlice t len parts =>
      simp only [step] at hs
      cases hb : sliceLit P t len (parts.toList.map fun p => (p.1, ev r p.2)) with
      | none => rw [hb] at hs; exact hs.elim
      | some sc =>
        rw [hb] at hs
        obtain ⟨h1, hK⟩ := hs
        have hp := parts_rel (r := r) (a := a) (ρ := ρ) (n := n) parts.toList (fun p hp => okOper_arg (o := ⟨d, .buildSlice t len parts, ty, pos, af, g⟩) ho (by simp only [Op.operands, List.mem_toArray, List.mem_map]; exact ⟨p, hp, rfl⟩)) hr
        obtain ⟨cells, e, e1, e2, e3⟩ := sliceLit_sound hC hp hb
        obtain ⟨c1, c2, c3⟩ := alloc0 hC sc.2 cells e2 e
        have e' : (parts.toList.map fun p => (p.1, a.eval p.2)).toArray = parts.map fun (i, x) => (i, a.eval x) := by apply Array.ext'; simp
        rw [e'] at e1
        refine wp_new hC hr ho c3 c1 c2 (v' := .slice (some ⟨W.heap.size, 0, none⟩) len len) (by simp only [execOp, Sem.run_bind, e1]; rfl) ?_ hK
        have := VRel.slice (ρ := ρ.add h.next ⟨W.heap.size, 0, cells.size⟩) h.next 0 len sc.1 _ len (add_self _ _ _) (Nat.le_refl _) (by simp [e3])
        simpa using this
    | makeSlice t l c =>
      simp only [step] at hs
      cases hz : elemZero P t with
      | none => rw [hz] at hs; exact hs.elim
      | some ez =>
        cases hby : elemBytes P t with
        | none => rw [hz, hby] at hs; exact hs.elim
        | some by_ =>
          rw [hz, hby] at hs
          have hl := arg (x := l) (by simp [Op.operands])
          have hc := arg (x := c) (by simp [Op.operands])
          cases hl' : ev r l with
          | int k nn =>
            cases hc' : ev r c with
            | int k' mm =>
              rw [hl', hc'] at hs
              rw [hl'] at hl
              rw [hc'] at hc
              obtain ⟨⟨q1, q2, q3, q4⟩, hK⟩ := hs
              obtain ⟨ys, extra, e, e1, e2, e3⟩ := make_sound (ρ := ρ) (W := W) (k := k) (k' := k') hz hby q1 q2 q3 q4
              obtain ⟨c1, c2⟩ := alloc_sound hC (repl nn.toNat ez.2) ys extra e2 e (0, 0) (nofreeze _)
              refine wp_new hC hr ho (Ren.add_le (hC.free _ (hC.next _ (Nat.le_refl _)))) c1 c2 (v' := .slice (some ⟨W.heap.size, 0, none⟩) nn.toNat mm.toNat) (by simp only [execOp, hl.int_inv, hc.int_inv, Sem.run_bind, e1, Result.andThen_ok]; rfl) ?_ hK
              have := VRel.slice (ρ := ρ.add h.next ⟨W.heap.size, 0, (ys ++ extra).size⟩) h.next 0 nn.toNat ez.1 _ mm.toNat (add_self _ _ _) (by omega) (by rw [e3]; simp)
              simpa using this
            | _ => rw [hl', hc'] at hs; exact hs.elim
          | _ => rw [hl'] at hs; exact hs.elim
    | makeMap t rv =>
      cases rv with
      | some _ => exact hs.elim
      | none =>
        simp only [step] at hs
        obtain ⟨c1, c2⟩ := hC.new h.next (hC.next _ (Nat.le_refl _)) (.map [] 0 .own) (.map #[] 0) 0 (h.next + 1) (Nat.le_succ _) (Nat.lt_succ_self _) ⟨#[], by simp, rfl, by simp⟩ h.next (Nat.le_refl _)
        exact wp_new hC hr ho (Ren.add_le (hC.free _ (hC.next _ (Nat.le_refl _)))) c1 c2 (v' := .map (some W.heap.size)) (by simp [execOp, Instr.makeMap] <;> rfl) (.map _ _ (add_self _ _ _)) hs
    | range t x =>
      simp only [step] at hs
      obtain ⟨b, ob, e1, e2, e3⟩ := range_sound hC (arg (x := x) (by simp [Op.operands])) hs
      obtain ⟨c1, c2⟩ := hC.new h.next (hC.next _ (Nat.le_refl _)) b ob 0 (h.next + 1) (Nat.le_succ _) (Nat.lt_succ_self _) e2 h.next (Nat.le_refl _)
      exact wp_new hC hr ho (Ren.add_le (hC.free _ (hC.next _ (Nat.le_refl _)))) c1 c2 (v' := .pointer (some ⟨W.heap.size, 0, none⟩)) (by simp [execOp, e1]) (ptr0 rfl) e3
    | next it isStr =>
      cases isStr with
      | true => exact hs.elim
      | false =>
        simp only [step] at hs
        obtain ⟨u, u', W', h', e1, e2, e3, e4, e5⟩ := next_sound (P := P) (ty := ty) hC (arg (x := it) (by simp [Op.operands])) hs
        exact wp_new hC hr ho (fun _ _ h => h) e2 e3 (v' := u') (by simp [execOp, e1]) e4 e5
    | entry it =>
      simp only [step] at hs
      obtain ⟨u, u', e1, e2, e3⟩ := entry_sound (P := P) hC (arg (x := it) (by simp [Op.operands])) hs
      exact wp_new hC hr ho (fun _ _ h => h) hC (Frame.refl _ _ _ _) (v' := u') (by simp [execOp, e1]) e2 e3
    | mapUpdate t x k v =>
      simp only [step] at hs
      obtain ⟨W', h', e1, e2, e3, e4⟩ := update_sound hC (arg (x := x) (by simp [Op.operands])) (arg (x := k) (by simp [Op.operands])) (arg (x := v) (by simp [Op.operands])) hs
      unfold Oper.wp
      have hrun : (execOp a.eval ⟨d, .mapUpdate t x k v, ty, pos, af, g⟩).run P W = .ok .skip W' := by simp [execOp, e1]
      rw [hrun]
      exact ⟨ρ, _, h', e2, (hr.world hC e3).put undef_rel (okOper_dst ho), e3, e4⟩
    | convert s t x =>
      simp only [step] at hs
      obtain ⟨v, v', h', W', ρ', e1, e2, e3, e4, e5, e6⟩ := conv_sound hC (arg (x := x) (by simp [Op.operands])) hs
      exact wp_new hC hr ho e5 e2 e3 (by simp [execOp, e1]) e4 e6
    | store t x v =>
      simp only [step] at hs
      have hx := arg (x := x) (by simp [Op.operands])
      cases hv : ev r x with
      | pointer p =>
        cases p with
        | none => rw [hv] at hs; exact hs.elim
        | some A =>
          rw [hv] at hs hx
          obtain ⟨c, h1, h2, h3⟩ := hx.ptr_inv
          obtain ⟨W', h', e1, e2, e3, e4⟩ := store_sound hC h1 (arg (x := v) (by simp [Op.operands])) hs
          unfold Oper.wp
          have hrun : (execOp a.eval ⟨d, .store t x v, ty, pos, af, g⟩).run P W = .ok .skip W' := by simp [execOp, h3, e1]
          rw [hrun]
          exact ⟨ρ, _, h', e2, (hr.world hC e3).put undef_rel (okOper_dst ho), e3, e4⟩
      | _ => rw [hv] at hs; exact hs.elim
    | call c =>
      obtain ⟨callee, args, ts⟩ := c
      cases callee with
      | builtin b =>
        cases b with
        | append =>
          simp only [step] at hs
          obtain ⟨⟨h1, h2⟩, hA⟩ := hs
          obtain ⟨l⟩ := args
          obtain ⟨l2⟩ := ts
          match l, h1, l2, h2 with
          | [x, y], _, [t, u], _ =>
            obtain ⟨v, v', h', W', ρ', e1, e2, e3, e4, e5, e6⟩ := append_all2 (ty := ty) hC (arg (x := x) (by simp [Op.operands, Call.operands])) (arg (x := y) (by simp [Op.operands, Call.operands])) hA
            refine wp_new hC hr ho e5 e2 e3 (v' := v') ?_ e4 e6
            replace e1 : (Builtin.append_ #[t, u] ty #[a.eval x, a.eval y]).run P W = .ok v' W' := e1
            have : (#[x, y] : Array Operand).map a.eval = #[a.eval x, a.eval y] := by simp
            simp only [execOp, resolve, invoke, builtin, Sem.run_bind, Sem.run_pure, Result.andThen_ok, this]
            rw [show ((⟨[t, u]⟩ : Array TypeId)) = #[t, u] from rfl, e1]
            rfl
        | clear =>
          simp only [step] at hs
          obtain ⟨h1, hA⟩ := hs
          obtain ⟨l⟩ := args
          match l, h1 with
          | [x], _ =>
            obtain ⟨W', h', e1, e2, e3, e4⟩ := clear_sound (ty := ty) hC (arg (x := x) (by simp [Op.operands, Call.operands])) hA
            refine wp_new hC hr ho (fun _ _ h => h) e2 e3 (v' := .tuple #[]) ?_ (.same _ rfl) e4
            have : (#[x] : Array Operand).map a.eval = #[a.eval x] := by simp
            simp only [execOp, resolve, invoke, builtin, Sem.run_bind, Sem.run_pure, Result.andThen_ok, this]
            rw [e1]
            rfl
        | delete =>
          simp only [step] at hs
          obtain ⟨h1, hA⟩ := hs
          obtain ⟨l⟩ := args
          match l, h1 with
          | [x, y], _ =>
            obtain ⟨W', h', e1, e2, e3, e4⟩ := delete_sound (ty := ty) hC (arg (x := x) (by simp [Op.operands, Call.operands])) (arg (x := y) (by simp [Op.operands, Call.operands])) hA
            refine wp_new hC hr ho (fun _ _ h => h) e2 e3 (v' := .tuple #[]) ?_ (.same _ rfl) e4
            have : (#[x, y] : Array Operand).map a.eval = #[a.eval x, a.eval y] := by simp
            simp only [execOp, resolve, invoke, builtin, Sem.run_bind, Sem.run_pure, Result.andThen_ok, this]
            rw [e1]
            rfl
        | _ => first | exact hs.elim | exact absurd rfl hk
      | value f =>
        simp only [step] at hs
        have hf := arg (x := f) (by simp [Op.operands, Call.operands])
        cases hv : ev r f with
        | func fn first cap =>
          rw [hv] at hs hf
          cases fn with
          | func k =>
            obtain ⟨hg, hc⟩ := hs
            obtain ⟨ys, vs, e1, r1, r2⟩ := hf.func_inv
            have ra := args_rel (ρ := ρ) (r := r) (a := a) (n := n) (xs := args) (fun y hy => okOper_arg (o := ⟨d, .call ⟨.value f, args, ts⟩, ty, pos, af, g⟩) ho (by simp [Op.operands, Call.operands, hy])) hr
            have hcall := hc ρ W _ hC ((r1.append ra).append r2)
            unfold goodFunc at hg
            split at hg
            · rename_i fn hfn
              simp only [Bool.and_eq_true, Bool.not_eq_true', beq_eq_false_iff_ne, ne_eq] at hg
              have hrun : (execOp a.eval ⟨d, .call ⟨.value f, args, ts⟩, ty, pos, af, g⟩).run P W = .ok (.enter k (ys ++ args.map a.eval ++ vs)) W := by
                have hb : fn.body.isNone = false := by cases hbb : fn.body <;> simp_all
                have hnm : (fn.name == "runtime.NumGoroutine") = false := by simpa using hg.2
                have hb2 : ¬ fn.body = none := fun hbn => by rw [hbn] at hb; cases hb
                simp [execOp, resolve, e1, Deferred.ofValue, invoke, callFunc, hfn, hg.2, hb2]
              unfold Oper.wp
              rw [hrun]
              simp only [Oper.upon]
              refine hcall.mono fun e w' hp => ?_
              obtain ⟨ρ', h', v, v', rfl, p1, p2, p3, p4⟩ := hp
              refine ⟨ρ', _, h', p2, ((hr.world hC p3).mono fun id c hc => ?_).put p1 (okOper_dst ho), p3, p4⟩
              rw [p3.ren id ?_]; exact hc
              rcases Nat.lt_or_ge id h.next with hlt | hge
              · exact hlt
              · rw [hC.free id (hC.next id hge)] at hc; cases hc
            · cases hg
          | _ => exact hs.elim
        | _ => rw [hv] at hs; exact hs.elim
      | _ => exact hs.elim
    | slice t x lo hi mx => cases mx <;> first | exact hs.elim | exact absurd rfl hk
    | makeFunc fn _ _ => cases fn <;> first | exact hs.elim | exact absurd rfl hk
    | _ => first | exact hs.elim | exact absurd rfl hk
end
end Ph
