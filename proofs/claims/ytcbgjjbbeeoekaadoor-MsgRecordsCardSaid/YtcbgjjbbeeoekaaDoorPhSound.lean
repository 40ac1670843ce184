import Derived.Test.YtcbgjjbbeeoekaaDoorPhStep
import Derived.Test.YtcbgjjbbeeoekaaDoorPhEq
import Derived.Laws.Small
set_option linter.unusedVariables false
namespace Ph
open Go
theorem undef_rel {ρ : Ren} : VRel ρ undef undef := .same _ rfl
section
variable {P : Program} {n lo lim : Nat} {ρ : Ren} {r : Regs} {a : Act} {h : Heap} {W : World} {o : Oper}
theorem eval_rel {x : Operand} (hx : okArg x = true) (hr : RRel n lo W ρ r a) : VRel ρ (ev r x) (a.eval x) := by
  cases x with
  | tmp t => exact hr.2.2 t
  | const v => exact .same _ hx
  | global g => cases hx
  | func f => exact .same _ rfl
theorem Marks.mono {lo : Nat} {ds : List Deferred} {W W' : World} (hm : Marks lo ds W) (hk : ∀ q : Nat, W.heap[q]? = some (Obj.deferred (some [])) → W'.heap[q]? = some (Obj.deferred (some []))) : Marks lo ds W' :=
  ⟨hm.1, fun d hd => by obtain ⟨q, h1, h2, h3⟩ := hm.2 d hd; exact ⟨q, h1, h2, hk q h3⟩⟩
theorem own_obj {c : CB} {b : Blk} (hb : b.mod = true) (h : BlkAt ρ W c b) : W.heap[c.blk]? ≠ some (Obj.deferred (some [])) := by
  intro e
  cases b with
  | cells vs o =>
    cases o with
    | own => obtain ⟨cs, e', fr, h1, _⟩ := h; rw [h1] at e; cases e
    | _ => cases hb
  | map es cl o => obtain ⟨en, h1, _⟩ := h; rw [h1] at e; cases e
  | iter m s en l o => obtain ⟨_, m', h1, _⟩ := h; rw [h1] at e; cases e
  | loop L o => obtain ⟨rec, h1, _⟩ := h; rw [h1] at e; cases e
theorem Marks.frame {lo : Nat} {ds : List Deferred} {W' : World} {ρ' : Ren} {h' : Heap} (hm : Marks lo ds W) (hC : Conc ρ h W) (hF : Frame lim ρ h W ρ' h' W') : Marks lo ds W' :=
  hm.mono fun q hq => (hF.blk q (Array.getElem?_eq_some_iff.1 hq).1 fun id c hc ⟨b, hb, hb'⟩ e => by subst e; exact own_obj hb' (hC.at_ id c b hc hb) hq).trans hq
theorem RRel.put {d : Option Nat} {v v' : Value} (hr : RRel n lo W ρ r a) (hv : VRel ρ v v') (hd : ∀ k, d = some k → k < n) : RRel n lo W ρ (upd r d v) (a.put d v') := by
  cases d with
  | none => exact hr
  | some d =>
    refine ⟨hr.1, by simp [Act.put, hr.2.1], fun t => ?_⟩
    have hdn := hd d rfl
    simp only [upd, Act.put]
    by_cases e : t = d
    · subst e
      rw [if_pos rfl, Array.getD_eq_getD_getElem?, Array.getElem?_setIfInBounds_self_of_lt (by rw [hr.2.1]; exact hdn)]
      exact hv
    · rw [if_neg e, Array.getD_eq_getD_getElem?, Array.getElem?_setIfInBounds_ne (fun h => e h.symm), ← Array.getD_eq_getD_getElem?]
      exact hr.2.2 t
theorem RRel.mono {ρ' : Ren} (hs : ∀ id c, ρ id = some c → ρ' id = some c) (hr : RRel n lo W ρ r a) : RRel n lo W ρ' r a := ⟨hr.1, hr.2.1, fun t => (hr.2.2 t).mono hs⟩
theorem RRel.world {W' : World} {ρ' : Ren} {h' : Heap} (hr : RRel n lo W ρ r a) (hC : Conc ρ h W) (hF : Frame lim ρ h W ρ' h' W') : RRel n lo W' ρ r a := ⟨hr.1.frame hC hF, hr.2⟩
theorem RRel.below {W' : World} (hr : RRel n lo W ρ r a) (hb : RowKit.Below W.heap.size W W') : RRel n lo W' ρ r a := ⟨hr.1.mono fun q hq => (hb.block q (Array.getElem?_eq_some_iff.1 hq).1).trans hq, hr.2⟩
theorem okOper_dst (ho : okOper n o = true) : ∀ k, o.dst = some k → k < n := by
  intro k hk
  unfold okOper at ho
  rw [hk] at ho
  simp only [Bool.and_eq_true, decide_eq_true_eq] at ho
  exact ho.1.1
theorem okOper_arg (ho : okOper n o = true) {x : Operand} (hx : x ∈ o.op.operands) : okArg x = true := by
  unfold okOper at ho
  simp only [Bool.and_eq_true] at ho
  exact Array.all_eq_true'.1 ho.1.2 x hx
theorem okOper_defer (ho : okOper n o = true) (c : Call) : o.op ≠ .defer c := fun e => by
  unfold okOper at ho
  simp only [Bool.and_eq_true] at ho
  rw [e] at ho
  exact absurd ho.2 (by simp [isDefer])
/-- an operation that leaves memory alone -/
theorem wp_pure {K : Kt} {Q} {v v' : Value} (hC : Conc ρ h W) (hr : RRel n lo W ρ r a) (ho : okOper n o = true)
    (hrun : (execOp a.eval o).run P W = .ok (.value v') W) (hv : VRel ρ v v') (hK : put K r o.dst v h) : o.wp P a W (Lf n lo h.next ρ h W K) Q := by
  unfold Oper.wp; rw [hrun]
  exact ⟨ρ, _, h, hC, hr.put hv (okOper_dst ho), Frame.refl _ _ _ _, hK⟩
end
/-! ## What the model's operations do -/
section
variable {P : Program} {W : World}
theorem run_und {t : TypeId} {d : TypeDesc} (h : P.underlying t = some d) : (underlying t).run P W = .ok d W := by simp [underlying, h]
theorem info_of_cells {t : TypeId} (h : P.cellsOf t ≠ 0) : ∃ i, P.info? t = some i ∧ i.size = P.cellsOf t := by
  unfold Program.cellsOf at h ⊢
  cases hi : P.info? t with
  | none => rw [hi] at h; exact absurd rfl h
  | some i => exact ⟨i, rfl, by simp⟩
theorem run_size {t : TypeId} {i : TypeInfo} (h : P.info? t = some i) : (Go.sizeOf t).run P W = .ok (P.cellsOf t) W := by
  simp [Go.sizeOf, typeInfo, h, Program.cellsOf]
theorem addr_add (b o k : Nat) : Addr.add ⟨b, o, none⟩ k = ⟨b, o + k, none⟩ := by
  unfold Addr.add; split
  · subst_vars; rfl
  · rfl
theorem run_field {t f o : Nat} (h : fieldOff P t f = some o) (b p : Nat) : (Instr.fieldAt t (.pointer (some ⟨b, p, none⟩)) f).run P W = .ok (.pointer (some ⟨b, p + o, none⟩)) W := by
  unfold fieldOff at h
  split at h
  · rename_i fs hu
    split at h
    · rename_i fl hf
      split at h
      · cases h
      · rename_i hz
        cases h
        obtain ⟨i, hi, _⟩ := info_of_cells hz
        simp [Instr.fieldAt, run_und hu, hf, Instr.sureAddr, fieldPlace, run_size hi, hz, addr_add]
    · cases h
  · cases h
theorem run_index {t sz : Nat} (h : elemSize P t = some sz) (A : Option Addr) (b p n c : Nat) (k : IntKind) (i : Int) (h0 : 0 ≤ i) (h1 : i < n) :
    (Instr.indexAt t (.slice (some ⟨b, p, none⟩) n c) (.int k i)).run P W = .ok (.pointer (some ⟨b, p + i.toNat * sz, none⟩)) W := by
  unfold elemSize at h
  split at h
  · rename_i e hu
    split at h
    · rename_i hi
      cases h
      obtain ⟨i', hi⟩ := Option.isSome_iff_exists.1 hi
      have h2 : 0 ≤ i ∧ i < (n : Int) := ⟨h0, h1⟩
      simp [Instr.indexAt, asIntOf, run_und hu, run_size hi, h2, addr_add]
    · cases h
  · cases h
theorem agg_none {t : Nat} (h : aggSize P t = some none) : (isAgg t).run P W = .ok false W := by
  unfold aggSize at h
  cases hi : P.info? t with
  | none => simp [hi] at h
  | some i =>
    cases hu : P.underlying t with
    | none => simp [hi, hu] at h
    | some d => cases d <;> simp [hi, hu, isAgg, run_und hu] at h ⊢
theorem agg_some {t k : Nat} (h : aggSize P t = some (some k)) : (isAgg t).run P W = .ok true W ∧ ∃ i, P.info? t = some i ∧ P.cellsOf t = k := by
  unfold aggSize at h
  cases hi : P.info? t with
  | none => simp [hi] at h
  | some i =>
    cases hu : P.underlying t with
    | none => simp [hi, hu] at h
    | some d => cases d <;> simp [hi, hu, isAgg, run_und hu, Program.cellsOf] at h ⊢ <;> exact h
end
/-! ## Numbers, texts -/
section
theorem int_beq (a b : Int) : (a == b) = decide (a = b) := rfl
theorem list_beq (a b : List UInt8) : (a == b) = decide (a = b) := by rw [Bool.eq_iff_iff]; simp
variable {P : Program} {W : World} {ρ : Ren}
theorem equalIn_bool {t : TypeId} (hu : P.underlying t = some .bool) (d : Nat) (a b : Bool) : (Op.equalIn (d + 1) t (.bool a) (.bool b)).run P W = .ok (a == b) W := by
  rw [Op.equalIn]; simp [run_und hu]
theorem equal_bool {t : TypeId} (hu : P.underlying t = some .bool) (a b : Bool) : (Op.equal t (.bool a) (.bool b)).run P W = .ok (a == b) W := equalIn_bool hu 9999 a b
theorem equalIn_ptr {t e : TypeId} (hu : P.underlying t = some (.pointer e)) (d : Nat) (a : Option Addr) : (Op.equalIn (d + 1) t (.pointer a) (.pointer none)).run P W = .ok a.isNone W := by
  rw [Op.equalIn]; cases a <;> simp [run_und hu]
theorem equal_ptr {t e : TypeId} (hu : P.underlying t = some (.pointer e)) (a : Option Addr) : (Op.equal t (.pointer a) (.pointer none)).run P W = .ok a.isNone W := equalIn_ptr hu 9999 a
theorem bin_int {t : TypeId} {op : BinOp} {k k' : IntKind} {a b : Int} {v : Value} {xo yo : Operand} (h : bin P t op (.int k a) (.int k' b) = some v) :
    (do eqGuard op t xo yo (.int k a) (.int k' b); binOp op t (.int k a) (.int k' b) : Sem Value).run P W = .ok v W ∧ VRel ρ v v := by
  cases op <;> simp only [bin] at h
  all_goals first
    | (split at h
       · rename_i hc; cases h
         first
          | (subst hc; exact ⟨by simp [eqGuard, binOp, Op.intArith, Op.intBits, Op.intCmp, bne, int_beq], .same _ rfl⟩)
          | (obtain ⟨rfl, hc⟩ := hc; exact ⟨by simp [eqGuard, binOp, Op.intDiv, hc], .same _ rfl⟩)
          | (exact ⟨by simp [eqGuard, binOp, Op.shift, Int.not_lt.2 hc], .same _ rfl⟩)
       · cases h)
    | cases h
theorem bin_str {t : TypeId} {op : BinOp} {a b : ByteArray} {v : Value} {xo yo : Operand} (h : bin P t op (.string a) (.string b) = some v) :
    (do eqGuard op t xo yo (.string a) (.string b); binOp op t (.string a) (.string b) : Sem Value).run P W = .ok v W ∧ VRel ρ v v := by
  cases op <;> simp only [bin] at h
  all_goals first
    | (split at h
       · rename_i hc; cases h
         have hm : IntKind.i64.max = 9223372036854775807 := by decide
         have hc' : ¬ (9223372036854775807 < (a.size : Int) + (b.size : Int)) := by omega
         exact ⟨by simp [eqGuard, binOp, Op.stringOp, hm, hc'], .same _ rfl⟩
       · cases h)
    | (cases h; exact ⟨by simp [eqGuard, binOp, Op.stringOp, list_beq, bne], .same _ rfl⟩)
    | cases h
theorem bin_bool {t : TypeId} {op : BinOp} {a b : Bool} {v : Value} {xo yo : Operand} (h : bin P t op (.bool a) (.bool b) = some v) :
    (do eqGuard op t xo yo (.bool a) (.bool b); binOp op t (.bool a) (.bool b) : Sem Value).run P W = .ok v W ∧ VRel ρ v v := by
  cases op <;> simp only [bin] at h
  all_goals first
    | (split at h
       · rename_i hc; cases h
         unfold isBool at hc
         split at hc
         · rename_i hu
           exact ⟨by simp [eqGuard, binOp, equal_bool hu], .same _ rfl⟩
         · cases hc
       · cases h)
    | cases h
theorem bin_ptr {t : TypeId} {op : BinOp} {a : Option Addr} {v : Value} {a' : Option Addr} {xo yo : Operand} (ha : a'.isNone = a.isNone) (h : bin P t op (.pointer a) (.pointer none) = some v) :
    (do eqGuard op t xo yo (.pointer a') (.pointer none); binOp op t (.pointer a') (.pointer none) : Sem Value).run P W = .ok v W ∧ VRel ρ v v := by
  cases op <;> cases a <;> cases a' <;> simp only [bin] at h <;> simp at ha
  all_goals first
    | (split at h
       · rename_i hc; cases h
         unfold isPtr at hc
         split at hc
         · rename_i hu
           exact ⟨by simp [eqGuard, binOp, equal_ptr hu], .same _ rfl⟩
         · cases hc
       · cases h)
    | cases h
theorem bin_ptrs {t : TypeId} {op : BinOp} {a b : Option Addr} {v x' y' : Value} {xo yo : Operand} (h : bin P t op (.pointer a) (.pointer b) = some v) (hx : VRel ρ (.pointer a) x') (hy : VRel ρ (.pointer b) y') :
    (do eqGuard op t xo yo x' y'; binOp op t x' y' : Sem Value).run P W = .ok v W ∧ VRel ρ v v := by
  cases b with
  | none =>
    cases hy.nilptr_inv
    cases a with
    | none => cases hx.nilptr_inv; exact bin_ptr rfl h
    | some a => obtain ⟨c, _, _, rfl⟩ := hx.ptr_inv; exact bin_ptr (a := some a) rfl h
  | some b => cases a <;> cases op <;> cases h
theorem bin_agg {t : TypeId} {op : BinOp} {a b : Array Value} {v x' y' : Value} {xo yo : Operand} (h : bin P t op (.agg a) (.agg b) = some v) (hx : VRel ρ (.agg a) x') (hy : VRel ρ (.agg b) y') :
    (do eqGuard op t xo yo x' y'; binOp op t x' y' : Sem Value).run P W = .ok v W ∧ VRel ρ v v := by
  have hq : ∃ q, aggEq P t a b = some q ∧ ((op = .eql ∧ v = .bool q) ∨ (op = .neq ∧ v = .bool !q)) := by
    cases op <;> simp only [bin] at h <;> first
      | cases h
      | (cases hq : aggEq P t a b with
         | none => rw [hq] at h; cases h
         | some q => rw [hq] at h; cases h; exact ⟨q, rfl, by simp⟩)
  obtain ⟨q, hq, hv⟩ := hq
  unfold aggEq at hq
  cases ht : flatTy P t with
  | none => rw [ht] at hq; cases hq
  | some ts =>
    rw [ht] at hq
    simp only at hq
    split at hq
    · rename_i hf
      simp only [Bool.and_eq_true] at hf
      have ex := plainCells_eq (fits_plainA hf.1) hx
      have ey := plainCells_eq (fits_plainA hf.2) hy
      subst ex ey
      have he := run_equal_flat (W := W) ht hf.1 hq
      have hg := (flat_inv ht).2.1
      have he' : (Op.equalIn 10000 t (.agg a) (.agg b)).run P W = .ok q W := he
      rcases hv with ⟨rfl, rfl⟩ | ⟨rfl, rfl⟩
      · exact ⟨by simp only [Sem.run_bind, run_eqGuard_agg W .eql t xo yo a b hg, Result.andThen_ok, run_eql_struct, he'], .same _ rfl⟩
      · exact ⟨by simp only [Sem.run_bind, run_eqGuard_agg W .neq t xo yo a b hg, Result.andThen_ok, run_neq_struct, he'], .same _ rfl⟩
    · cases hq
theorem bin_map {t : TypeId} {op : BinOp} {a b : Option Nat} {v x' y' : Value} {xo yo : Operand} (h : bin P t op (.map a) (.map b) = some v) (hx : VRel ρ (.map a) x') (hy : VRel ρ (.map b) y') :
    (do eqGuard op t xo yo x' y'; binOp op t x' y' : Sem Value).run P W = .ok v W ∧ VRel ρ v v := by
  cases b with
  | some b => cases op <;> cases h
  | none =>
    cases hy.nilmap_inv
    have hx2 : ∃ a', x' = .map a' ∧ a'.isNone = a.isNone := by
      cases a with
      | none => exact ⟨none, hx.nilmap_inv, rfl⟩
      | some a => obtain ⟨c, _, e⟩ := hx.map_inv; exact ⟨some c.blk, e, rfl⟩
    obtain ⟨a', rfl, ha⟩ := hx2
    cases op <;> simp only [bin] at h
    all_goals first
      | cases h
      | (split at h
         · rename_i hc; cases h
           unfold isMapT at hc
           split at hc
           · rename_i k e hu
             have he : (Op.equalIn (9999 + 1) t (.map a') (.map none)).run P W = .ok a'.isNone W := by
               rw [Op.equalIn]; cases a' <;> simp [run_und hu]
             have he' : (Op.equal t (.map a') (.map none)).run P W = .ok a'.isNone W := he
             rw [← ha]
             exact ⟨by simp [eqGuard, binOp, he'], .same _ rfl⟩
           · cases hc
         · cases h)
theorem bin_sl {t : TypeId} {op : BinOp} {a b : Option Addr} {n m k l : Nat} {v x' y' : Value} {xo yo : Operand} (h : bin P t op (.slice a n m) (.slice b k l) = some v) (hx : VRel ρ (.slice a n m) x') (hy : VRel ρ (.slice b k l) y') :
    (do eqGuard op t xo yo x' y'; binOp op t x' y' : Sem Value).run P W = .ok v W ∧ VRel ρ v v := by
  have hb : b = none ∧ k = 0 ∧ l = 0 := by
    cases op <;> cases b <;> cases k <;> cases l <;> first | exact ⟨rfl, rfl, rfl⟩ | cases h
  obtain ⟨rfl, rfl, rfl⟩ := hb
  obtain ⟨_, _, rfl⟩ := hy.nilslice_inv
  have hx2 : ∃ a' n' m', x' = .slice a' n' m' ∧ a'.isNone = a.isNone := by
    cases a with
    | none => obtain ⟨_, _, e⟩ := hx.nilslice_inv; exact ⟨none, 0, 0, e, rfl⟩
    | some a =>
      rcases hx.slice_inv with ⟨c, cap, _, _, e, _, _⟩ | ⟨_, c, a', _, e⟩
      · exact ⟨_, _, _, e, rfl⟩
      · exact ⟨_, _, _, e, rfl⟩
  obtain ⟨a', n', m', rfl, ha⟩ := hx2
  cases op <;> simp only [bin] at h
  all_goals first
    | cases h
    | (split at h
       · rename_i hc; cases h
         unfold isSl at hc
         split at hc
         · rename_i e hu
           have he : (Op.equalIn (9999 + 1) t (.slice a' n' m') (.slice none 0 0)).run P W = .ok a'.isNone W := by
             rw [Op.equalIn]; cases a' <;> simp [run_und hu]
           have he' : (Op.equal t (.slice a' n' m') (.slice none 0 0)).run P W = .ok a'.isNone W := he
           rw [← ha]
           exact ⟨by simp [eqGuard, binOp, he'], .same _ rfl⟩
         · cases hc
       · cases h)
theorem bin_none {t : TypeId} {op : BinOp} {x y v : Value} (h : bin P t op x y = some v) :
    (∃ k a k' b, x = .int k a ∧ y = .int k' b) ∨ (∃ a b, x = .string a ∧ y = .string b) ∨ (∃ a b, x = .bool a ∧ y = .bool b) ∨ (∃ a b, x = .pointer a ∧ y = .pointer b) ∨ (∃ a b, x = .agg a ∧ y = .agg b) ∨ (∃ a b, x = .map a ∧ y = .map b) ∨ (∃ a n m b k l, x = .slice a n m ∧ y = .slice b k l) := by
  unfold bin at h
  split at h <;> first | (simp; done) | cases h
theorem bin_sound {t : TypeId} {op : BinOp} {x y v x' y' : Value} {xo yo : Operand} (h : bin P t op x y = some v) (hx : VRel ρ x x') (hy : VRel ρ y y') :
    (do eqGuard op t xo yo x' y'; binOp op t x' y' : Sem Value).run P W = .ok v W ∧ VRel ρ v v := by
  rcases bin_none h with ⟨k, a, k', b, rfl, rfl⟩ | ⟨a, b, rfl, rfl⟩ | ⟨a, b, rfl, rfl⟩ | ⟨a, b, rfl, rfl⟩ | ⟨a, b, rfl, rfl⟩ | ⟨a, b, rfl, rfl⟩ | ⟨a, n, m, b, k, l, rfl, rfl⟩
  · cases hx.int_inv; cases hy.int_inv; exact bin_int h
  · cases hx.string_inv; cases hy.string_inv; exact bin_str h
  · cases hx.bool_inv; cases hy.bool_inv; exact bin_bool h
  · exact bin_ptrs h hx hy
  · exact bin_agg h hx hy
  · exact bin_map h hx hy
  · exact bin_sl h hx hy
theorem un_sound {op : UnOp} {x v x' : Value} (h : un op x = some v) (hx : VRel ρ x x') : (Op.unary op x').run P W = .ok v W ∧ VRel ρ v v := by
  cases x <;> cases op <;> simp only [un] at h <;> first
    | (cases hx.int_inv; cases h; exact ⟨by simp [Op.unary, Op.intArith, Op.intBits], .same _ rfl⟩)
    | (cases hx.bool_inv; cases h; exact ⟨by simp [Op.unary], .same _ rfl⟩)
    | cases h

/-! ## Cells read -/
theorem BlkAt.cell {c : CB} {vs : List Value} {o : Own} {W : World} (h : BlkAt ρ W c (.cells vs o)) {i : Nat} {v : Value} (hv : vs[i]? = some v) :
    ∃ v', W.cell? ⟨c.blk, c.sh + i, none⟩ = some v' ∧ VRel ρ v v' := by
  have own : OwnAt ρ W c vs → ∃ v', W.cell? ⟨c.blk, c.sh + i, none⟩ = some v' ∧ VRel ρ v v' := fun h => by
    obtain ⟨cs, e, fr, h1, h2, h3, h4, h5⟩ := h
    obtain ⟨v', ha, hb⟩ := h4 i v hv
    exact ⟨v', by simp [World.cell?, h1, ha], hb⟩
  cases o with
  | ro => exact h i v hv
  | lock => exact own h
  | own => exact own h
theorem cells_list {c : CB} {vs : List Value} {o : Own} {W : World} (h : BlkAt ρ W c (.cells vs o)) (i n : Nat) (hl : i + n ≤ vs.length) :
    ∃ ys : List Value, ys.length = n ∧ (∀ (j : Nat) (v : Value), ys[j]? = some v → W.cell? (Addr.add ⟨c.blk, c.sh + i, none⟩ j) = some v) ∧ ARel ρ ((vs.drop i).take n).toArray ys.toArray := by
  induction n with
  | zero => exact ⟨[], rfl, by simp, by simp [ARel]⟩
  | succ n ih =>
    obtain ⟨ys, h1, h2, h3, h4⟩ := ih (by omega)
    have hi : i + n < vs.length := by omega
    obtain ⟨v', hv', hr⟩ := h.cell (List.getElem?_eq_getElem hi)
    refine ⟨ys ++ [v'], by simp [h1], fun j v hj => ?_, by simp [h1]; omega, fun j x y hx hy => ?_⟩
    · by_cases e : j < ys.length
      · rw [List.getElem?_append_left e] at hj; exact h2 j v hj
      · rw [List.getElem?_append_right (by omega)] at hj
        have e' : j - ys.length = 0 := by
          rcases Nat.eq_zero_or_pos (j - ys.length) with h | h
          · exact h
          · rw [List.getElem?_eq_none (by simp; omega)] at hj; cases hj
        rw [e'] at hj
        simp at hj
        subst hj
        have : j = n := by omega
        subst this
        rw [addr_add, Nat.add_assoc]; exact hv'
    · simp only [List.getElem?_toArray] at hx hy
      by_cases e : j < n
      · rw [List.getElem?_append_left (by omega)] at hy
        refine h4 j x y ?_ (by simpa using hy)
        rw [List.getElem?_toArray, List.getElem?_take_of_lt e]
        rw [List.getElem?_take_of_lt (by omega)] at hx
        exact hx
      · by_cases e2 : j = n
        · subst e2
          rw [List.getElem?_take_of_lt (by omega), List.getElem?_drop, List.getElem?_eq_getElem hi] at hx
          rw [List.getElem?_append_right (by omega)] at hy
          simp [h1] at hy
          cases hx; subst hy; exact hr
        · rw [List.getElem?_eq_none (by simp; omega)] at hx; cases hx
end
end Ph
