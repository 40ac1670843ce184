import Derived.Test.YtcbgjjbbeeoekaaDoorPhMap
import Derived.Test.YtcbgjjbbeeoekaaDoorPhSound5
set_option linter.unusedVariables false
namespace Ph
open Go Go.RowKit
section
variable {P : Program} {n lo : Nat} {ρ : Ren} {r : Regs} {a : Act} {h : Heap} {W : World} {o : Oper}
theorem Conc.below (hC : Conc ρ h W) {W' : World} (hb : Below W.heap.size W W') : Conc ρ h W' :=
  ⟨fun id c b hc hl => (hC.at_ id c b hc hl).mono (fun _ _ h => h) (hb.block _ (hC.lt id c hc)), hC.apart, hC.free, hC.next, fun id c hc => Nat.lt_of_lt_of_le (hC.lt id c hc) hb.size, hC.tab.keep hb.size (fun b hb' _ => hb.block b hb') fun id c hc ho => .inr ⟨id, c, hc, ho, rfl⟩⟩
theorem Frame.below {lim : Nat} {W' : World} (hb : Bel W.heap.size W W') : Frame lim ρ h W ρ h W' :=
  ⟨fun _ _ => rfl, fun _ _ _ => rfl, fun b hb' _ => hb.1.block b hb', hb.1.size, Nat.le_refl _, fun id c hc ho => .inr ⟨id, c, hc, ho, rfl⟩, hb.1.os, hb.1.tape, hb.1.output, hb.2⟩
theorem Bel.trans {B : Nat} {a b c : World} (h : Bel B a b) (k : Bel B b c) : Bel B a c := ⟨h.1.trans k.1, Nat.le_trans h.2 k.2⟩
theorem Bel.mono {B B' : Nat} {w w' : World} (h : Bel B w w') (hB : B' ≤ B) : Bel B' w w' := ⟨h.1.mono hB, h.2⟩
theorem lock_own (b : Blk) : b.lock.own = b.own := by cases b <;> rename_i o <;> cases o <;> rfl
theorem lock_mod (b : Blk) : b.lock.mod = false := by cases b <;> rename_i o <;> cases o <;> rfl
theorem lock_at {W : World} {c : CB} {b : Blk} (h : BlkAt ρ W c b) : BlkAt ρ W c b.lock := by cases b <;> rename_i o <;> cases o <;> exact h
theorem lock_live {s : Slot} {b : Blk} (h : s.lock = .live b) : ∃ b0, s = .live b0 ∧ b = b0.lock := by
  cases s with
  | live b0 => simp only [Slot.lock, Slot.live.injEq] at h; exact ⟨b0, rfl, h.symm⟩
  | _ => cases h
theorem ro_mods (id : Nat) : ¬ h.ro.mods id := fun ⟨b, hb, ho⟩ => by obtain ⟨b0, _, rfl⟩ := lock_live hb; rw [lock_mod] at ho; cases ho
theorem Conc.ro (hC : Conc ρ h W) : Conc ρ h.ro W := by
  refine ⟨fun id c b hc hb => ?_, fun id id' c c' hne hc hc' ho hl => ?_, fun id hi => ?_, fun id hi => ?_, hC.lt, hC.tab.keep (Nat.le_refl _) (fun _ _ _ => rfl) fun id c hc ⟨b, hb, hb'⟩ => .inr ⟨id, c, hc, (by obtain ⟨b0, hg, rfl⟩ := lock_live hb; exact ⟨b0, hg, by rw [← lock_own]; exact hb'⟩), rfl⟩⟩
  · obtain ⟨b0, hg, rfl⟩ := lock_live hb
    exact lock_at (hC.at_ id c b0 hc hg)
  · obtain ⟨b, hb, hb'⟩ := ho
    obtain ⟨b', hb2⟩ := hl
    obtain ⟨b0, hg, rfl⟩ := lock_live hb
    obtain ⟨b1, hg1, rfl⟩ := lock_live hb2
    exact hC.apart id id' c c' hne hc hc' ⟨b0, hg, by rw [← lock_own]; exact hb'⟩ ⟨b1, hg1⟩
  · refine hC.free id ?_
    simp only [Heap.ro] at hi
    cases hg : h.get id <;> simp [hg, Slot.lock] at hi ⊢
  · have := hC.next id hi
    simp only [Heap.ro, this]; rfl
theorem Frame.to_below {lim : Nat} {ρ' : Ren} {h' : Heap} {W' : World} (hf : Frame lim ρ h.ro W ρ' h' W') : Bel W.heap.size W W' :=
  ⟨⟨hf.os, hf.tape, hf.output, hf.size, fun k hk => hf.blk k hk (fun id c _ ho => absurd ho (ro_mods id))⟩, hf.drawn⟩
theorem VRel.plain1_eq {v v' : Value} (hp : plain1 v = true) (hv : VRel ρ v v') : v' = v := by
  cases hv with
  | same => rfl
  | agg xs ys hs hh =>
    have hall : xs.all plainCell = true := hp
    congr 1
    apply Array.ext_getElem?
    intro i
    by_cases hi : i < xs.size
    · have hi' : i < ys.size := by omega
      rw [Array.getElem?_eq_getElem hi, Array.getElem?_eq_getElem hi']
      have h1 := hh i xs[i] ys[i] (Array.getElem?_eq_getElem hi) (Array.getElem?_eq_getElem hi')
      have h2 := Array.all_eq_true'.1 hall xs[i] (Array.getElem_mem hi)
      congr 1
      generalize ys[i] = y at h1 ⊢
      generalize xs[i] = x at h1 h2 ⊢
      cases h1 <;> first | rfl | simp [plainCell] at h2
    · rw [Array.getElem?_eq_none (by omega), Array.getElem?_eq_none (by omega)]
  | _ => simp [plain1, plainCell] at hp
theorem VRel.plain_eq {v v' : Value} (hp : plain v = true) (hv : VRel ρ v v') : v' = v := by
  cases hv with
  | same => rfl
  | ptr => simp [plain, plainCell] at hp
  | slice => simp [plain, plainCell] at hp
  | slice0 => simp [plain, plainCell] at hp
  | map => simp [plain, plainCell] at hp
  | yld => simp [plain, plainCell] at hp
  | agg xs ys hs hh =>
    have hall : xs.all plainCell = true := hp
    congr 1
    apply Array.ext_getElem?
    intro i
    by_cases hi : i < xs.size
    · have hi' : i < ys.size := by omega
      rw [Array.getElem?_eq_getElem hi, Array.getElem?_eq_getElem hi']
      have h1 := hh i xs[i] ys[i] (Array.getElem?_eq_getElem hi) (Array.getElem?_eq_getElem hi')
      have h2 := Array.all_eq_true'.1 hall xs[i] (Array.getElem_mem hi)
      congr 1
      generalize ys[i] = y at h1 ⊢
      generalize xs[i] = x at h1 h2 ⊢
      cases h1 <;> first | rfl | simp [plainCell] at h2
    · rw [Array.getElem?_eq_none (by omega), Array.getElem?_eq_none (by omega)]
  | tuple xs ys hs hh =>
    have hall : xs.toList.all plain1 = true := hp
    congr 1
    apply Array.ext_getElem?
    intro i
    by_cases hi : i < xs.size
    · have hi' : i < ys.size := by omega
      rw [Array.getElem?_eq_getElem hi, Array.getElem?_eq_getElem hi']
      have h1 := hh i xs[i] ys[i] (Array.getElem?_eq_getElem hi) (Array.getElem?_eq_getElem hi')
      rw [h1.plain1_eq (List.all_eq_true.1 hall xs[i] (by simp))]
    · rw [Array.getElem?_eq_none (by omega), Array.getElem?_eq_none (by omega)]
  | func f xs ys us vs hs hh hs' hh' =>
    have h0 : xs = #[] ∧ us = #[] := by simpa [plain] using hp
    obtain ⟨rfl, rfl⟩ := h0
    have e1 : ys = #[] := by apply Array.eq_empty_of_size_eq_zero; exact hs.symm
    have e2 : vs = #[] := by apply Array.eq_empty_of_size_eq_zero; exact hs'.symm
    rw [e1, e2]
theorem args_rel {xs : Array Operand} (hx : ∀ x ∈ xs, okArg x = true) (hr : RRel n lo W ρ r a) : ARel ρ (xs.map (ev r)) (xs.map a.eval) := by
  refine ⟨by simp, fun i x y h1 h2 => ?_⟩
  simp only [Array.getElem?_map, Option.map_eq_some_iff] at h1 h2
  obtain ⟨u, hu, rfl⟩ := h1
  obtain ⟨u', hu', rfl⟩ := h2
  rw [hu] at hu'; cases hu'
  exact eval_rel (hx u (Array.mem_of_getElem? hu)) hr
theorem ARel.append {xs ys us vs : Array Value} (h1 : ARel ρ xs ys) (h2 : ARel ρ us vs) : ARel ρ (xs ++ us) (ys ++ vs) := by
  refine ⟨by simp [h1.1, h2.1], fun i x y hx hy => ?_⟩
  by_cases hi : i < xs.size
  · rw [Array.getElem?_append_left hi] at hx
    rw [Array.getElem?_append_left (by rw [← h1.1]; exact hi)] at hy
    exact h1.2 i x y hx hy
  · rw [Array.getElem?_append_right (by omega)] at hx
    rw [Array.getElem?_append_right (by rw [← h1.1]; omega), ← h1.1] at hy
    exact h2.2 _ x y hx hy
theorem parts_rel (parts : List (Nat × Operand)) (hx : ∀ p ∈ parts, okArg p.2 = true) (hr : RRel n lo W ρ r a) : PRel ρ (parts.map fun p => (p.1, ev r p.2)) (parts.map fun p => (p.1, a.eval p.2)) := by
  induction parts with
  | nil => exact .nil
  | cons p l ih => exact .cons _ _ _ _ _ (eval_rel (hx p (List.mem_cons_self ..)) hr) (ih fun q hq => hx q (List.mem_cons_of_mem _ hq))
theorem opt_rel {lw : Nat} {lo : Option Operand} (hx : ∀ x, lo = some x → okArg x = true) (hr : RRel n lw W ρ r a) : (∀ v v', lo.map (ev r) = some v → lo.map a.eval = some v' → VRel ρ v v') ∧ (lo.map a.eval).isSome = (lo.map (ev r)).isSome := by
  cases lo with
  | none => exact ⟨(fun _ _ h => by cases h), rfl⟩
  | some x => exact ⟨(fun v v' h1 h2 => by cases h1; cases h2; exact eval_rel (hx x rfl) hr), rfl⟩
theorem one_arg {α : Type} {xs : Array α} (h : xs.size = 1) : ∃ x, xs = #[x] := by
  obtain ⟨l⟩ := xs
  match l, h with
  | [x], _ => exact ⟨x, rfl⟩
theorem minmax_inv {mx : Bool} {l : List Value} {v : Value} (h : minmax mx l = some v) : ∃ k k' a b, l = [.int k a, .int k' b] ∧ v = .int k (if mx then (if b > a then b else a) else (if b < a then b else a)) := by
  unfold minmax at h
  split at h
  · cases h; exact ⟨_, _, _, _, rfl, rfl⟩
  · cases h
theorem two_args {xs : Array Operand} {u v : Value} (h : xs.toList.map (ev r) = [u, v]) : ∃ x y, xs = #[x, y] ∧ ev r x = u ∧ ev r y = v := by
  obtain ⟨l⟩ := xs
  match l, h with
  | [x, y], h => simp at h; exact ⟨x, y, rfl, h.1, h.2⟩
/-- the block that an operation reads -/
def accOf (o : Oper) (r : Regs) : Option Nat :=
  match o.op with
  | .load _ x => (match ev r x with | .pointer (some a) => some a.block | _ => none)
  | .convert _ _ x => (match ev r x with | .slice (some a) _ _ => some a.block | _ => none)
  | .lookup _ x _ _ => (match ev r x with | .map (some id) => some id | _ => none)
  | .call { callee := .builtin .len, args := args, .. } => (match ev r (args.getD 0 (.tmp 0)) with | .map (some id) => some id | _ => none)
  | _ => none
/-- an operation that reads, at most: one value, wherever the block that it reads is as it was -/
theorem rl_held {K : Kt} (hC : Conc ρ h W) (hr : RRel n lo W ρ r a) (ho : okOper n o = true) (hk : rlOp P o = true) (hs : step P o K r h) :
    ∃ v v', (∀ W', (∀ id c, accOf o r = some id → ρ id = some c → W'.heap[c.blk]? = W.heap[c.blk]?) → (execOp a.eval o).run P W' = .ok (.value v') W') ∧ VRel ρ v v' ∧ K (upd r o.dst v) h := by
  obtain ⟨d, op, ty, pos, af, g⟩ := o
  have arg := fun {x : Operand} (hx : x ∈ op.operands) => eval_rel (okOper_arg (o := ⟨d, op, ty, pos, af, g⟩) ho hx) hr
  cases op with
  | move x => exact ⟨_, _, fun W' _ => by simp [execOp], arg (by simp [Op.operands]), hs⟩
  | assign x => exact ⟨_, _, fun W' _ => by simp [execOp], arg (by simp [Op.operands]), hs⟩
  | pick c x y =>
    simp only [step] at hs
    have hc := arg (x := c) (by simp [Op.operands])
    cases hv : ev r c with
    | bool b =>
      rw [hv] at hs hc
      refine ⟨_, if b = true then a.eval x else a.eval y, fun W' _ => by simp [execOp, hc.bool_inv, asBool], ?_, hs⟩
      cases b
      · exact arg (by simp [Op.operands])
      · exact arg (by simp [Op.operands])
    | _ => rw [hv] at hs; exact hs.elim
  | nilCheck x =>
    simp only [step] at hs
    have hx := arg (x := x) (by simp [Op.operands])
    cases hv : ev r x with
    | pointer p =>
      cases p with
      | none => rw [hv] at hs; exact hs.elim
      | some A =>
        rw [hv] at hs hx
        have hx' := hx
        obtain ⟨c, h1, h2, h3⟩ := hx.ptr_inv
        refine ⟨_, a.eval x, fun W' _ => by simp [execOp, h3], hx', hs⟩
    | _ => rw [hv] at hs; exact hs.elim
  | binOp b t x y u =>
    simp only [step] at hs
    cases hb : bin P t b (ev r x) (ev r y) with
    | none => rw [hb] at hs; exact hs.elim
    | some v =>
      rw [hb] at hs
      have h2 : ∀ W' : World, _ := fun W' => bin_sound (P := P) (W := W') (ρ := ρ) (xo := x) (yo := y) hb (arg (by simp [Op.operands])) (arg (by simp [Op.operands]))
      exact ⟨v, v, fun W' _ => by have := (h2 W').1; simp only [execOp, Sem.run_bind] at this ⊢; rw [this]; rfl, (h2 W).2, hs⟩
  | unOp b t x =>
    simp only [step] at hs
    cases hb : un b (ev r x) with
    | none => rw [hb] at hs; exact hs.elim
    | some v =>
      rw [hb] at hs
      have h2 : ∀ W' : World, _ := fun W' => un_sound (P := P) (W := W') (ρ := ρ) hb (arg (by simp [Op.operands]))
      exact ⟨v, v, fun W' _ => by simp [execOp, (h2 W').1], (h2 W).2, hs⟩
  | fieldAddr t x f =>
    simp only [step] at hs
    have hx := arg (x := x) (by simp [Op.operands])
    cases hv : ev r x with
    | pointer p =>
      cases p with
      | none => rw [hv] at hs; exact hs.elim
      | some A =>
        rw [hv] at hs hx
        simp only [onPtr] at hs
        cases hf : fieldOff P t f with
        | none => rw [hf] at hs; exact hs.elim
        | some k =>
          rw [hf] at hs
          obtain ⟨c, h1, h2, h3⟩ := hx.ptr_inv
          refine ⟨_, .pointer (some ⟨c.blk, c.sh + A.off + k, none⟩), fun W' _ => by simp [execOp, h3, run_field hf], ?_, hs⟩
          rw [Nat.add_assoc]; exact .ptr _ _ c h1
    | _ => rw [hv] at hs; exact hs.elim
  | field t x f =>
    simp only [step] at hs
    have hx := arg (x := x) (by simp [Op.operands])
    cases hv : ev r x with
    | agg cs =>
      rw [hv] at hs hx
      simp only [onAgg] at hs
      cases hp : fieldPart P t f with
      | none => rw [hp] at hs; exact hs.elim
      | some p =>
        rw [hp] at hs
        simp only [onSome] at hs
        cases hq : partOf cs p with
        | none => rw [hq] at hs; exact hs.elim
        | some v =>
          rw [hq] at hs
          obtain ⟨cs', e1, hr'⟩ := hx.agg_inv
          -- the part is the same in every world
          have hrun : ∀ W', ∃ v', (Instr.field t (a.eval x) f).run P W' = .ok v' W' ∧ VRel ρ v v' := fun W' => field_sound (P := P) (W := W') hx hp hq
          obtain ⟨v', h1, h2⟩ := hrun W
          refine ⟨v, v', fun W' _ => ?_, h2, hs⟩
          obtain ⟨v2, h3, _⟩ := hrun W'
          have e : v2 = v' := by
            unfold fieldPart at hp
            split at hp
            · rename_i fs hu
              split at hp
              · rename_i fl hf
                obtain ⟨sz, hsz, rfl⟩ := Option.map_eq_some_iff.1 hp
                rw [e1] at h1 h3
                simp only [Instr.field, Sem.run_bind, run_und hu, Result.andThen_ok, hf, asAgg, Sem.run_pure] at h1 h3
                cases sz with
                | none =>
                  simp only [part, Sem.run_bind, agg_none hsz, Result.andThen_ok, Bool.false_eq_true, if_false] at h1 h3
                  cases hcs : cs'[fl.offset]? with
                  | none => simp [hcs] at h1
                  | some u => simp [hcs] at h1 h3; rw [← h1, ← h3]
                | some k =>
                  obtain ⟨g1, i, g2, g3⟩ := agg_some (P := P) (W := W) hsz
                  obtain ⟨g1', _, _, _⟩ := agg_some (P := P) (W := W') hsz
                  simp [part, g1, g1', run_size g2] at h1 h3
                  rw [← h1, ← h3]
              · cases hp
            · cases hp
          subst e
          simp [execOp, h3]
    | _ => rw [hv] at hs; exact hs.elim
  | extract x i =>
    simp only [step] at hs
    have hx := arg (x := x) (by simp [Op.operands])
    cases hv : ev r x with
    | tuple vs =>
      rw [hv] at hs hx
      simp only [onTuple] at hs
      cases hq : vs[i]? with
      | none => rw [hq] at hs; exact hs.elim
      | some v =>
        rw [hq] at hs
        obtain ⟨ys, e1, hr'⟩ := hx.tuple_inv
        have hi : i < ys.size := by rw [← hr'.1]; exact (Array.getElem?_eq_some_iff.1 hq).1
        exact ⟨v, ys[i], fun W' _ => by simp [execOp, e1, Instr.extract, Array.getElem?_eq_getElem hi], hr'.2 i v _ hq (Array.getElem?_eq_getElem hi), hs⟩
    | _ => rw [hv] at hs; exact hs.elim
  | indexAddr t x i =>
    simp only [step] at hs
    have hx := arg (x := x) (by simp [Op.operands])
    have hi := arg (x := i) (by simp [Op.operands])
    cases hv : ev r x with
    | slice A m st =>
      cases A with
      | none => rw [hv] at hs; exact hs.elim
      | some A =>
        rw [hv] at hs hx
        simp only [onSlice] at hs
        cases he : elemSize P t with
        | none => rw [he] at hs; exact hs.elim
        | some sz =>
          rw [he] at hs
          simp only [onSome] at hs
          cases hiv : ev r i with
          | int k j =>
            rw [hiv] at hs hi
            obtain ⟨rfl, ⟨h0, h1⟩, hK⟩ := hs
            rcases hx.slice_inv with ⟨c, cap, a1, a2, a3, a4, a5⟩ | ⟨rfl, c, a', a1, a3⟩
            · refine ⟨_, .pointer (some ⟨c.blk, c.sh + A.off + j.toNat * st, none⟩), fun W' _ => ?_, ?_, hK⟩
              · simp only [execOp, Sem.run_bind, a3, hi.int_inv, run_index he none c.blk (c.sh + A.off) m cap k j h0 h1]; rfl
              · rw [Nat.add_assoc]; exact .ptr _ _ c a1
            · omega
          | _ => rw [hiv] at hs; exact hs.elim
    | _ => rw [hv] at hs; exact hs.elim
  | index t x i =>
    simp only [step] at hs
    have hx := arg (x := x) (by simp [Op.operands])
    have hi := arg (x := i) (by simp [Op.operands])
    cases hv : ev r x with
    | string s =>
      rw [hv] at hs hx
      cases hiv : ev r i with
      | int k j =>
        rw [hiv] at hs hi
        obtain ⟨h1, ⟨h2, h3⟩, hK⟩ := hs
        exact ⟨_, _, fun W' _ => by simp only [execOp, Sem.run_bind, hx.string_inv, hi.int_inv, run_index_str h1 s k j h2 h3]; rfl, .same _ rfl, hK⟩
      | _ => rw [hiv] at hs; exact hs.elim
    | agg cs =>
      rw [hv] at hs hx
      obtain ⟨cs', hcs, hr⟩ := hx.agg_inv
      cases hiv : ev r i with
      | int k j =>
        rw [hiv] at hs hi
        obtain ⟨v, v', g1, g2, g3⟩ := index_agg hr hs
        exact ⟨_, v', fun W' _ => by simp only [execOp, Sem.run_bind, hcs, hi.int_inv, g1 W']; rfl, g2, g3⟩
      | _ => rw [hiv] at hs; exact hs.elim
    | _ => rw [hv] at hs; exact hs.elim
  | slice t x lo hi mx =>
    cases mx with
    | some m => cases hk
    | none =>
      simp only [step] at hs
      have hlo := opt_rel (ρ := ρ) (lo := lo) (fun y hy => okOper_arg (o := ⟨d, .slice t x lo hi none, ty, pos, af, g⟩) ho (by simp [Op.operands, hy])) hr
      have hhi := opt_rel (ρ := ρ) (lo := hi) (fun y hy => okOper_arg (o := ⟨d, .slice t x lo hi none, ty, pos, af, g⟩) ho (by simp [Op.operands, hy])) hr
      obtain ⟨v, v', h1, h2, h3⟩ := slice_sound (P := P) (arg (x := x) (by simp [Op.operands])) hlo.1 hlo.2 hhi.1 hhi.2 hs
      exact ⟨v, v', fun W' _ => by simp [execOp, h1 W'], h2, h3⟩
  | build t parts =>
    simp only [step] at hs
    cases hb : buildV P t (parts.toList.map fun p => (p.1, ev r p.2)) with
    | none => rw [hb] at hs; exact hs.elim
    | some cs =>
      rw [hb] at hs
      have hp := parts_rel (r := r) (a := a) (ρ := ρ) (n := n) parts.toList (fun p hp => okOper_arg (o := ⟨d, .build t parts, ty, pos, af, g⟩) ho (by simp only [Op.operands, List.mem_toArray, List.mem_map]; exact ⟨p, hp, rfl⟩)) hr
      obtain ⟨v', h1, h2⟩ := build_sound (P := P) hp hb
      have e : (parts.toList.map fun p => (p.1, a.eval p.2)).toArray = parts.map fun (i, x) => (i, a.eval x) := by apply Array.ext'; simp
      rw [e] at h1
      exact ⟨_, v', fun W' _ => by simp [execOp, h1 W'], h2, hs⟩
  | makeFunc fn first cap =>
    cases fn with
    | func f =>
      simp only [step] at hs
      have h1 := args_rel (ρ := ρ) (r := r) (a := a) (n := n) (xs := first) (fun y hy => okOper_arg (o := ⟨d, .makeFunc (.func f) first cap, ty, pos, af, g⟩) ho (by simp [Op.operands, hy])) hr
      have h2 := args_rel (ρ := ρ) (r := r) (a := a) (n := n) (xs := cap) (fun y hy => okOper_arg (o := ⟨d, .makeFunc (.func f) first cap, ty, pos, af, g⟩) ho (by simp [Op.operands, hy])) hr
      exact ⟨_, .func (.func f) (first.map a.eval) (cap.map a.eval), fun W' _ => by simp [execOp, Instr.makeFunc], .func f _ _ _ _ h1.1 h1.2 h2.1 h2.2, hs⟩
    | _ => cases hk
  | lookup t x k ok =>
    simp only [step] at hs
    obtain ⟨v, v', g1, g2, g3⟩ := lookup_sound hC (arg (x := x) (by simp [Op.operands])) (arg (x := k) (by simp [Op.operands])) hs
    exact ⟨v, v', fun W' hW => by simp [execOp, g1 W' fun id c e hc => hW id c (by simp [accOf, e]) hc], g2, g3⟩
  | load t x =>
    simp only [step] at hs
    have hx := arg (x := x) (by simp [Op.operands])
    cases hv : ev r x with
    | pointer p =>
      cases p with
      | none => rw [hv] at hs; exact hs.elim
      | some A =>
        rw [hv] at hs hx
        obtain ⟨c, h1, h2, h3⟩ := hx.ptr_inv
        obtain ⟨v, v', g1, g2, g3⟩ := load_sound hC h1 hs
        exact ⟨v, v', fun W' hb => by simp [execOp, h3, g1 W' (hb A.block c (by simp [accOf, hv]) h1)], g2, g3⟩
    | _ => rw [hv] at hs; exact hs.elim
  | convert s t x =>
    simp only [step] at hs
    have hx := arg (x := x) (by simp [Op.operands])
    have hnb : sliceOfU8 P t = false := by simpa [rlOp] using hk
    unfold conv at hs
    split at hs
    · rename_i k nn heq
      rw [heq] at hx
      cases hkd : isInt P t with
      | none => simp [hkd, onSome] at hs
      | some kd =>
        simp only [hkd, onSome] at hs
        obtain ⟨h1, hK⟩ := hs
        obtain ⟨ds, hds⟩ := Option.isSome_iff_exists.1 h1
        refine ⟨_, _, fun W' _ => ?_, .same _ rfl, hK⟩
        cases ds <;> simp [execOp, hx.int_inv, Go.convert, run_und hds, run_und (isInt_inv hkd), Conv.intToInt]
    · rename_i heq
      rw [heq] at hx
      obtain ⟨⟨h1, h2⟩, hK⟩ := hs
      obtain ⟨e, hu, he⟩ := sliceU8_inv h2
      obtain ⟨_, _, e3⟩ := hx.nilslice_inv
      exact ⟨_, .string ⟨#[]⟩, fun W' _ => by simp [execOp, e3, Go.convert, run_und hu, run_und (isStr_inv h1), run_und he, Conv.bytesToString]; rfl, .same _ rfl, hK⟩
    · rename_i A m st heq
      rw [heq] at hx
      obtain ⟨⟨h1, h2⟩, hs⟩ := hs
      cases hg : h.get A.block with
      | free => simp [onCells, hg] at hs
      | dead => simp [onCells, hg] at hs
      | live bl =>
        cases bl with
        | map _ _ _ => simp [onCells, hg] at hs
        | iter _ _ _ _ _ => simp [onCells, hg] at hs
        | loop _ _ => simp [onCells, hg] at hs
        | cells vs o =>
          simp only [onCells, hg] at hs
          obtain ⟨h3, hs⟩ := hs
          cases hb : bytesVal ((vs.drop A.off).take m) with
          | none => simp [hb, onSome] at hs
          | some bs =>
            simp only [hb, onSome] at hs
            exact ⟨_, _, fun W' hbl => by simp [execOp, run_conv_sl h1 h2 hx (fun c hc => (hC.at_ _ _ _ hc hg).mono (fun _ _ h => h) (hbl A.block c (by simp [accOf, heq]) hc)) h3 hb], .same _ rfl, hs⟩
    · rename_i b heq
      rw [heq] at hx
      cases hst : isStr P t with
      | true =>
        simp only [gate, hst, if_true] at hs
        obtain ⟨h1, hK⟩ := hs
        obtain ⟨ds, hds⟩ := Option.isSome_iff_exists.1 h1
        refine ⟨_, _, fun W' _ => ?_, .same _ rfl, hK⟩
        cases ds <;> simp [execOp, hx.string_inv, Go.convert, run_und hds, run_und (isStr_inv hst)]
      | false =>
        simp only [gate, hst] at hs
        obtain ⟨⟨h1, h2, h3⟩, hK⟩ := hs
        rw [hnb] at h2; cases h2
    · exact hs.elim
  | call c =>
    obtain ⟨callee, args, ts⟩ := c
    cases callee with
    | builtin b =>
      have arg' := fun (k : Nat) (hk : k < args.size) => arg (x := args.getD k (.tmp 0)) (by simp [Op.operands, Call.operands, Array.getD, hk])
      cases b with
      | len =>
        simp only [step] at hs
        unfold lenH at hs
        split at hs
        · rename_i heq
          cases ht : ts[0]? with
          | none => rw [ht] at hs; exact hs.elim
          | some t =>
            rw [ht] at hs
            simp only [onSome] at hs
            cases hmt : mapTy P t with
            | none => rw [hmt] at hs; exact hs.elim
            | some ke =>
              rw [hmt] at hs
              obtain ⟨h1, hK⟩ := hs
              obtain ⟨y, rfl⟩ := one_arg h1
              have hx := arg (x := y) (by simp [Op.operands, Call.operands])
              rw [show (#[y] : Array Operand).getD 0 (.tmp 0) = y from rfl] at heq
              rw [heq] at hx
              refine ⟨_, _, fun W' _ => ?_, .same _ rfl, hK⟩
              have e := lenM_nil (P := P) (ty := ty) ht hmt W'
              simp [execOp, resolve, invoke, builtin, hx.nilmap_inv, e]
        · rename_i id heq
          cases ht : ts[0]? with
          | none => rw [ht] at hs; exact hs.elim
          | some t =>
            rw [ht] at hs
            simp only [onSome] at hs
            cases hmt : mapTy P t with
            | none => rw [hmt] at hs; exact hs.elim
            | some ke =>
              rw [hmt] at hs
              have h1 : args.size = 1 := by
                cases hg : h.get id with
                | free => simp [onMap, hg] at hs
                | dead => simp [onMap, hg] at hs
                | live b =>
                  cases b with
                  | cells _ _ => simp [onMap, hg] at hs
                  | iter _ _ _ _ _ => simp [onMap, hg] at hs
                  | loop _ _ => simp [onMap, hg] at hs
                  | map es cl o => simp only [onMap, hg] at hs; exact hs.1
              obtain ⟨y, rfl⟩ := one_arg h1
              have hx := arg (x := y) (by simp [Op.operands, Call.operands])
              have hg0 : (#[y] : Array Operand).getD 0 (.tmp 0) = y := rfl
              rw [hg0] at heq
              rw [heq] at hx
              obtain ⟨v, g1, g2, g3⟩ := lenM_sound (ty := ty) (K := fun v => (#[y] : Array Operand).size = 1 ∧ put K r d v h) hC hx ht hmt hs
              refine ⟨v, v, fun W' hW => ?_, g2, g3.2⟩
              have e := g1 W' fun c hc => hW id c (by simp only [accOf]; rw [hg0, heq]) hc
              simp [execOp, resolve, invoke, builtin, e]
        · rename_i heq0 heq1
          cases hl : lenv P ts[0]? (ev r (args.getD 0 (.tmp 0))) with
          | none => rw [hl] at hs; exact hs.elim
          | some v =>
            rw [hl] at hs
            obtain ⟨h1, hK⟩ := hs
            obtain ⟨y, rfl⟩ := one_arg h1
            have hx := arg (x := y) (by simp [Op.operands, Call.operands])
            simp only [show (#[y] : Array Operand).getD 0 (.tmp 0) = y from rfl] at hl
            unfold lenv at hl
            cases ht : ts[0]? with
            | none => simp [ht] at hl
            | some t =>
              simp only [ht] at hl
              split at hl
              · rename_i A m st heq
                split at hl
                · rename_i hsl
                  cases hl
                  obtain ⟨e, hu⟩ := isSl_inv hsl
                  have hlen : ∃ A' cap, a.eval y = .slice A' m cap := by
                    rw [heq] at hx
                    cases A with
                    | none => obtain ⟨rfl, _, e⟩ := hx.nilslice_inv; exact ⟨_, _, e⟩
                    | some A => rcases hx.slice_inv with ⟨c, cap, _, _, e, _⟩ | ⟨rfl, c, a', _, e⟩ <;> exact ⟨_, _, e⟩
                  obtain ⟨A', cap, e1⟩ := hlen
                  refine ⟨_, _, fun W' _ => ?_, .same _ rfl, hK⟩
                  simp [execOp, resolve, invoke, builtin, Builtin.len_, ht, e1, run_und hu, goInt]
                · cases hl
              · rename_i s heq
                split at hl
                · rename_i hsl
                  cases hl
                  have hu := isStr_inv hsl
                  rw [heq] at hx
                  refine ⟨_, _, fun W' _ => ?_, .same _ rfl, hK⟩
                  simp [execOp, resolve, invoke, builtin, Builtin.len_, ht, hx.string_inv, run_und hu, goInt]
                · cases hl
              · cases hl
      | cap =>
        simp only [step] at hs
        cases hl : capV P ts[0]? (ev r (args.getD 0 (.tmp 0))) with
        | none => rw [hl] at hs; exact hs.elim
        | some v =>
          rw [hl] at hs
          obtain ⟨h1, hK⟩ := hs
          obtain ⟨y, rfl⟩ := one_arg h1
          have hx := arg (x := y) (by simp [Op.operands, Call.operands])
          rw [show (#[y] : Array Operand).getD 0 (.tmp 0) = y from rfl] at hl
          unfold capV at hl
          split at hl
          · rename_i t heq ht
            split at hl
            · rename_i hsl
              cases hl
              obtain ⟨e, hu⟩ := isSl_inv hsl
              rw [heq] at hx
              obtain ⟨rfl, _, e1⟩ := hx.nilslice_inv
              refine ⟨_, _, fun W' _ => ?_, .same _ rfl, hK⟩
              simp [execOp, resolve, invoke, builtin, Builtin.cap_, ht, e1, run_und hu, goInt]
            · cases hl
          · cases hl
      | min =>
        simp only [step] at hs
        cases hl : minmax false (args.toList.map (ev r)) with
        | none => rw [hl] at hs; exact hs.elim
        | some v =>
          rw [hl] at hs
          obtain ⟨k, k', x, y, e1, rfl⟩ := minmax_inv hl
          obtain ⟨p, q, rfl, hp, hq⟩ := two_args e1
          have h1 := arg (x := p) (by simp [Op.operands, Call.operands])
          have h2 := arg (x := q) (by simp [Op.operands, Call.operands])
          rw [hp] at h1; rw [hq] at h2
          refine ⟨_, _, fun W' _ => ?_, .same _ rfl, hs⟩
          have e := run_min_int2 (P := P) W' ts ty k k' x y
          simp [execOp, resolve, invoke, builtin, h1.int_inv, h2.int_inv, e]
      | max =>
        simp only [step] at hs
        cases hl : minmax true (args.toList.map (ev r)) with
        | none => rw [hl] at hs; exact hs.elim
        | some v =>
          rw [hl] at hs
          obtain ⟨k, k', x, y, e1, rfl⟩ := minmax_inv hl
          obtain ⟨p, q, rfl, hp, hq⟩ := two_args e1
          have h1 := arg (x := p) (by simp [Op.operands, Call.operands])
          have h2 := arg (x := q) (by simp [Op.operands, Call.operands])
          rw [hp] at h1; rw [hq] at h2
          refine ⟨_, _, fun W' _ => ?_, .same _ rfl, hs⟩
          have e := run_max_int2 (P := P) W' ts ty k k' x y
          simp [execOp, resolve, invoke, builtin, h1.int_inv, h2.int_inv, e]
      | _ => cases hk
    | _ => cases hk
  | _ => cases hk
theorem rl_quiet {K : Kt} (hC : Conc ρ h W) (hr : RRel n lo W ρ r a) (ho : okOper n o = true) (hk : rlOp P o = true) (hs : step P o K r h) :
    ∃ v v', (∀ W', Bel W.heap.size W W' → (execOp a.eval o).run P W' = .ok (.value v') W') ∧ VRel ρ v v' ∧ K (upd r o.dst v) h := by
  obtain ⟨v, v', h1, h2, h3⟩ := rl_held hC hr ho hk hs
  exact ⟨v, v', fun W' hb => h1 W' (fun id c _ hc => hb.1.block _ (hC.lt _ _ hc)), h2, h3⟩
end
end Ph
