import Derived.Test.YtcbgjjbbeeoekaaDoorPhStr
set_option linter.unusedVariables false
namespace Ph
open Go Go.RowKit
/-! ## Loops that go over a function: rounds; the loop itself -/
def setP : Regs → List Nat → List Value → Regs
  | r, t :: ts, v :: vs => setP (upd r (some t) v) ts vs
  | r, _, _ => r
def LoopS.with (L : LoopS) (st : LoopState) (p : Option Code) : LoopS := ⟨st, p, L.regs, L.n, L.params, L.assign, L.body⟩
def loopB (L : LoopS) : Slot := .live (.loop L .own)
/-- what is asked at a round's end -/
def roundQ (id : Nat) (L : LoopS) (K : Value → Heap → Prop) : Qt := fun e _ h => h.get id = loopB (L.with .busy none) ∧
  match e with
  | .normal => K (.bool true) (h.put id (loopB (L.with .ready none)))
  | .ret => K (.bool false) (h.put id (loopB (L.with .done (some .ret))))
  | .exit i => K (.bool false) (h.put id (loopB (L.with .done (some (.exit i)))))
section
variable {P : Program} {n lo lim : Nat} {ρ : Ren} {r : Regs} {a : Act} {h : Heap} {W : World}
theorem setP_rel : ∀ (ts : List Nat) (vs vs' : List Value) (r : Regs) (tmps : Array Value), (∀ t ∈ ts, t < n) → tmps.size = n → (∀ t, VRel ρ (r t) (tmps.getD t undef)) → vs.length = vs'.length → (∀ (i : Nat) (x y : Value), vs[i]? = some x → vs'[i]? = some y → VRel ρ x y) →
    ((ts.zip vs').foldl (fun (tm : Array Value) (p : Nat × Value) => tm.setIfInBounds p.1 p.2) tmps).size = n ∧ ∀ t, VRel ρ (setP r ts vs t) (((ts.zip vs').foldl (fun (tm : Array Value) (p : Nat × Value) => tm.setIfInBounds p.1 p.2) tmps).getD t undef)
  | [], vs, vs', r, tmps, _, hs, hr, _, _ => by
    cases vs <;> exact ⟨hs, hr⟩
  | t :: ts, [], [], r, tmps, _, hs, hr, _, _ => ⟨hs, hr⟩
  | t :: ts, [], v' :: vs', r, tmps, _, _, _, hl, _ => by simp at hl
  | t :: ts, v :: vs, [], r, tmps, _, _, _, hl, _ => by simp at hl
  | t :: ts, v :: vs, v' :: vs', r, tmps, ht, hs, hr, hl, hv => by
    simp only [List.zip_cons_cons, List.foldl_cons]
    have htn := ht t (List.mem_cons_self ..)
    refine setP_rel ts vs vs' (upd r (some t) v) (tmps.setIfInBounds t v') (fun x hx => ht x (List.mem_cons_of_mem _ hx)) (by simpa using hs) (fun k => ?_) (by simpa using hl) (fun i x y hx hy => hv (i + 1) x y (by simpa using hx) (by simpa using hy))
    simp only [upd]
    by_cases e : k = t
    · subst e
      rw [if_pos rfl, Array.getD_eq_getD_getElem?, Array.getElem?_setIfInBounds_self_of_lt (by omega)]
      exact hv 0 v v' rfl rfl
    · rw [if_neg e, Array.getD_eq_getD_getElem?, Array.getElem?_setIfInBounds_ne (fun h => e h.symm), ← Array.getD_eq_getD_getElem?]
      exact hr k
/-- the loop's record is turned -/
theorem Conc.turnLoop {id : Nat} {c : CB} {L L' : LoopS} (hC : Conc ρ h W) (hc : ρ id = some c) (hL : h.get id = loopB L) {rec rec' : Go.Loop} (hw : W.heap[c.blk]? = some (.loop rec)) (hb : BlkAt ρ (W.putObj c.blk (.loop rec')) c (.loop L' .own)) (lim : Nat) :
    Conc ρ (h.put id (loopB L')) (W.putObj c.blk (.loop rec')) ∧ Frame lim ρ h W ρ (h.put id (loopB L')) (W.putObj c.blk (.loop rec')) :=
  hC.turn id c hc ⟨_, hL, rfl⟩ _ (fun k hk => World.putObj_heap_other hk) World.putObj_size rfl rfl rfl (Nat.le_refl _) hb lim
theorem live_lt {id : Nat} {b : Blk} (hC : Conc ρ h W) (hb : h.get id = .live b) : id < h.next := by
  rcases Nat.lt_or_ge id h.next with h1 | h1
  · exact h1
  · rw [hC.next id h1] at hb; cases hb
/-- A round. -/
theorem yield_intro {id : Nat} {args : Array Value} {K : Value → Heap → Prop} (L : LoopS) (hL : h.get id = loopB L) (hst : L.st = .ready) (hp : L.pend = none) (hsz : args.size = L.params.size)
    (hn : noRF L.assign = true ∧ noRF L.body = true) (ht : ∀ t ∈ L.params.toList, t < L.n)
    (hv : CodeH P L.n L.assign (fun e r1 h1 => match e with | .normal => h1.get id = loopB L ∧ CodeH P L.n L.body (roundQ id L K) r1 (h1.put id (loopB (L.with .busy none))) | _ => False) (setP L.regs L.params.toList args.toList) h) : @YieldH P id args h ⟨K⟩ := by
  intro ρ W args' c hC ha hc
  obtain ⟨rec, w1, w2, w3, w4, w5, w6, w7, w8⟩ := hC.at_ id c _ hc hL
  have hsz' : args'.size = rec.params.size := by rw [w4, ← hsz]; exact ha.1.symm
  refine ⟨_, _, _, _, run_yield w1 hsz', roundIn_of_wpIn (F := wr none) trivial ?_⟩
  have hr : RRel L.n W.heap.size W ρ (setP L.regs L.params.toList args.toList) { tmps := (rec.params.zip args').foldl (fun tmps (p : Nat × Value) => tmps.setIfInBounds p.1 p.2) rec.tmps, defers := [] } := by
    have hs := setP_rel (ρ := ρ) L.params.toList args.toList args'.toList L.regs rec.tmps ht w7 w8 (by simpa using ha.1) (fun i x y hx hy => ha.2 i x y (by simpa using hx) (by simpa using hy))
    have e : (rec.params.zip args').foldl (fun tmps (p : Nat × Value) => tmps.setIfInBounds p.1 p.2) rec.tmps = (L.params.toList.zip args'.toList).foldl (fun (tm : Array Value) (p : Nat × Value) => tm.setIfInBounds p.1 p.2) rec.tmps := by
      rw [← w4, ← Array.foldl_toList, Array.toList_zip]
    rw [e]
    exact ⟨⟨List.nodup_nil, fun d hd => by cases hd⟩, hs.1, hs.2⟩
  have h0 := hv (some c.blk) W.heap.size ρ W _ (.inr hn.1) (Nat.le_refl _) hC hr
  rw [w5]
  refine wpIn_mono h0 fun e a1 W1 hq => ?_
  obtain ⟨x, hx, ρ1, r1, h1, c1, c2, c3, c4⟩ := hq
  cases e with
  | normal =>
    cases x <;> first | exact hx.elim | skip
    obtain ⟨hL1, hbody⟩ := c4
    have hidn := live_lt hC hL
    have hc1 : ρ1 id = some c := by rw [c3.ren id hidn]; exact hc
    obtain ⟨rec1, v1, v2, v3, v4, v5, v6, v7, v8⟩ := c1.at_ id c _ hc1 hL1
    refine ⟨_, run_beginRound v1 (by rw [v2, hst]), ?_⟩
    have hlt1 : c.blk < W1.heap.size := (Array.getElem?_eq_some_iff.1 v1).1
    obtain ⟨d1, d2⟩ := c1.turnLoop (L' := L.with .busy none) hc1 hL1 v1 (rec' := { rec1 with state := .busy }) ⟨_, World.putObj_heap_same hlt1, rfl, by rw [v3, hp]; rfl, v4, v5, v6, v7, v8⟩ h1.next
    have hb := hbody (some c.blk) W.heap.size ρ1 _ a1 (.inr hn.2) (Nat.le_trans c3.size d2.size) d1 (c2.world c1 d2)
    rw [w6]
    have hF2 := c3.trans (d2.mono c3.nx)
    refine wpIn_mono hb fun e2 a3 W3 hq3 => ?_
    obtain ⟨x3, hx3, ρ3, r3, h3, g1, g2, g3, g4, g5⟩ := hq3
    have hid1 : id < h1.next := live_lt c1 hL1
    have hc3 : ρ3 id = some c := by rw [g3.ren id hid1]; exact hc1
    obtain ⟨rec3, u1, u2, u3, u4, u5, u6, u7, u8⟩ := g1.at_ id c _ hc3 g4
    have hlt3 : c.blk < W3.heap.size := (Array.getElem?_eq_some_iff.1 u1).1
    have fin : ∀ (jump : Option Code) (hK : K (.bool jump.isNone) (h3.put id (loopB (L.with (if jump.isNone then .ready else .done) jump)))),
        ∃ v w', (Instr.endRound c.blk jump).run P W3 = .ok v w' ∧ Post ρ h W K (.returned v) w' := fun jump hK => by
      obtain ⟨f1, f2⟩ := g1.turnLoop (L' := L.with (if jump.isNone then .ready else .done) jump) hc3 g4 u1 (rec' := { rec3 with state := if jump.isNone then .ready else .done, pending := jump }) ⟨_, World.putObj_heap_same hlt3, rfl, rfl, u4, u5, u6, u7, u8⟩ h3.next
      exact ⟨_, _, run_endRound jump u1, ρ3, _, _, _, rfl, .same _ rfl, f1, (hF2.trans (g3.mono c3.nx)).trans (f2.mono (Nat.le_trans c3.nx g3.nx)), hK⟩
    cases e2 with
    | normal => cases x3 <;> first | exact hx3.elim | exact fin none g5
    | ret => cases x3 <;> first | exact hx3.elim | exact fin (some .ret) g5
    | exit i =>
      cases x3 with
      | exit j => cases hx3; exact fin (some (.exit i)) g5
      | _ => exact hx3.elim
    | goto l => cases x3 <;> exact hx3.elim
    | panic ch => cases x3 <;> exact hx3.elim
    | outgrown => cases x3 <;> exact hx3.elim
  | exit i => cases x <;> first | exact hx.elim | exact c4.elim
  | ret => cases x <;> first | exact hx.elim | exact c4.elim
  | goto l => cases x <;> exact hx.elim
  | panic ch => cases x <;> exact hx.elim
  | outgrown => cases x <;> exact hx.elim
theorem good_run {f : FuncId} (hg : goodFunc P f = true) (args : Array Value) : (callFunc f args).run P W = .ok (.enter f args) W := by
  unfold goodFunc at hg
  split at hg
  · rename_i fn hfn
    simp only [Bool.and_eq_true, Bool.not_eq_true', beq_eq_false_iff_ne, ne_eq] at hg
    have hb : fn.body.isNone = false := by cases hbb : fn.body <;> simp_all
    have hb2 : ¬ fn.body = none := fun hbn => by rw [hbn] at hb; cases hb
    simp [callFunc, hfn, hg.2, hb2]
  · cases hg
/-- what is asked when the function that was gone over has returned -/
def rangeQ (id : Nat) (r : Regs) (Q : Qt) (h : Heap) : Prop := ∃ L, h.get id = loopB L ∧ L.st ≠ .busy ∧
  match L.pend with
  | none => Q .normal r (h.put id (loopB (L.with .exhausted none)))
  | some .ret => Q .ret r (h.put id (loopB (L.with .exhausted (some .ret))))
  | some (.exit i) => Q (.exit i) r (h.put id (loopB (L.with .exhausted (some (.exit i)))))
  | _ => False
/-- The loop. -/
theorem rf_intro {g : Operand} {ps : Array Tmp} {assign body : Code} {Q : Qt} {f : FuncId} {first cap : Array Value} (hg : ev r g = .func (.func f) first cap) (hgood : goodFunc P f = true)
    (hc : ∀ n, okCode n assign = true → okCode n body = true → (noRF assign = true ∧ noRF body = true) → (∀ t ∈ ps.toList, t < n) →
      @CallsH P f (first ++ #[.func (.yield h.next) #[] #[]] ++ cap) (h.alloc (.loop ⟨.ready, none, r, n, ps, assign, body⟩ .own)) ⟨fun _ h' => rangeQ h.next r Q h'⟩) : @RF P g ps assign body r h ⟨Q⟩ := by
  intro n hok ro lo ρ W a hro hlo hC hr
  obtain rfl : ro = none := hro.resolve_right (by simp [noRF])
  simp only [okCode, Bool.and_eq_true] at hok
  obtain ⟨⟨⟨⟨⟨k1, k2⟩, k3⟩, k4⟩, k5⟩, k6⟩ := hok
  have hps : ∀ t ∈ ps.toList, t < n := fun t ht => by simpa using Array.all_eq_true'.1 k6 t (by simpa using ht)
  have hgv := eval_rel k1 hr
  rw [hg] at hgv
  obtain ⟨ys, vs, e1, q1, q2⟩ := hgv.func_inv
  refine wpIn_rangeFunc fun fn _ => ?_
  have hb1 : Below W.heap.size W (W.alloc (.deferred (some []))) := (Below.refl _ W).alloc (Nat.le_refl _) _
  have hC1 := hC.below hb1
  obtain ⟨rec, hrec⟩ : ∃ rec : Go.Loop, rec = { state := .ready, pending := none, fn, tmps := a.tmps, params := ps, assign, body, defers := W.heap.size } := ⟨_, rfl⟩
  have hfree := hC1.next h.next (Nat.le_refl _)
  have hnone := hC1.free _ hfree
  obtain ⟨hC2, hF2⟩ := hC1.new h.next hfree (.loop ⟨.ready, none, r, n, ps, assign, body⟩ .own) (.loop rec) 0 (h.next + 1) (by omega) (by omega) ⟨rec, World.alloc_heap_new (W.alloc (.deferred (some []))) (.loop rec), by rw [hrec], by rw [hrec], by rw [hrec], by rw [hrec], by rw [hrec], by rw [hrec]; exact hr.2.1, fun t => by
    rw [hrec]; exact (hr.2.2 t).mono (Ren.add_le hnone)⟩ h.next (Nat.le_refl _)
  have hsz1 : (W.alloc (.deferred (some []))).heap.size = W.heap.size + 1 := by simp
  rw [hsz1] at hC2 hF2
  have hF02 := (Frame.below (ρ := ρ) (h := h) (lim := h.next) ⟨hb1, Nat.le_refl _⟩).trans hF2
  obtain ⟨W2, hW2⟩ : ∃ W2, (W.alloc (.deferred (some []))).alloc (.loop rec) = W2 := ⟨_, rfl⟩
  have hCW2 : Conc (ρ.add h.next ⟨W.heap.size + 1, 0, 0⟩) (h.alloc (.loop ⟨.ready, none, r, n, ps, assign, body⟩ .own)) W2 := by rw [← hW2]; exact hC2
  have hFW2 : Frame h.next ρ h W (ρ.add h.next ⟨W.heap.size + 1, 0, 0⟩) (h.alloc (.loop ⟨.ready, none, r, n, ps, assign, body⟩ .own)) W2 := by rw [← hW2]; exact hF02
  have hdef : W2.heap[W.heap.size]? = some (Obj.deferred (some [])) := by
    rw [← hW2]; exact (Below.heap_alloc _ _ _ (by simp)).trans (World.alloc_heap_new W _)
  clear hC2 hF2 hF02
  have hmarks : Marks lo ({ target := .collected W.heap.size, args := #[] } :: a.defers) W2 := by
    have hold := (hr.1.frame hC hFW2)
    refine ⟨List.nodup_cons.2 ⟨fun hd => ?_, hold.1⟩, fun d hd => ?_⟩
    · obtain ⟨q, e, _, hw⟩ := hr.1.2 _ hd
      cases e
      have := (Array.getElem?_eq_some_iff.1 hw).1
      omega
    · rcases List.mem_cons.1 hd with rfl | hd
      · exact ⟨_, rfl, hlo, hdef⟩
      · exact hold.2 d hd
  refine ⟨W.heap.size + 1, [{ target := .collected W.heap.size, args := #[] }], W2, { target := .fn (.func f) vs, args := ys ++ #[.func (.yield (W.heap.size + 1)) #[] #[]] }, W2, f,
    ys ++ #[.func (.yield (W.heap.size + 1)) #[] #[]] ++ vs, W2, ?_, ?_, fun _ _ => trivial, ?_, (fun hh => by cases hh), ?_⟩
  · rw [← hW2, hrec]; exact run_enterLoop_outer _ _ _ _ _
  · simp only [resolve, e1]
    simp [go_sem]
  · simp only [invoke]; exact good_run hgood _
  · refine callsIn_wr ?_
    have hy : ARel (ρ.add h.next ⟨W.heap.size + 1, 0, 0⟩) #[.func (.yield h.next) #[] #[]] #[.func (.yield (W.heap.size + 1)) #[] #[]] := ⟨rfl, fun i x y hx hy => by
      cases i with
      | zero => simp at hx hy; subst hx; subst hy; exact .yld _ ⟨W.heap.size + 1, 0, 0⟩ (add_self _ _ _)
      | succ i => simp at hx⟩
    have hcall := hc n k2 k3 ⟨k4, k5⟩ hps _ W2 _ hCW2 (((q1.mono (Ren.add_le hnone)).append hy).append (q2.mono (Ren.add_le hnone)))
    refine hcall.mono ?_
    rintro e w3 ⟨ρ3, h3, v, v', rfl, p1, p2, p3, L, p4, p5, p6⟩
    have hc3 : ρ3 h.next = some ⟨W.heap.size + 1, 0, 0⟩ := by rw [p3.ren h.next (by simp [Heap.alloc])]; exact add_self _ _ _
    obtain ⟨rec3, u1, u2, u3, u4, u5, u6, u7, u8⟩ := p2.at_ _ _ _ hc3 p4
    have hlt3 : W.heap.size + 1 < w3.heap.size := (Array.getElem?_eq_some_iff.1 u1).1
    obtain ⟨f1, f2⟩ := p2.turnLoop (L' := L.with .exhausted L.pend) hc3 p4 u1 (rec' := { rec3 with state := .exhausted }) ⟨_, World.putObj_heap_same hlt3, rfl, u3, u4, u5, u6, u7, u8⟩ h3.next
    refine ⟨rec3.pending, _, run_endLoop u1 (by rw [u2]; exact p5), ?_⟩
    generalize w3.putObj (W.heap.size + 1) (.loop { rec3 with state := .exhausted }) = W4 at f1 f2 ⊢
    have hF3 : Frame h.next ρ h W ρ3 (h3.put h.next (loopB (L.with .exhausted L.pend))) W4 :=
      (hFW2.trans (p3.mono (by simp [Heap.alloc]))).trans (f2.mono (Nat.le_trans hFW2.nx p3.nx))
    have hm3 := (hmarks.frame hCW2 p3).frame p2 f2
    have hr3 : RRel n lo W4 ρ3 r { a with defers := [{ target := .collected W.heap.size, args := #[] }] ++ a.defers } := ⟨hm3, hr.2.1, fun t => (hr.2.2 t).mono fun id c hidc => by
      rw [hF3.ren id (by
        rcases Nat.lt_or_ge id h.next with h1 | h1
        · exact h1
        · rw [hC.free id (hC.next id h1)] at hidc; cases hidc)]; exact hidc⟩
    rw [u3]
    cases hp : L.pend with
    | none =>
      rw [hp] at p6 f1 hF3
      exact ⟨.normal, trivial, ρ3, r, _, f1, hr3, hF3, p6⟩
    | some c =>
      rw [hp] at p6 f1 hF3
      cases c with
      | ret => exact wpIn_ret ⟨.ret, trivial, ρ3, r, _, f1, hr3, hF3, p6⟩
      | exit i => exact wpIn_exit ⟨.exit i, rfl, ρ3, r, _, f1, hr3, hF3, p6⟩
      | _ => exact p6.elim
theorem YieldH.mono {id : Nat} {args : Array Value} {K K' : Value → Heap → Prop} (hc : @YieldH P id args h ⟨K⟩) (hk : ∀ v h', K v h' → K' v h') : @YieldH P id args h ⟨K'⟩ := fun ρ W args' c hC ha hid => by
  obtain ⟨f, tmps, assign, body, h1, h2⟩ := hc ρ W args' c hC ha hid
  exact ⟨f, tmps, assign, body, h1, h2.mono fun e w' ⟨ρ', h', v, v', p1, p2, p3, p4, p5⟩ => ⟨ρ', h', v, v', p1, p2, p3, p4, hk v h' p5⟩⟩
/-- what the temporaries were need not be told on -/
theorem RF.gen {g : Operand} {ps : Array Tmp} {assign body : Code} {Q : Qt} (X : Regs → Prop) (h0 : X r) (H : ∀ r, X r → @RF P g ps assign body r h ⟨Q⟩) : @RF P g ps assign body r h ⟨Q⟩ := H r h0
theorem CodeH.gen {c : Code} {Q : Qt} (X : Regs → Heap → Prop) (h0 : X r h) (H : ∀ r h, X r h → CodeH P n c Q r h) : CodeH P n c Q r h := H r h h0
end
end Ph
