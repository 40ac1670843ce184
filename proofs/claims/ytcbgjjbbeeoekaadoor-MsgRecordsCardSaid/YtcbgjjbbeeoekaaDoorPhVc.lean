import Derived.Test.YtcbgjjbbeeoekaaDoorPhSound7
set_option linter.unusedVariables false
namespace Ph
open Go Go.RowKit
section
variable {P : Program} {n lo : Nat} {W : World}
/-! ## In a round, or not -/
theorem callsIn_wr {ro : Option Nat} {k : Nat} {f : FuncId} {args : Array Value} {W : World} {R : Ending → World → Prop} (h : Calls P f args W R) : CallsIn (wr ro) k P f args W R := (callsIn_wide (n := k)).2 h
theorem rowsIn_wr {ro : Option Nat} {k : Nat} {row : String} {args : Array Value} {W : World} {R : Value → World → Prop} (h : Rows P row args W R) : RowsIn (wr ro) k P row args W R :=
  fun c cs _ => let ⟨v, w', r, s⟩ := h c cs; ⟨v, w', r, (stepsIn_wide (P := P)).2 s⟩
theorem wpIn_of_wp {ro : Option Nat} {o : Oper} {a : Act} {W : World} {next : Act → World → Prop} {Q : Exit → Act → World → Prop} (hd : ∀ c, o.op ≠ .defer c) (h : o.wp P a W next Q) : o.wpIn (wr ro) 0 P a W next Q := by
  refine ⟨fun _ _ => trivial, ?_⟩
  rw [Oper.semAt_eq _ _ _ hd]
  unfold Oper.wp at h
  cases hr : (execOp a.eval o).run P W with
  | ok x w' =>
    rw [hr] at h
    cases x with
    | enter f args => exact ⟨(fun hh => by cases hh), callsIn_wr h⟩
    | row row args => exact ⟨(fun hh => by cases hh), rowsIn_wr h⟩
    | value v => exact h
    | skip => exact h
    | defer d => exact h
    | _ => exact h.elim
  | halt x w' =>
    rw [hr] at h
    cases x <;> first | exact h | exact h.elim
theorem wpOpIn_of_wp {ro : Option Nat} {ops : Array Oper} {i : Nat} {K : Act → World → Prop} {Q : Exit → Act → World → Prop} {a : Act} {W : World} (hd : ∀ o ∈ ops, ∀ c, o.op ≠ .defer c) (hL : ¬ LetsOut Q) (h : wpOp P ops Q i K a W) : wpOpIn (wr ro) 0 P ops Q i K a W := by
  unfold wpOp at h
  unfold wpOpIn
  cases ho : ops[i]? with
  | none => rw [ho] at h; exact h
  | some o =>
    rw [ho] at h
    simp only at h ⊢
    split at h
    · rename_i hw
      rw [if_pos hw]
      rcases h with h | h
      · exact wpIn_of_wp (hd o (Array.mem_of_getElem? ho)) h
      · exact absurd h.2 hL
    · rename_i hw
      rw [if_neg hw]
      exact ⟨fun _ _ => trivial, h⟩
theorem wpAnyIn_of_wp {ro : Option Nat} {md : Region.Mode} {ops : Array Oper} {Q : Exit → Act → World → Prop} (hd : ∀ o ∈ ops, ∀ c, o.op ≠ .defer c) (hL : ¬ LetsOut Q) : ∀ (fuel : Nat) (l : Array Bool) (a : Act) (W : World), wpAny P md ops Q fuel l a W → wpAnyIn (wr ro) 0 P md ops Q fuel l a W
  | 0, l, a, W, h => h
  | fuel + 1, l, a, W, h => ⟨h.1, fun i hi => wpOpIn_mono (fun a w h => wpAnyIn_of_wp hd hL fuel _ a w h) (wpOpIn_of_wp hd hL (h.2 i hi))⟩
theorem yielded_of {ρ : Ren} {r : Regs} {a : Act} (hr : RRel n lo W ρ r a) {ops : Array Oper} {j : Nat} {b : Bool} (h : rd r (gdst ops j) = .bool b) : yielded ops a.tmps j = some b ∧ upd r (gdst ops j) (.bool b) = r := by
  unfold gdst at *
  unfold yielded
  cases hd : (ops[j]?).bind (·.dst) with
  | none => rw [hd] at h; cases h
  | some d =>
    rw [hd] at h
    simp only [rd] at h
    have h1 := hr.2.2 d
    rw [h] at h1
    have h2 := h1.bool_inv
    rw [Array.getD_eq_getD_getElem?] at h2
    constructor
    · cases ht : a.tmps[d]? with
      | none => rw [ht] at h2; cases h2
      | some v => rw [ht] at h2; simp only [Option.getD_some] at h2; subst h2; simp [ht]
    · funext t
      simp only [upd]
      split
      · rename_i e; rw [e, h]
      · rfl
theorem gate_inv {v : Value} {want : Bool} {A B : Prop} (h : @gate v want ⟨A⟩ ⟨B⟩) : ∃ b, v = .bool b ∧ (if b = want then A else B) := by
  unfold gate at h
  split at h
  · exact ⟨_, rfl, h⟩
  · exact h.elim
theorem gate3_inv {v : Value} {want : Bool} {A : Prop} {B : Unit → Prop} {C : Nat → Prop} (h : @gate3 v want ⟨A⟩ ⟨B⟩ ⟨C⟩) : (∃ b, v = .bool b ∧ (if b = want then A else B ())) ∨ (v = undef ∧ C 0) := by
  unfold gate3 at h
  split at h
  · exact .inl ⟨_, rfl, h⟩
  · obtain ⟨rfl, h⟩ := h; exact .inr ⟨rfl, h⟩
  · exact h.elim
theorem yielded_undef {ρ : Ren} {r : Regs} {a : Act} (hr : RRel n lo W ρ r a) {ops : Array Oper} {j : Nat} (h : rd r (gdst ops j) = undef) : yielded ops a.tmps j = none := by
  unfold gdst at *
  unfold yielded
  cases hd : (ops[j]?).bind (·.dst) with
  | none => rfl
  | some d =>
    rw [hd] at h
    simp only [rd] at h
    have h1 := hr.2.2 d
    rw [h] at h1
    obtain ⟨ys, h2, h3⟩ := h1.tuple_inv
    rw [Array.getD_eq_getD_getElem?] at h2
    cases ht : a.tmps[d]? with
    | none => simp [ht]
    | some v => rw [ht] at h2; simp only [Option.getD_some] at h2; subst h2; simp [ht]
theorem lq_out {n lo lim : Nat} {ρ : Ren} {h : Heap} {W : World} {Q : Qt} : ¬ LetsOut (Lq n lo lim ρ h W Q) := fun ⟨_, _, x, hx, _⟩ => by cases x <;> exact hx
theorem stepY_sound {ro : Option Nat} {ρ : Ren} {r : Regs} {a : Act} {h : Heap} {o : Oper} {K : Kt} (hC : Conc ρ h W) (hr : RRel n lo W ρ r a) (ho : okOper n o = true) (hs : stepY P o K r h) (Q : Exit → Act → World → Prop) : o.wpIn (wr ro) 0 P a W (Lf n lo h.next ρ h W K) Q := by
  have hstep : step P o K r h → o.wpIn (wr ro) 0 P a W (Lf n lo h.next ρ h W K) Q := fun hs => wpIn_of_wp (okOper_defer ho) (step_sound hC hr ho hs Q)
  unfold stepY at hs
  split at hs
  · rename_i d t args ts ty pos af g
    cases hv : r t with
    | func fn first cap =>
      rw [hv] at hs
      cases fn with
      | func k =>
        refine hstep ?_
        show @onFunc (r t) ⟨fun f first cap => @also (goodFunc P f = true) ⟨@CallsH P f (first ++ args.map (ev r) ++ cap) h ⟨fun v h' => put K r d v h'⟩⟩⟩
        rw [hv]; exact hs
      | yield id =>
        have hY : @YieldH P id (args.map (ev r)) h ⟨fun v h' => put K r d v h'⟩ := hs
        have hf := hr.2.2 t
        rw [hv] at hf
        obtain ⟨c, hc, rfl, rfl, he⟩ := hf.yld_inv
        have ra := args_rel (ρ := ρ) (r := r) (a := a) (n := n) (xs := args) (fun y hy => okOper_arg (o := ⟨d, .call ⟨.value (.tmp t), args, ts⟩, ty, pos, af, g⟩) ho (by simp [Op.operands, Call.operands, hy])) hr
        obtain ⟨f, tmps, assign, body, h1, h2⟩ := hY ρ W _ c hC ra hc
        refine ⟨fun _ _ => trivial, ?_⟩
        rw [Oper.semAt_eq _ _ _ (okOper_defer ho)]
        have hrun : (execOp a.eval ⟨d, .call ⟨.value (.tmp t), args, ts⟩, ty, pos, af, g⟩).run P W = .ok (.round c.blk f tmps assign body) W := by
          have e : a.eval (.tmp t) = .func (.yield c.blk) #[] #[] := he
          simp [execOp, resolve, e, Deferred.ofValue, invoke, h1]
        rw [hrun]
        refine ⟨(fun hh => by cases hh), RoundIn.mono (F := wr ro) h2 ?_⟩
        rintro e w' ⟨ρ', h', v, v', rfl, p1, p2, p3, p4⟩
        refine ⟨ρ', _, h', p2, ((hr.world hC p3).mono fun id c hc => ?_).put p1 (okOper_dst ho), p3, p4⟩
        rw [p3.ren id ?_]; exact hc
        rcases Nat.lt_or_ge id h.next with hlt | hge
        · exact hlt
        · rw [hC.free id (hC.next id hge)] at hc; cases hc
      | _ => exact hs.elim
    | _ => rw [hv] at hs; exact hs.elim
  · exact hstep hs
theorem vcOps_sound {ro : Option Nat} {lim : Nat} {ρ0 : Ren} {h0 : Heap} {W0 : World} {ops : Array Oper} {K : Kt} {Qc : Exit → Act → World → Prop} (hQ : ∀ a' W', Lf n lo lim ρ0 h0 W0 K a' W' → Qc .normal a' W') :
    ∀ (l : List Oper), (∀ o ∈ l, okOper n o = true) → ∀ (r : Regs) (h : Heap) (ρ : Ren) (W : World) (a : Act), vcOps P ops l K r h → Conc ρ h W → RRel n lo W ρ r a → Frame lim ρ0 h0 W0 ρ h W → lim ≤ h.next → wpListIn (wr ro) 0 P ops Qc l a W
  | [], _, r, h, ρ, W, a, hv, hC, hr, hF, hl => hQ _ _ ⟨ρ, r, h, hC, hr, hF, hv⟩
  | o :: rest, hok, r, h, ρ, W, a, hv, hC, hr, hF, hl => by
    have ih := vcOps_sound (ro := ro) (ops := ops) hQ rest (fun x hx => hok x (List.mem_cons_of_mem _ hx))
    have hoo := hok o (List.mem_cons_self ..)
    have hstep : stepY P o (vcOps P ops rest K) r h → o.wpIn (wr ro) 0 P a W (wpListIn (wr ro) 0 P ops Qc rest) Qc := fun hs => by
      have := stepY_sound (ro := ro) hC hr hoo hs Qc
      refine Oper.wpIn_mono (fun a' W' hL => ?_) this
      obtain ⟨ρ', r', h', c1, c2, c3, c4⟩ := hL
      exact ih r' h' ρ' W' a' c4 c1 c2 (hF.trans (c3.mono hl)) (Nat.le_trans hl c3.nx)
    unfold wpListIn
    cases hg : o.guard with
    | none =>
      rw [if_pos (by simp [Region.wanted, hg])]
      simp only [vcOps, hg] at hv
      exact hstep hv
    | some p =>
      obtain ⟨j, want⟩ := p
      simp only [vcOps, hg] at hv
      rcases gate3_inv hv with ⟨b, hb, hv⟩ | ⟨hu, hv⟩
      case inr =>
        rw [if_neg (by simp [Region.wanted, hg, yielded_undef hr hu])]
        exact ⟨fun _ _ => trivial, ih _ h ρ W _ hv hC (hr.put undef_rel (okOper_dst hoo)) hF hl⟩
      obtain ⟨hy, hu⟩ := yielded_of hr hb
      by_cases e : b = want
      · subst e
        rw [if_pos rfl] at hv
        rw [if_pos (by simp [Region.wanted, hg, hy])]
        rw [hu] at hv
        exact hstep hv
      · rw [if_neg e] at hv
        rw [if_neg (by simp [Region.wanted, hg, hy, e])]
        have e2 : (!want) = b := by cases b <;> cases want <;> simp at e ⊢
        rw [e2, hu] at hv
        exact ⟨fun _ _ => trivial, ih _ h ρ W _ hv hC (hr.put undef_rel (okOper_dst hoo)) hF hl⟩
theorem vcQ_sound {ρ : Ren} {h : Heap} {W : World} (hC : Conc ρ h W) {ops : Array Oper} {K : Kt} {Qa : Act → Prop} (hQ : ∀ r a', RRel n lo W ρ r a' → K r h → Qa a') :
    ∀ (l : List Oper), (∀ o ∈ l, okOper n o = true) → ∀ (r : Regs) (a : Act), vcQ P ops l K r h → RRel n lo W ρ r a → wpQuiet P ops (Bel W.heap.size W) Qa l a
  | [], _, r, a, hv, hr => hQ _ _ hr hv
  | o :: rest, hok, r, a, hv, hr => by
    have ih := vcQ_sound hC (ops := ops) hQ rest (fun x hx => hok x (List.mem_cons_of_mem _ hx))
    have hoo := hok o (List.mem_cons_self ..)
    have hstep : stepQ P o (vcQ P ops rest K) r h → o.quiet P a (Bel W.heap.size W) (wpQuiet P ops (Bel W.heap.size W) Qa rest) := fun hs => by
      unfold stepQ at hs
      split at hs
      · rename_i d f args ts ty pos af g
        have arg := fun {x : Operand} (hx : x ∈ (Op.call ⟨.value f, args, ts⟩).operands) => eval_rel (okOper_arg (o := ⟨d, .call ⟨.value f, args, ts⟩, ty, pos, af, g⟩) hoo hx) hr
        have hf := arg (x := f) (by simp [Op.operands, Call.operands])
        cases hv : ev r f with
        | func fn first cap =>
          rw [hv] at hs hf
          cases fn with
          | func k =>
            obtain ⟨hg, v, hp, hc, hK⟩ := hs
            obtain ⟨ys, vs, e1, r1, r2⟩ := hf.func_inv
            have ra := args_rel (ρ := ρ) (r := r) (a := a) (n := n) (xs := args) (fun y hy => okOper_arg (o := ⟨d, .call ⟨.value f, args, ts⟩, ty, pos, af, g⟩) hoo (by simp [Op.operands, Call.operands, hy])) hr
            refine ⟨v, fun W' hb => ?_, ih _ _ hK (hr.put (.same _ hp) (okOper_dst hoo))⟩
            have hcall := hc ρ W' _ (hC.below hb.1).ro ((r1.append ra).append r2)
            unfold goodFunc at hg
            split at hg
            · rename_i fn hfn
              simp only [Bool.and_eq_true, Bool.not_eq_true', beq_eq_false_iff_ne, ne_eq] at hg
              have hrun : (execOp a.eval ⟨d, .call ⟨.value f, args, ts⟩, ty, pos, af, g⟩).run P W' = .ok (.enter k (ys ++ args.map a.eval ++ vs)) W' := by
                have hb : fn.body.isNone = false := by cases hbb : fn.body <;> simp_all
                have hb2 : ¬ fn.body = none := fun hbn => by rw [hbn] at hb; cases hb
                simp [execOp, resolve, e1, Deferred.ofValue, invoke, callFunc, hfn, hg.2, hb2]
              unfold Oper.quietAt
              rw [hrun]
              refine ⟨rfl, hcall.mono fun e w' hp' => ?_⟩
              obtain ⟨ρ', h', u, u', rfl, p1, p2, p3, rfl⟩ := hp'
              exact ⟨by rw [p1.plain_eq hp], hb.trans (p3.to_below.mono hb.1.size)⟩
            · cases hg
          | _ => exact hs.elim
        | _ => rw [hv] at hs; exact hs.elim
      · split at hs
        · rename_i hk
          obtain ⟨v, v', h1, h2, h3⟩ := rl_quiet hC hr hoo hk hs
          refine ⟨v', fun W' hb => ?_, ih _ _ h3 (hr.put h2 (okOper_dst hoo))⟩
          unfold Oper.quietAt
          rw [h1 W' hb]
          exact ⟨rfl, rfl⟩
        · exact hs.elim
    unfold wpQuiet
    cases hg : o.guard with
    | none =>
      rw [if_pos (by simp [Region.wanted, hg])]
      simp only [vcQ, hg] at hv
      exact hstep hv
    | some p =>
      obtain ⟨j, want⟩ := p
      simp only [vcQ, hg] at hv
      rcases gate3_inv hv with ⟨b, hb, hv⟩ | ⟨hu, hv⟩
      case inr =>
        rw [if_neg (by simp [Region.wanted, hg, yielded_undef hr hu])]
        exact ih _ _ hv (hr.put undef_rel (okOper_dst hoo))
      obtain ⟨hy, hu⟩ := yielded_of hr hb
      by_cases e : b = want
      · subst e
        rw [if_pos rfl] at hv
        rw [if_pos (by simp [Region.wanted, hg, hy])]
        rw [hu] at hv
        exact hstep hv
      · rw [if_neg e] at hv
        rw [if_neg (by simp [Region.wanted, hg, hy, e])]
        have e2 : (!want) = b := by cases b <;> cases want <;> simp at e ⊢
        rw [e2, hu] at hv
        exact ih _ _ hv (hr.put undef_rel (okOper_dst hoo))
theorem Lq.weaken {lim lim' : Nat} {ρ0 ρ : Ren} {h0 h : Heap} {W0 W : World} {Q : Qt} {e : Exit} {a' : Act} {W' : World} (hF : Frame lim ρ0 h0 W0 ρ h W) (hl : lim ≤ lim') (hq : Lq n lo lim' ρ h W Q e a' W') : Lq n lo lim ρ0 h0 W0 Q e a' W' := by
  obtain ⟨x, hx, ρ', r', h', c1, c2, c3, c4⟩ := hq
  exact ⟨x, hx, ρ', r', h', c1, c2, hF.trans (c3.mono hl), c4⟩
theorem CodeH.seq' {x y : Code} {Q : Qt} {r : Regs} {h : Heap} (h1 : CodeH P n x (fun e r h => e.on Q (fun r h => CodeH P n y Q r h) r h) r h) : CodeH P n (.seq x y) Q r h := fun ro lo ρ W a hro hlo hC hr => by
  have hro1 : ro = none ∨ noRF x = true := hro.imp (fun h => h) (fun h => by simp only [noRF, Bool.and_eq_true] at h; exact h.1)
  have hro2 : ro = none ∨ noRF y = true := hro.imp (fun h => h) (fun h => by simp only [noRF, Bool.and_eq_true] at h; exact h.2)
  refine wpIn_seq (wpIn_mono (h1 ro lo ρ W a hro1 hlo hC hr) fun e a' W' hq => ?_)
  obtain ⟨ex, hx, ρ', r', h', c1, c2, c3, c4⟩ := hq
  cases e with
  | normal =>
    cases ex <;> first | exact hx.elim | skip
    exact wpIn_mono (c4 ro lo ρ' W' a' hro2 (Nat.le_trans hlo c3.size) c1 c2) fun e a2 W2 hq2 => hq2.weaken c3 c3.nx
  | exit i => cases ex <;> first | exact hx.elim | exact ⟨_, hx, ρ', r', h', c1, c2, c3, c4⟩
  | ret => cases ex <;> first | exact hx.elim | exact ⟨_, hx, ρ', r', h', c1, c2, c3, c4⟩
  | goto l => cases ex <;> exact hx.elim
  | panic ch => cases ex <;> exact hx.elim
  | outgrown => cases ex <;> exact hx.elim
theorem CodeH.mono {c : Code} {Q Q' : Qt} {r : Regs} {h : Heap} (hc : CodeH P n c Q r h) (hk : ∀ e r h, Q e r h → Q' e r h) : CodeH P n c Q' r h := fun ro lo ρ W a hro hlo hC hr =>
  wpIn_mono (hc ro lo ρ W a hro hlo hC hr) (fun e a' W' hq => by
    obtain ⟨x, hx, ρ', r', h', c1, c2, c3, c4⟩ := hq
    exact ⟨x, hx, ρ', r', h', c1, c2, c3, hk _ _ _ c4⟩)
theorem vc_sound {pl : List Nat} (hm : P.follows .mixedOrders = true) : ∀ (c : Code) (Q : Qt) (r : Regs) (h : Heap), okCode n c = true → vc P pl c Q r h → CodeH P n c Q r h
  | .skip, Q, r, h, _, hv => fun ro lo ρ W a hro hlo hC hr => wpIn_skip ⟨.normal, trivial, ρ, r, h, hC, hr, Frame.refl _ _ _ _, hv⟩
  | .label l, Q, r, h, _, hv => fun ro lo ρ W a hro hlo hC hr => wpIn_label ⟨.normal, trivial, ρ, r, h, hC, hr, Frame.refl _ _ _ _, hv⟩
  | .exit id, Q, r, h, _, hv => fun ro lo ρ W a hro hlo hC hr => wpIn_exit ⟨.exit id, rfl, ρ, r, h, hC, hr, Frame.refl _ _ _ _, hv⟩
  | .ret, Q, r, h, _, hv => fun ro lo ρ W a hro hlo hC hr => wpIn_ret ⟨.ret, trivial, ρ, r, h, hC, hr, Frame.refl _ _ _ _, hv⟩
  | .region id ops false, Q, r, h, hok, hv => fun ro lo ρ W a hro hlo hC hr => by
    simp only [okCode, Bool.and_eq_true] at hok
    refine wpIn_region_list (vcOps_sound (lim := h.next) (ρ0 := ρ) (h0 := h) (W0 := W) (K := Q .normal) (fun a' W' hL => ⟨.normal, trivial, hL⟩) ops.toList (fun o ho => Array.all_eq_true'.1 hok.1 o (by simpa using ho)) r h ρ W a hv hC hr (Frame.refl _ _ _ _) (Nat.le_refl _))
  | .region id ops true, Q, r, h, hok, hv => fun ro lo ρ W a hro hlo hC hr => by
    have hok' := hok
    simp only [okCode, Bool.and_eq_true] at hok
    simp only [vc] at hv
    split at hv
    · have hB : Region.lexB .any ops = true := by simpa using hok.2
      have hB' := hB
      simp only [Region.lexB, Bool.and_eq_true] at hB
      have hd : ∀ o ∈ ops, ∀ c, o.op ≠ .defer c := fun o ho => okOper_defer (Array.all_eq_true'.1 hok.1 o ho)
      refine wpIn_region_any hm (wpAnyIn_of_wp hd lq_out _ _ _ _ (wpAny_of_quiet (C := Bel W.heap.size W) (Q := fun a' => ∀ W', Bel W.heap.size W W' → Lq n lo h.next ρ h W Q .normal a' W') (fun _ w' hw' h => h w' hw') _ _ _ _ ⟨⟨rfl, rfl, rfl, Nat.le_refl _, fun _ _ => rfl⟩, Nat.le_succ _⟩ ?_))
      have hq := vcQ_sound hC (K := Q .normal) (Qa := fun a' => ∀ W', Bel W.heap.size W W' → Lq n lo h.next ρ h W Q .normal a' W') (fun r' a' hr' hK W' hb => ⟨.normal, trivial, ρ, r', h, hC.below hb.1, hr'.below hb.1, Frame.below hb, hK⟩) ops.toList (fun o ho => Array.all_eq_true'.1 hok.1 o (by simpa using ho)) r a hv hr
      have := wpAnyQ_lex (md := .any) hB.1 ops.toList 0 (Array.replicate ops.size false) a (by simp) (by simpa using hB.2) hq
      simpa using this
    · refine wpIn_mono (hv n id hok' ro lo ρ W a (.inr rfl) hlo hC hr) (fun e a' W' hq => ?_)
      obtain ⟨x, hx, ρ', r', h', c1, c2, c3, c4⟩ := hq
      cases x with
      | normal => exact ⟨.normal, hx, ρ', r', h', c1, c2, c3, c4⟩
      | exit i => exact c4.elim
      | ret => exact c4.elim
  | .seq x y, Q, r, h, hok, hv => by
    simp only [okCode, Bool.and_eq_true] at hok
    refine CodeH.seq' ((vc_sound hm x _ r h hok.1 hv).mono fun e r h hq => ?_)
    cases e with
    | normal => exact vc_sound hm y Q r h hok.2 hq
    | exit i => exact hq
    | ret => exact hq
  | .cond c x y, Q, r, h, hok, hv => fun ro lo ρ W a hro hlo hC hr => by
    simp only [okCode, Bool.and_eq_true] at hok
    have hro1 : ro = none ∨ noRF x = true := hro.imp (fun h => h) (fun h => by simp only [noRF, Bool.and_eq_true] at h; exact h.1)
    have hro2 : ro = none ∨ noRF y = true := hro.imp (fun h => h) (fun h => by simp only [noRF, Bool.and_eq_true] at h; exact h.2)
    obtain ⟨b, hb, hv⟩ := gate_inv hv
    have hc := eval_rel hok.1.1 hr
    rw [hb] at hc
    have hu : upd r (otmp c) (.bool b) = r := by
      cases c with
      | tmp t =>
        funext k
        simp only [otmp, upd]
        split
        · rename_i e; rw [e]; exact hb.symm
        · rfl
      | _ => rfl
    refine wpIn_cond (t := b) hc.bool_inv ?_
    cases b
    · simp only [Bool.false_eq_true, if_false] at hv ⊢
      rw [hu] at hv
      exact vc_sound hm y Q r h hok.2 hv ro lo ρ W a hro2 hlo hC hr
    · simp only [if_true] at hv ⊢
      rw [hu] at hv
      exact vc_sound hm x Q r h hok.1.2 hv ro lo ρ W a hro1 hlo hC hr
  | .block id c, Q, r, h, hok, hv => fun ro lo ρ W a hro hlo hC hr => by
    have h1 := vc_sound hm c _ r h hok hv ro lo ρ W a hro hlo hC hr
    refine wpIn_block (wpIn_mono h1 (fun e a' W' hq => ?_))
    obtain ⟨ex, hx, ρ', r', h', c1, c2, c3, c4⟩ := hq
    cases e with
    | normal => cases ex <;> first | exact hx.elim | exact ⟨_, hx, ρ', r', h', c1, c2, c3, c4⟩
    | exit i =>
      cases ex with
      | exit j =>
        cases hx
        simp only [Exit.inBlock]
        simp only [Ex.blk] at c4
        split
        · rename_i e; rw [if_pos e] at c4; exact ⟨.normal, trivial, ρ', r', h', c1, c2, c3, c4⟩
        · rename_i e; rw [if_neg e] at c4; exact ⟨.exit i, rfl, ρ', r', h', c1, c2, c3, c4⟩
      | _ => exact hx.elim
    | ret => cases ex <;> first | exact hx.elim | exact ⟨_, hx, ρ', r', h', c1, c2, c3, c4⟩
    | goto l => cases ex <;> exact hx.elim
    | panic ch => cases ex <;> exact hx.elim
    | outgrown => cases ex <;> exact hx.elim
  | .loop c, Q, r, h, hok, hv => hv n hok
  | .rangeFunc .., Q, r, h, hok, hv => hv n hok
  | .scope .., Q, r, h, _, hv => hv.elim
  | .goto .., Q, r, h, _, hv => hv.elim
  | .refuse .., Q, r, h, _, hv => hv.elim
/-- A loop: what holds at each round's head, and what each round lowers. -/
theorem loop_introC {c : Code} {Q : Qt} {r : Regs} {h : Heap} (I : Regs → Heap → Prop) (μ : Regs → Heap → Nat) (h0 : I r h)
    (round : ∀ n, okCode n c = true → ∀ r h, I r h → CodeH P n c (fun e r' h' => e.on Q (fun r' h' => I r' h' ∧ μ r' h' < μ r h) r' h') r h) : @Loop P c r h ⟨Q⟩ := by
  intro n hok ro lo ρ W a hro hlo hC hr
  have hok' : okCode n c = true := hok
  have key : ∀ (N : Nat) (r' : Regs) (h' : Heap) (ρ' : Ren) (W' : World) (a' : Act), Conc ρ' h' W' → RRel n lo W' ρ' r' a' → Frame h.next ρ h W ρ' h' W' → h.next ≤ h'.next → I r' h' → μ r' h' < N → Code.roundsIn (wr ro) 0 P c (Lq n lo h.next ρ h W Q) N a' W' := by
    intro N
    induction N with
    | zero => intro _ _ _ _ _ _ _ _ _ _ hlt; omega
    | succ N ih =>
      intro r' h' ρ' W' a' c1 c2 c3 c4 c5 hlt
      rw [roundsIn_succ]
      refine wpIn_mono (round n hok' r' h' c5 ro lo ρ' W' a' hro (Nat.le_trans hlo c3.size) c1 c2) (fun e a2 W2 hq => ?_)
      obtain ⟨ex, hx, ρ2, r2, h2, d1, d2, d3, d4⟩ := hq
      have hF := c3.trans (d3.mono c4)
      cases e with
      | normal =>
        cases ex <;> first | exact hx.elim | skip
        exact ih r2 h2 ρ2 W2 a2 d1 d2 hF (Nat.le_trans c4 d3.nx) d4.1 (by have := d4.2; omega)
      | exit i => cases ex <;> first | exact hx.elim | exact ⟨_, hx, ρ2, r2, h2, d1, d2, hF, d4⟩
      | ret => cases ex <;> first | exact hx.elim | exact ⟨_, hx, ρ2, r2, h2, d1, d2, hF, d4⟩
      | goto l => cases ex <;> exact hx.elim
      | panic ch => cases ex <;> exact hx.elim
      | outgrown => cases ex <;> exact hx.elim
  exact wpIn_loop_rounds _ (key (μ r h + 1) r h ρ W a hC hr (Frame.refl _ _ _ _) (Nat.le_refl _) h0 (Nat.lt_succ_self _))
theorem loop_intro (pl : List Nat) (hm : P.follows .mixedOrders = true) {c : Code} {Q : Qt} {r : Regs} {h : Heap} (I : Regs → Heap → Prop) (μ : Regs → Heap → Nat) (h0 : I r h)
    (round : ∀ r h, I r h → vc P pl c (fun e r' h' => e.on Q (fun r' h' => I r' h' ∧ μ r' h' < μ r h) r' h') r h) : @Loop P c r h ⟨Q⟩ :=
  loop_introC I μ h0 fun n hok r h hI => vc_sound hm c _ r h hok (round r h hI)
/-! ## A function, from its text -/
def resTmps : List ResultVar → Option (List Nat)
  | [] => some []
  | .tmp t :: l => (resTmps l).map (t :: ·)
  | .cell _ _ :: _ => none
def resV (ts : List Nat) (r : Regs) : Value := match ts with | [t] => r t | ts => .tuple (ts.map r).toArray
def resC (ts : List Nat) (tmps : Array Value) : Value := match ts with | [t] => tmps.getD t undef | ts => .tuple (ts.map fun t => tmps.getD t undef).toArray
def initR (args : Array Value) : Regs := fun t => args.getD t undef
theorem resTmps_eq : ∀ (l : List ResultVar) (ts : List Nat), resTmps l = some ts → l = ts.map .tmp
  | [], ts, h => by simp only [resTmps, Option.some.injEq] at h; subst h; rfl
  | .tmp t :: l, ts, h => by
    simp only [resTmps, Option.map_eq_some_iff] at h
    obtain ⟨us, h1, rfl⟩ := h
    simp [resTmps_eq l us h1]
  | .cell _ _ :: _, _, h => by cases h
/-! ## Results, of which some stand in cells -/
def resL (P : Program) : List ResultVar → Regs → Heap → (List Value → Prop) → Prop
  | [], _, _, K => K []
  | .tmp t :: l, r, h, K => resL P l r h fun vs => K (r t :: vs)
  | .cell t ty :: l, r, h, K => @onPtr (r t) ⟨fun a => @loadH P ty a h ⟨fun v => resL P l r h fun vs => K (v :: vs)⟩⟩
def tup (vs : List Value) : Value := match vs with | [v] => v | vs => .tuple vs.toArray
theorem resL_sound {ρ : Ren} {h : Heap} {W : World} {r : Regs} {a : Act} (hC : Conc ρ h W) (hr : RRel n lo W ρ r a) (F : ResultVar → Sem Value) (hF1 : ∀ t, F (.tmp t) = pure (a.tmps.getD t undef)) (hF2 : ∀ t ty A W, a.tmps.getD t undef = .pointer (some A) → (F (.cell t ty)).run P W = (Instr.loadAt ty (.pointer (some A))).run P W) :
    ∀ (l : List ResultVar) (K : List Value → Prop), resL P l r h K → ∃ vs vs', (l.mapM F).run P W = .ok vs' W ∧ vs.length = vs'.length ∧ (∀ (i : Nat) (x y : Value), vs[i]? = some x → vs'[i]? = some y → VRel ρ x y) ∧ K vs
  | [], K, hk => ⟨[], [], rfl, rfl, by simp, hk⟩
  | .tmp t :: l, K, hk => by
    obtain ⟨vs, vs', h1, h2, h3, h4⟩ := resL_sound hC hr F hF1 hF2 l _ hk
    refine ⟨r t :: vs, a.tmps.getD t undef :: vs', by simp only [List.mapM_cons, Sem.run_bind, hF1, Sem.run_pure, Result.andThen_ok, h1], by simp [h2], fun i x y hx hy => ?_, h4⟩
    cases i with
    | zero => simp only [List.getElem?_cons_zero, Option.some.injEq] at hx hy; subst hx hy; exact hr.2.2 t
    | succ i => exact h3 i x y (by simpa using hx) (by simpa using hy)
  | .cell t ty :: l, K, hk => by
    have ht := hr.2.2 t
    simp only [resL] at hk
    cases hp : r t with
    | pointer p =>
      cases p with
      | none => rw [hp] at hk; exact hk.elim
      | some A =>
        rw [hp] at hk ht
        obtain ⟨c, c1, c2, c3⟩ := ht.ptr_inv
        obtain ⟨v, v', e1, e2, e3⟩ := load_sound hC c1 hk
        obtain ⟨vs, vs', h1, h2, h3, h4⟩ := resL_sound hC hr F hF1 hF2 l _ e3
        refine ⟨v :: vs, v' :: vs', by simp only [List.mapM_cons, Sem.run_bind, hF2 t ty _ W c3, e1 W rfl, Sem.run_pure, Result.andThen_ok, h1], by simp [h2], fun i x y hx hy => ?_, h4⟩
        cases i with
        | zero => simp only [List.getElem?_cons_zero, Option.some.injEq] at hx hy; subst hx hy; exact e2
        | succ i => exact h3 i x y (by simpa using hx) (by simpa using hy)
    | _ => rw [hp] at hk; exact hk.elim
theorem CodeH.of_vc (pl : List Nat) (hm : P.follows .mixedOrders = true) {c : Code} {Q : Qt} {r : Regs} {h : Heap} (hok : okCode n c = true) (hv : vc P pl c Q r h) : CodeH P n c Q r h := vc_sound hm c Q r h hok hv
/-- Cut: what is known between two pieces of code is said once. -/
theorem CodeH.seq {x y : Code} {Q : Qt} {r : Regs} {h : Heap} (R : Kt) (h1 : CodeH P n x (fun e r h => e.on Q R r h) r h) (h2 : ∀ r h, R r h → CodeH P n y Q r h) : CodeH P n (.seq x y) Q r h :=
  CodeH.seq' (h1.mono fun e r h hq => by cases e <;> first | exact h2 r h hq | exact hq)
/-- the first piece, then what is known; the first two; the first three -/
theorem CodeH.cut1 (pl : List Nat) (hm : P.follows .mixedOrders = true) {x z : Code} {Q : Qt} {r : Regs} {h : Heap} (R : Kt) (hok : okCode n (.seq x z) = true) (hv : vc P pl x (fun e r h => e.on Q R r h) r h) (h2 : ∀ r h, R r h → CodeH P n z Q r h) : CodeH P n (.seq x z) Q r h := by
  simp only [okCode, Bool.and_eq_true] at hok
  exact CodeH.seq R (vc_sound hm x _ r h hok.1 hv) h2
theorem on_on {Q : Qt} {R N : Kt} {e : Ex} {r : Regs} {h : Heap} : e.on (fun e r h => e.on Q R r h) N r h = e.on Q N r h := by cases e <;> rfl
theorem CodeH.cut2 (pl : List Nat) (hm : P.follows .mixedOrders = true) {x y z : Code} {Q : Qt} {r : Regs} {h : Heap} (R : Kt) (hok : okCode n (.seq x (.seq y z)) = true) (hv : vc P pl (.seq x y) (fun e r h => e.on Q R r h) r h) (h2 : ∀ r h, R r h → CodeH P n z Q r h) : CodeH P n (.seq x (.seq y z)) Q r h := by
  have hok' := hok
  simp only [okCode, Bool.and_eq_true] at hok
  refine CodeH.seq (fun r h => vc P pl y (fun e r h => e.on Q R r h) r h) ((vc_sound hm x _ r h hok.1 hv).mono fun e r h hq => by rw [on_on] at hq; exact hq) fun r h hy => ?_
  exact CodeH.cut1 pl hm R (by simp only [okCode, Bool.and_eq_true]; exact hok.2) hy h2
theorem CodeH.cut3 (pl : List Nat) (hm : P.follows .mixedOrders = true) {x y y2 z : Code} {Q : Qt} {r : Regs} {h : Heap} (R : Kt) (hok : okCode n (.seq x (.seq y (.seq y2 z))) = true) (hv : vc P pl (.seq x (.seq y y2)) (fun e r h => e.on Q R r h) r h) (h2 : ∀ r h, R r h → CodeH P n z Q r h) : CodeH P n (.seq x (.seq y (.seq y2 z))) Q r h := by
  simp only [okCode, Bool.and_eq_true] at hok
  refine CodeH.seq (fun r h => vc P pl (.seq y y2) (fun e r h => e.on Q R r h) r h) ((vc_sound hm x _ r h hok.1 hv).mono fun e r h hq => by rw [on_on] at hq; exact hq) fun r h hy => ?_
  exact CodeH.cut2 pl hm R (by simp only [okCode, Bool.and_eq_true]; exact hok.2) hy h2
/-- what the marks' blocks hold is taken at a function's end -/
structure Emptied (lo : Nat) (W W' : World) : Prop where
  size : W'.heap.size = W.heap.size
  at_ : ∀ k : Nat, W'.heap[k]? = W.heap[k]? ∨ (lo ≤ k ∧ W.heap[k]? = some (Obj.deferred (some [])) ∧ W'.heap[k]? = some (Obj.deferred none))
  os : W'.os = W.os
  tape : W'.tape = W.tape
  output : W'.output = W.output
  drawn : W'.drawn = W.drawn
theorem Emptied.refl (lo : Nat) (W : World) : Emptied lo W W := ⟨rfl, fun _ => .inl rfl, rfl, rfl, rfl, rfl⟩
theorem Emptied.put {lo : Nat} {W W' : World} (hE : Emptied lo W W') {q : Nat} (hq : lo ≤ q) (hw : W'.heap[q]? = some (Obj.deferred (some []))) : Emptied lo W (W'.putObj q (Obj.deferred none)) := by
  refine ⟨by simp [hE.size], fun k => ?_, hE.os, hE.tape, hE.output, hE.drawn⟩
  by_cases e : k = q
  · subst e
    rcases hE.at_ k with h | ⟨_, _, h⟩
    · exact .inr ⟨hq, h.symm.trans hw, World.putObj_heap_same (Array.getElem?_eq_some_iff.1 hw).1⟩
    · rw [h] at hw; cases hw
  · rw [World.putObj_heap_other e]; exact hE.at_ k
theorem leaves_marks {fn : Func} {tmps : Array Value} {R : Ending → World → Prop} {lo : Nat} {W0 : World} : ∀ (ds : List Deferred) (W : World), Marks lo ds W → Emptied lo W0 W → (∀ W', Emptied lo W0 W' → ∃ v, (results fn tmps).run P W' = .ok v W' ∧ R (.returned v) W') → LeavesInM (wr none) 0 P fn tmps R ds .returning W
  | [], W, _, hE, hR => hR W hE
  | d :: ds, W, hM, hE, hR => by
    obtain ⟨q, rfl, hq, hw⟩ := hM.2 d (List.mem_cons_self ..)
    have hnd := List.nodup_cons.1 hM.1
    refine ⟨(fun h => by cases h), .inl ⟨q, _, rfl, run_takeDeferred hw, leaves_marks ds _ ⟨hnd.2, fun d' hd' => ?_⟩ (hE.put hq hw) hR⟩⟩
    obtain ⟨q', e, hq', hw'⟩ := hM.2 d' (List.mem_cons_of_mem _ hd')
    refine ⟨q', e, hq', ?_⟩
    rw [World.putObj_heap_other (fun e' => ?_)]
    · exact hw'
    · subst e'; rw [e] at hd'; exact hnd.1 hd'
theorem BlkAt.emptied {lo : Nat} {ρ : Ren} {W W' : World} (hE : Emptied lo W W') {c : CB} {b : Blk} (h : BlkAt ρ W c b) : BlkAt ρ W' c b := by
  have same : ∀ o, W.heap[c.blk]? = some o → o ≠ Obj.deferred (some []) → W'.heap[c.blk]? = W.heap[c.blk]? := fun o ho hne => by
    rcases hE.at_ c.blk with h | ⟨_, h, _⟩
    · exact h
    · rw [ho] at h; cases h; exact absurd rfl hne
  cases b with
  | cells vs o =>
    cases o with
    | ro =>
      intro i v hv
      obtain ⟨v', ha, hb⟩ := h i v hv
      refine ⟨v', ?_, hb⟩
      cases ho : W.heap[c.blk]? with
      | none => unfold World.cell? at ha; simp only [ho] at ha; cases ha
      | some ob =>
        have e := same ob ho (fun e => by subst e; unfold World.cell? at ha; simp only [ho] at ha; cases ha)
        unfold World.cell? at ha ⊢
        simp only at ha ⊢
        rw [e]; exact ha
    | lock =>
      obtain ⟨cs, e, fr, h1, h2⟩ := h
      exact ⟨cs, e, fr, (same _ h1 (fun e => by cases e)).trans h1, h2⟩
    | own =>
      obtain ⟨cs, e, fr, h1, h2⟩ := h
      exact ⟨cs, e, fr, (same _ h1 (fun e => by cases e)).trans h1, h2⟩
  | map es cl o =>
    obtain ⟨en, h1, h2⟩ := h
    exact ⟨en, (same _ h1 (fun e => by cases e)).trans h1, h2⟩
  | iter m s en l o =>
    obtain ⟨h0, m', h1, h2⟩ := h
    exact ⟨h0, m', (same _ h1 (fun e => by cases e)).trans h1, h2⟩
  | loop L o =>
    obtain ⟨rec, h1, h2⟩ := h
    exact ⟨rec, (same _ h1 (fun e => by cases e)).trans h1, h2⟩
theorem Conc.emptied {lo : Nat} {ρ : Ren} {h : Heap} {W W' : World} (hC : Conc ρ h W) (hE : Emptied lo W W') : Conc ρ h W' := by
  have hcell : ∀ (b i : Nat) (v : Value), W.cell? ⟨b, i, none⟩ = some v → W'.cell? ⟨b, i, none⟩ = some v := fun b i v this => by
    rcases hE.at_ b with e | ⟨_, e, _⟩
    · unfold World.cell? at this ⊢; simp only at this ⊢; rw [e]; exact this
    · unfold World.cell? at this; simp only at this; rw [e] at this; cases this
  refine ⟨fun id c b hc hb => (hC.at_ id c b hc hb).emptied hE, hC.apart, hC.free, hC.next, fun id c hc => by rw [hE.size]; exact hC.lt id c hc, fun b vs hb => ?_, fun b hb => ?_⟩
  · obtain ⟨t1, t2, t3⟩ := hC.tab.1 b vs hb
    exact ⟨by rw [hE.size]; exact t1, fun i v hv => hcell b i v (t2 i v hv), t3⟩
  · obtain ⟨t1, ⟨m, t2⟩, t3⟩ := hC.tab.2 b hb
    exact ⟨by rw [hE.size]; exact t1, ⟨m, hcell b 0 _ t2⟩, t3⟩
theorem calls_of_codeR {f : FuncId} {fn : Func} {c : Code} (hf : P.funcs[f]? = some fn) (hb : fn.body = some c) {rs : List ResultVar} (hres : fn.results.toList = rs)
    {args : Array Value} (hargs : args.size ≤ fn.ntmps) {h : Heap} {K : Value → Heap → Prop}
    (hv : CodeH P fn.ntmps c (fun e r h => match e with | .exit _ => False | _ => resL P rs r h fun vs => K (tup vs) h) (initR args) h) : @CallsH P f args h ⟨K⟩ := by
  intro ρ W args' hC ha
  refine (callsIn_wide (n := 0)).1 (callsIn_of_wp_marks (F := wr none) hf hb trivial ?_)
  have hr : RRel fn.ntmps W.heap.size W ρ (initR args) { tmps := args' ++ Array.replicate (fn.ntmps - args'.size) undef, defers := [] } := by
    refine ⟨⟨List.nodup_nil, fun d hd => by cases hd⟩, by simp only [Array.size_append, Array.size_replicate]; have := ha.1; omega, fun t => ?_⟩
    simp only [initR, Array.getD_eq_getD_getElem?]
    by_cases ht : t < args.size
    · have ht' : t < args'.size := by rw [← ha.1]; exact ht
      rw [Array.getElem?_append_left ht', Array.getElem?_eq_getElem ht, Array.getElem?_eq_getElem ht']
      exact ha.2 t _ _ (Array.getElem?_eq_getElem ht) (Array.getElem?_eq_getElem ht')
    · rw [Array.getElem?_eq_none (by omega), Array.getElem?_append_right (by rw [← ha.1]; omega)]
      have : ((Array.replicate (fn.ntmps - args'.size) undef)[t - args'.size]?).getD undef = undef := by
        rw [Array.getElem?_replicate]; split <;> rfl
      rw [this]; exact undef_rel
  refine wpIn_mono (hv none W.heap.size ρ W _ (.inl rfl) (Nat.le_refl _) hC hr) (fun e a' W' hq => ?_)
  obtain ⟨ex, hx, ρ', r', h', c1, c2, c3, c4⟩ := hq
  have fin : LeavesInM (wr none) 0 P fn a'.tmps (Post ρ h W K) a'.defers .returning W' ∨ (∃ i, ex = .exit i) := by
    cases ex with
    | exit i => exact .inr ⟨i, rfl⟩
    | _ =>
      refine .inl (leaves_marks a'.defers W' c2.1 (Emptied.refl _ _) fun W2 hE => ?_)
      have d1 := c1.emptied hE
      have d2 : RRel fn.ntmps W.heap.size W2 ρ' r' { a' with defers := [] } := ⟨⟨List.nodup_nil, fun d hd => by cases hd⟩, c2.2⟩
      have d3 : Frame h.next ρ h W ρ' h' W2 := ⟨c3.ren, c3.keep, fun b hb hno => by
        rcases hE.at_ b with e | ⟨e, _⟩
        · exact e.trans (c3.blk b hb hno)
        · omega, by rw [hE.size]; exact c3.size, c3.nx, c3.own, hE.os.trans c3.os, hE.tape.trans c3.tape, hE.output.trans c3.output, by rw [hE.drawn]; exact c3.drawn⟩
      obtain ⟨vs, vs', g1, g2, g3, g4⟩ := resL_sound d1 d2 (fun | .tmp t => pure (a'.tmps.getD t undef) | .cell t ty => do loadVar ty (← asAddr (a'.tmps.getD t undef))) (fun _ => rfl) (fun t ty A W h => by simp only [] at h; simp [h, asAddr, Instr.loadAt, Instr.sureAddr]) rs _ c4
      refine ⟨tup vs', ?_, ρ', h', tup vs, tup vs', rfl, ?_, d1, d3, g4⟩
      · unfold results
        rw [Array.mapM_eq_mapM_toList, hres]
        simp only [Sem.run_bind, Sem.run_map]
        erw [g1]
        simp only [Result.andThen_ok, Sem.run_pure]
        match vs' with
        | [] => rfl
        | [v] => rfl
        | v :: u :: l => simp [tup]
      · unfold tup
        match vs, vs', g2 with
        | [], [], _ => exact .same _ rfl
        | [x], [y], _ => exact g3 0 x y rfl rfl
        | x :: x2 :: xs, y :: y2 :: ys, h => exact .tuple _ _ (by simpa using h) fun i u w hu hw => g3 i u w (by simpa using hu) (by simpa using hw)
  cases e with
  | normal =>
    rcases fin with h1 | ⟨i, rfl⟩
    · exact h1
    · exact c4.elim
  | ret =>
    rcases fin with h1 | ⟨i, rfl⟩
    · exact h1
    · exact c4.elim
  | exit i => cases ex <;> first | exact hx.elim | exact c4.elim
  | goto l => cases ex <;> exact hx.elim
  | panic ch => cases ex <;> exact hx.elim
  | outgrown => cases ex <;> exact hx.elim
theorem calls_of_vcR (pl : List Nat) (hm : P.follows .mixedOrders = true) {f : FuncId} {fn : Func} {c : Code} (hf : P.funcs[f]? = some fn) (hb : fn.body = some c) {rs : List ResultVar} (hres : fn.results.toList = rs)
    (hok : okCode fn.ntmps c = true) {args : Array Value} (hargs : args.size ≤ fn.ntmps) {h : Heap} {K : Value → Heap → Prop}
    (hv : vc P pl c (fun e r h => match e with | .exit _ => False | _ => resL P rs r h fun vs => K (tup vs) h) (initR args) h) : @CallsH P f args h ⟨K⟩ :=
  calls_of_codeR hf hb hres hargs (CodeH.of_vc pl hm hok hv)
theorem resL_tmps {r : Regs} {h : Heap} : ∀ (ts : List Nat) (K : List Value → Prop), K (ts.map r) → resL P (ts.map .tmp) r h K
  | [], K, hk => hk
  | t :: ts, K, hk => resL_tmps ts (fun vs => K (r t :: vs)) hk
theorem calls_of_vc (pl : List Nat) (hm : P.follows .mixedOrders = true) {f : FuncId} {fn : Func} {c : Code} (hf : P.funcs[f]? = some fn) (hb : fn.body = some c) {ts : List Nat} (hres : resTmps fn.results.toList = some ts)
    (hok : okCode fn.ntmps c = true) {args : Array Value} (hargs : args.size ≤ fn.ntmps) {h : Heap} {K : Value → Heap → Prop}
    (hv : vc P pl c (fun e r h => match e with | .exit _ => False | _ => K (resV ts r) h) (initR args) h) : @CallsH P f args h ⟨K⟩ := by
  refine calls_of_codeR hf hb (resTmps_eq _ _ hres) hargs ((CodeH.of_vc pl hm hok hv).mono fun e r h hq => ?_)
  have key : K (resV ts r) h → resL P (ts.map .tmp) r h fun vs => K (tup vs) h := fun hk => resL_tmps ts _ (by
    unfold resV at hk
    match ts, hk with
    | [], hk => exact hk
    | [t], hk => exact hk
    | t :: u :: l, hk => exact hk)
  cases e with
  | exit i => exact hq
  | normal => exact key hq
  | ret => exact key hq
theorem CallsH.mono {f : FuncId} {args : Array Value} {h : Heap} {K K' : Value → Heap → Prop} (hc : @CallsH P f args h ⟨K⟩) (hk : ∀ v h', K v h' → K' v h') : @CallsH P f args h ⟨K'⟩ :=
  fun ρ W args' hC ha => (hc ρ W args' hC ha).mono fun e W' ⟨ρ', h', v, v', h1, h2, h3, h4, h5⟩ => ⟨ρ', h', v, v', h1, h2, h3, h4, hk _ _ h5⟩
/-- A call that only reads and answers plainly: the heap is as it was. -/
theorem CallsH.pure {f : FuncId} {args : Array Value} {h : Heap} {K : Value → Heap → Prop} (v : Value) (hp : plain v = true) (hc : @CallsH P f args h.ro ⟨fun u _ => u = v⟩) (hK : K v h) : @CallsH P f args h ⟨K⟩ :=
  fun ρ W args' hC ha => (hc ρ W args' hC.ro ha).mono fun e W' ⟨ρ', h', u, u', h1, h2, h3, h4, h5⟩ => by
    have hb := h4.to_below
    subst h5
    have e2 := h2.plain_eq hp
    subst e2
    exact ⟨ρ, h, u', u', h1, .same _ hp, hC.below hb.1, Frame.below hb, hK⟩
end
end Ph
