import Derived.Calls
set_option linter.unusedVariables false
namespace Ph
open Go
/-! ## What is drawn is never drawn back -/
def GeR {α : Type} (d : Nat) : Result α → Prop | .ok _ w => d ≤ w.drawn | .halt _ w => d ≤ w.drawn
theorem ask_drawn {α : Type} : ∀ (a : Ask α) (w : World), w.drawn ≤ (w.ask a).2.drawn
  | .done a, w => Nat.le_refl _
  | .ask what range k, w => by
    unfold World.ask
    dsimp only
    split
    · exact ask_drawn (k 0) w
    · exact Nat.le_trans (Nat.le_succ w.drawn) (ask_drawn (k _) { w with drawn := w.drawn + 1 })
theorem sys_drawn (w : World) (c : Sys) : w.drawn ≤ (w.sys c).2.drawn := by
  have h := ask_drawn (Kernel.perform c w.os) w
  unfold World.sys
  split
  · exact Nat.le_refl _
  · next r os w' hne he => rw [he] at h; exact h
theorem bind_ok {ε α β : Type} {x : Except ε α} {f : α → Except ε β} {y : β} (h : (x >>= f) = .ok y) : ∃ a, f a = .ok y := by
  cases x with
  | error e => cases h
  | ok a => exact ⟨a, h⟩
theorem view_drawn {p : Program} {w w' : World} {at_ : Addr} {u : TypeId} {k : Addr} {v : Value} {b : Bool} {l : List Addr} (h : w.viewStore p at_ u k v b = .ok (w', l)) : w'.drawn = w.drawn := by
  unfold World.viewStore at h
  dsimp only at h
  split at h
  · cases h
  obtain ⟨⟨c, e, frozen, first, like, cells⟩, h⟩ := bind_ok h
  dsimp only at h
  split at h
  · split at h
    · cases h
    · obtain ⟨c2, h⟩ := bind_ok h
      cases h; rfl
  · cases h
theorem far_drawn {p : Program} {w w' : World} {a : Addr} {v : Value} {b : Bool} {l : List Addr} (h : w.farStore p a v b = .ok (w', l)) : w'.drawn = w.drawn := by
  unfold World.farStore at h
  split at h
  · split at h
    · next r hr => cases h; exact view_drawn hr
    · cases h
  · cases h
theorem freeze_drawn (w : World) (a : Addr) (n : Nat) : (w.freeze a n).drawn = w.drawn := by unfold World.freeze; split <;> rfl
theorem run_drawn {α : Type} (p : Program) : ∀ (s : Sem α) (w : World) (d : Nat), d ≤ w.drawn → GeR d (s.run p w) := by
  intro s
  induction s with
  | pure a => intro w d h; exact h
  | load m a k ih =>
    intro w d h; unfold Sem.run
    split
    · exact ih _ w d h
    · split
      · exact ih _ w d h
      · exact h
  | store m a v k ih =>
    intro w d h
    have main : GeR d (match w.cell? a with | some _ => if w.frozen? a then .halt (.unsupported (.unsafePointer "a write to bytes that a string shares")) w else k.run p (w.setCell a v) | none => match w.farStore p a v (m == .atomic) with | .ok (w, _) => k.run p w | .error h => .halt h w) := by
      split
      · split
        · exact h
        · exact ih _ d h
      · split
        · next hf => exact ih _ d (by rw [far_drawn hf]; exact h)
        · exact h
    cases v with
    | agg _ => exact h
    | tuple _ => exact h
    | _ => exact main
  | new o k ih => intro w d h; unfold Sem.run; exact ih _ _ d h
  | shape r k ih => intro w d h; unfold Sem.run; exact ih _ _ d h
  | freeze a n k ih => intro w d h; unfold Sem.run; exact ih _ d (by rw [freeze_drawn]; exact h)
  | frozen a k ih => intro w d h; unfold Sem.run; exact ih _ _ d h
  | getObj r k ih =>
    intro w d h; unfold Sem.run
    split
    · exact h
    · exact ih _ _ d h
    · exact h
  | setObj r o k ih =>
    intro w d h; unfold Sem.run
    split
    · exact h
    · exact ih _ d h
    · exact h
  | choose q k ih =>
    intro w d h; unfold Sem.run
    split
    · exact ih _ _ d h
    · exact ih _ _ d (Nat.le_trans h (Nat.le_succ _))
  | sys c k ih => intro w d h; unfold Sem.run; exact ih _ _ d (Nat.le_trans h (sys_drawn w c))
  | program k ih => intro w d h; unfold Sem.run; exact ih _ _ d h
  | mark m k ih => intro w d h; unfold Sem.run; exact ih _ d h
  | halt x => intro w d h; exact h
theorem runT_drawn {α : Type} (p : Program) : ∀ (s : Sem α) (w : World) (es : Array Event) (d : Nat), d ≤ w.drawn → GeR d (s.runT p w es).1 := by
  intro s
  induction s with
  | pure a => intro w es d h; exact h
  | load m a k ih =>
    intro w es d h; unfold Sem.runT
    split
    · exact ih _ w _ d h
    · split
      · exact ih _ w _ d h
      · exact h
  | store m a v k ih =>
    intro w es d h
    have main : GeR d (match w.cell? a with | some _ => if w.frozen? a then (Result.halt (.unsupported (.unsafePointer "a write to bytes that a string shares")) w, es) else k.runT p (w.setCell a v) (es.push ⟨.cell a, true, m == Mode.atomic⟩) | none => match w.farStore p a v (m == Mode.atomic) with | .ok (w, touched) => k.runT p w (es ++ touched.toArray.map fun x => (⟨Loc.cell x, true, m == Mode.atomic⟩ : Event)) | .error h => (.halt h w, es)).1 := by
      split
      · split
        · exact h
        · exact ih _ _ d h
      · split
        · next hf => exact ih _ _ d (by rw [far_drawn hf]; exact h)
        · exact h
    cases v with
    | agg _ => exact h
    | tuple _ => exact h
    | _ => exact main
  | new o k ih => intro w es d h; unfold Sem.runT; exact ih _ _ _ d h
  | shape r k ih => intro w es d h; unfold Sem.runT; exact ih _ _ _ d h
  | freeze a n k ih => intro w es d h; unfold Sem.runT; exact ih _ _ d (by rw [freeze_drawn]; exact h)
  | frozen a k ih => intro w es d h; unfold Sem.runT; exact ih _ _ _ d h
  | getObj r k ih =>
    intro w es d h; unfold Sem.runT
    split
    · exact h
    · exact ih _ _ _ d h
    · exact h
  | setObj r o k ih =>
    intro w es d h; unfold Sem.runT
    split
    · exact h
    · exact ih _ _ d h
    · exact h
  | choose q k ih =>
    intro w es d h; unfold Sem.runT
    split
    · exact ih _ _ _ d h
    · exact ih _ _ _ d (Nat.le_trans h (Nat.le_succ _))
  | sys c k ih => intro w es d h; unfold Sem.runT; exact ih _ _ _ d (Nat.le_trans h (sys_drawn w c))
  | program k ih => intro w es d h; unfold Sem.runT; exact ih _ _ _ d h
  | mark m k ih => intro w es d h; unfold Sem.runT; exact ih _ _ d h
  | halt x => intro w es d h; exact h
theorem run_ok {α : Type} {p : Program} {s : Sem α} {w w' : World} {a : α} {d : Nat} (he : s.run p w = .ok a w') (h : d ≤ w.drawn) : d ≤ w'.drawn := by have := run_drawn p s w d h; rw [he] at this; exact this
theorem runT_ok {α : Type} {p : Program} {s : Sem α} {w w' : World} {es es' : Array Event} {a : α} {d : Nat} (he : s.runT p w es = (.ok a w', es')) (h : d ≤ w.drawn) : d ≤ w'.drawn := by have := runT_drawn p s w es d h; rw [he] at this; exact this
theorem runT_halt {α : Type} {p : Program} {s : Sem α} {w w' : World} {es es' : Array Event} {x : Halt} {d : Nat} (he : s.runT p w es = (.halt x w', es')) (h : d ≤ w.drawn) : d ≤ w'.drawn := by have := runT_drawn p s w es d h; rw [he] at this; exact this
theorem runT_ok1 {α : Type} {p : Program} {s : Sem α} {w w' : World} {es : Array Event} {a : α} {d : Nat} (he : (s.runT p w es).1 = .ok a w') (h : d ≤ w.drawn) : d ≤ w'.drawn := by have := runT_drawn p s w es d h; rw [he] at this; exact this
theorem runT_halt1 {α : Type} {p : Program} {s : Sem α} {w w' : World} {es : Array Event} {x : Halt} {d : Nat} (he : (s.runT p w es).1 = .halt x w') (h : d ≤ w.drawn) : d ≤ w'.drawn := by have := runT_drawn p s w es d h; rw [he] at this; exact this
/-- what a step of a goroutine leaves, if anything goes on -/
def GeG (d : Nat) : GStep → Prop
  | .go _ w _ => d ≤ w.drawn | .comm _ _ _ _ w _ => d ≤ w.drawn | .spawn _ _ w _ => d ≤ w.drawn | .count _ w _ => d ≤ w.drawn | .timer _ _ w _ => d ≤ w.drawn | .alone _ _ w _ => d ≤ w.drawn
  | .newcoro _ _ _ w _ => d ≤ w.drawn | .coroswitch _ _ _ w _ => d ≤ w.drawn | .collect _ w _ => d ≤ w.drawn | .watch _ w _ => d ≤ w.drawn | .ended _ _ _ => True
def GeS (d : Nat) : Stepped → Prop | .next m => d ≤ m.world.drawn | _ => True
theorem geG_after {d : Nat} {es : Array Event} {g : GStep} (h : GeG d g) : GeG d (g.after es) := by cases g <;> exact h
theorem geG_ite {d : Nat} {c : Prop} [Decidable c] {a b : GStep} (ha : GeG d a) (hb : GeG d b) : GeG d (if c then a else b) := by split <;> assumption
theorem endWith_drawn (d : Nat) (w : World) (fd : Nat) (text : ByteArray) (o : Outcome) : GeG d (endWith w fd text o) := by
  unfold endWith; dsimp only; split
  · split <;> trivial
  · trivial
  · trivial
theorem endThrow_drawn {d : Nat} (fr : Go.Frame) (m : String) {w : World} (h : d ≤ w.drawn) : GeG d (endThrow fr m w) := h
theorem endThrow_go {d : Nat} {fr : Go.Frame} {m : String} {w w' : World} {g : Goroutine} {es : Array Event} (he : endThrow fr m w = .go g w' es) (h : d ≤ w.drawn) : d ≤ w'.drawn := by cases he; exact h
theorem endPrinting_drawn {d : Nat} (p : Program) (fr : Go.Frame) (v : Value) {w : World} (h : d ≤ w.drawn) : GeG d (endPrinting p fr v w) := by
  unfold endPrinting; dsimp only; split
  · exact h
  · trivial
theorem endFatal_drawn {d : Nat} (p : Program) (fr : Go.Frame) (cs : List Go.Frame) (dy : Option Dying) (m : String) {w : World} (h : d ≤ w.drawn) : GeG d (endFatal p fr cs dy m w) := by
  unfold endFatal; dsimp only
  split
  · next he => exact run_ok he h
  · trivial
  · trivial
theorem writeOn_drawn {d : Nat} (p : Program) (fr : Go.Frame) (dy : Dying) (f : Fatal) {w : World} (h : d ≤ w.drawn) : GeG d (writeOn p fr dy f w) := by
  unfold writeOn; dsimp only
  split
  · trivial
  · split
    · next he => first | exact runT_ok he h | exact runT_halt he h
    · next he => first | exact runT_ok he h | exact runT_halt he h
    · trivial
    · trivial
theorem die_drawn {d : Nat} (p : Program) (fr : Go.Frame) (dy : Dying) {w : World} (h : d ≤ w.drawn) : GeG d (die p fr dy w) := by
  unfold die; dsimp only
  split
  · exact writeOn_drawn p fr dy _ h
  · split
    · split
      · exact h
      · exact endWith_drawn ..
    · split
      · exact h
      · split
        · next he => exact run_ok he h
        · trivial
      · refine geG_after ?_
        split
        · next he => exact runT_ok1 he h
        · next he => exact runT_ok1 he h
        · trivial
        · next he => exact endPrinting_drawn p fr _ (runT_halt1 he h)
        · trivial
      · trivial
theorem doReturn_drawn {d : Nat} (p : Program) (main : Bool) (fr : Go.Frame) (cs : List Go.Frame) (dy : Option Dying) (v : Value) {w : World} (h : d ≤ w.drawn) : GeG d (doReturn p main fr cs dy v w) := by
  unfold doReturn; dsimp only
  split
  · split <;> exact h
  · split
    · exact h
    · trivial
    · split
      · exact h
      · split
        · exact h
        · trivial
theorem callDeferred_drawn {d : Nat} (p : Program) (fr : Go.Frame) (cs : List Go.Frame) (dy : Option Dying) (x : Deferred) {w : World} (h : d ≤ w.drawn) : GeG d (callDeferred p fr cs dy x w) := by
  unfold callDeferred; dsimp only
  refine geG_ite trivial ?_
  · have hr := runT_drawn p (invoke x.target x.args) w #[] d h
    refine geG_after ?_
    generalize ((invoke x.target x.args).runT p w #[]).1 = r at hr ⊢
    split <;> first | trivial | exact hr | exact endFatal_drawn p fr cs dy _ hr | exact endThrow_drawn fr _ hr | (split <;> exact hr)
theorem unwind_drawn {d : Nat} (p : Program) (main : Bool) (fr : Go.Frame) (cs : List Go.Frame) (dy : Option Dying) {w : World} (h : d ≤ w.drawn) : GeG d (unwind p main fr cs dy w) := by
  unfold unwind; dsimp only
  split
  · next block _ ds _ =>
    have hr := runT_drawn p (Instr.takeDeferred block) w #[] d h
    refine geG_after ?_
    generalize ((Instr.takeDeferred block).runT p w #[]).1 = r at hr ⊢
    split
    · exact hr
    · trivial
  · exact callDeferred_drawn p _ cs dy _ h
  · split
    · trivial
    · split
      · trivial
      · split
        · exact h
        · split
          · split
            · exact h
            · split
              · next he => exact run_ok he h
              · trivial
              · trivial
          · split
            · exact endPrinting_drawn p fr _ h
            · trivial
    · split
      · exact doReturn_drawn p main fr cs dy _ h
      · next fn _ =>
        have hr := runT_drawn p (results fn fr.tmps) w #[] d h
        refine geG_after ?_
        generalize ((results fn fr.tmps).runT p w #[]).1 = r at hr ⊢
        split
        · exact doReturn_drawn p main fr cs dy _ hr
        · trivial
        · trivial
theorem early_drawn {d : Nat} (p : Program) (fr : Go.Frame) (cs : List Go.Frame) (dy : Option Dying) (g : Nat) {w : World} (h : d ≤ w.drawn) : GeG d (early p fr cs dy g w) := by
  have notYet : ∀ (w : World), d ≤ w.drawn → GeG d (match w.heap[g]? with
    | some (.pending c elem) => GStep.go { frame := fr, callers := cs, status := .running, dying := dy } { w with heap := w.heap.setIfInBounds g (.cells c elem) }
    | _ => .ended (.stuck "early: the variable does not wait" (fr.pos p)) w) := fun w h => by split <;> first | exact h | trivial
  unfold early; dsimp only
  split
  · exact notYet w h
  · split
    · trivial
    · split
      · exact notYet w h
      · split
        · exact notYet w h
        · split
          · trivial
          · exact h
          · trivial
          · exact notYet w h
          · split
            · exact h
            · split
              · exact notYet w h
              · split
                · next he => exact notYet _ (run_ok he h)
                · next he => exact run_ok he h
                · trivial
theorem apply_drawn {d : Nat} (p : Program) (ls : Bool) (fr : Go.Frame) (cs : List Go.Frame) (dy : Option Dying) (s : Sem Next) {w : World} (h : d ≤ w.drawn) : GeG d (stepG.apply p ls fr cs dy s w) := by
  unfold stepG.apply; dsimp only
  have hr : GeR d (if ls = true then s.runT p w #[] else (s.run p w, #[])).1 := by
    split
    · exact runT_drawn p s w #[] d h
    · exact run_drawn p s w d h
  refine geG_after ?_
  generalize (if ls = true then s.runT p w #[] else (s.run p w, #[])).1 = r at hr ⊢
  split <;> first | trivial | exact hr | exact endFatal_drawn p fr cs dy _ hr | exact endThrow_drawn fr _ hr | exact early_drawn p fr cs dy _ hr | (refine geG_ite (endThrow_drawn fr _ hr) ?_; exact hr) | (split <;> first | exact hr | exact endThrow_drawn fr _ hr)
theorem oper_drawn {d : Nat} (p : Program) (ls : Bool) (fr : Go.Frame) (cs : List Go.Frame) (dy : Option Dying) {w : World} (h : d ≤ w.drawn) : GeG d (stepG.oper p ls fr cs dy w) := by
  unfold stepG.oper
  split
  · trivial
  · split <;> exact apply_drawn p ls fr cs dy _ h
theorem elim_drawn {d : Nat} {α : Type} {o : Option α} {a : GStep} {f : α → GStep} (ha : GeG d a) (hf : ∀ x, GeG d (f x)) : GeG d (o.elim a f) := by cases o <;> first | exact ha | exact hf _
theorem exec_drawn {d : Nat} (p : Program) (main ls : Bool) (fr : Go.Frame) (cs : List Go.Frame) (dy : Option Dying) {w : World} (h : d ≤ w.drawn) : GeG d (stepG.exec p main ls fr cs dy w) := by
  unfold stepG.exec; dsimp only
  split
  all_goals try first
    | exact h
    | trivial
    | exact apply_drawn p ls fr cs dy _ h
    | exact elim_drawn trivial fun _ => apply_drawn p ls fr cs dy _ h
  all_goals try refine elim_drawn ?_ fun _ => h
  all_goals try
    split
    · exact geG_ite h trivial
    · refine geG_after ?_
      split
      · next he => exact doReturn_drawn p main fr cs dy _ (runT_ok1 he h)
      · trivial
  all_goals try (split <;> first | exact h | trivial)
  all_goals try
    refine geG_after ?_
    split
    · next he => exact apply_drawn p ls _ cs dy _ (runT_ok1 he h)
    · trivial
  all_goals try
    refine geG_after ?_
    split
    · next he => exact runT_ok1 he h
    · next he => exact runT_halt1 he h
    · trivial
  all_goals try
    refine geG_ite h ?_
    split
    · next he => exact run_ok he h
    · trivial
  all_goals try exact geG_ite (oper_drawn p ls fr cs dy h) h
theorem stepG_drawn {d : Nat} (p : Program) (main : Bool) (g : Goroutine) {w : World} (ls : Bool) (h : d ≤ w.drawn) : GeG d (stepG p main g w ls) := by
  unfold stepG; dsimp only
  split
  · exact die_drawn p _ _ h
  · exact exec_drawn p main ls _ _ _ h
  · exact unwind_drawn p main _ _ _ h
theorem geS_ite {d : Nat} {c : Prop} [Decidable c] {a b : Stepped} (ha : GeS d a) (hb : GeS d b) : GeS d (if c then a else b) := by split <;> assumption
theorem look_drawn {d : Nat} (p : Program) (gs : Array Goroutine) (rest : Rest) {w : World} (h : d ≤ w.drawn) : GeS d (look p gs rest w) := by
  unfold look; dsimp only
  split
  · refine geS_ite trivial ?_
    split
    · trivial
    · split
      · next he => have hw := run_ok he h; exact hw
      · trivial
      · trivial
  · trivial
theorem waiting_drawn {rest : Rest} {cases : Array CommCase} {w w' : World} (h : waitingAt rest cases w = some w') : w'.drawn = w.drawn := by
  unfold waitingAt at h
  split at h
  · split at h
    · cases h; rfl
    · cases h
  · cases h; rfl
theorem fst_ite {d : Nat} {c : Prop} [Decidable c] {a b : Stepped × Array MemOp} (ha : GeS d a.1) (hb : GeS d b.1) : GeS d (if c then a else b).1 := by split <;> assumption
theorem communicate_drawn {d : Nat} (p : Program) (rest : Rest) (gs : Array Goroutine) (i : Nat) (g : Goroutine) (cases : Array CommCase) (bl : Bool) (sh : CommShape) {w : World} (h : d ≤ w.drawn) : GeS d (communicate p rest gs i g cases bl sh w).1 := by
  unfold communicate; dsimp only
  refine fst_ite trivial ?_
  refine fst_ite (fst_ite ?_ h) ?_
  · split
    · next he => show d ≤ _; rw [waiting_drawn he]; exact h
    · trivial
  · split
    · trivial
    · next he =>
      have hw := run_ok he h
      split
      · split
        · next he2 =>
          have := run_drawn p (runtimePanic (.plain "send on closed channel") : Sem Unit) _ d hw
          rw [he2] at this; exact this
        · trivial
      · exact hw
      · exact hw
      · split
        · exact hw
        · split
          · next he3 => have hw3 := run_ok he3 hw; exact hw3
          · trivial
      · exact hw
      · exact hw
      · trivial
theorem serve_drawn {d : Nat} (p : Program) (m : Machine) (k : Nat) (h : d ≤ m.world.drawn) : GeS d (serve p m k) := by
  unfold serve; dsimp only
  split
  · trivial
  · exact h
  · split
    · trivial
    · exact h
theorem drain_drawn (w : World) (c : Nat) : (drain w c).2.drawn = w.drawn := by unfold drain; split <;> rfl
theorem retime_drawn (m : Machine) (k : Nat) (t : Timer) (a b : Nat) : (retime m k t a b).2.world.drawn = m.world.drawn := by
  unfold retime; dsimp only
  split
  · exact drain_drawn ..
  · rfl
theorem timer_drawn {m m' : Machine} {op : TimerOp} {v : Value} (h : timerOp m op = .ok (v, m')) : m'.world.drawn = m.world.drawn := by
  have named : ∀ (var : Addr) (f : Nat → Timer → Value × Machine), (∀ k t, (f k t).2.world.drawn = m.world.drawn) → timerOp.named m var f = .ok (v, m') → m'.world.drawn = m.world.drawn := fun var f hf hn => by
    unfold timerOp.named at hn
    split at hn
    · next k _ => have := hf k (m.rest.timers.getD k default); cases hn' : f k (m.rest.timers.getD k default); rw [hn'] at hn this; cases hn; exact this
    · cases hn
  unfold timerOp at h
  split at h
  · split at h
    · cases h; rfl
    · split at h
      · split at h
        · cases h
        · cases h; rfl
      · cases h
  · exact named _ _ (fun k t => retime_drawn ..) h
  · split at h
    · next m2 he =>
      have e2 : m2.world.drawn = m.world.drawn := by
        unfold timerOp.opened at he
        split at he
        · split at he
          · cases he; rfl
          · cases he
        · cases he; rfl
      exact named _ _ (fun k t => (retime_drawn ..).trans e2) h
    · cases h
  · cases h; rfl
theorem runStep_drawn {d : Nat} (p : Program) (m : Machine) (i : Nat) (ls : Bool) (h : d ≤ m.world.drawn) : GeS d (runT p m i ls).1 := by
  unfold runT; dsimp only
  have hs := stepG_drawn p (i == 0) (m.gs.swapAt! i { (default : Goroutine) with status := .finished }).1 ls h
  split
  · trivial
  · next he => rw [he] at hs; exact communicate_drawn p _ _ i _ _ _ _ hs
  · next he => rw [he] at hs; exact hs
  · next he => rw [he] at hs; exact hs
  · next he => rw [he] at hs; exact geS_ite trivial hs
  · next he => rw [he] at hs; exact hs
  · next he => rw [he] at hs; exact look_drawn p _ _ hs
  · next he => rw [he] at hs; exact hs
  · next he => rw [he] at hs; exact hs
  · next he =>
    rw [he] at hs
    split
    · exact hs
    · split
      · next he2 => have := endThrow_go he2 hs; exact this
      · trivial
    · trivial
  · next he =>
    rw [he] at hs
    split
    · next he2 => have := timer_drawn he2; show d ≤ _; rw [this]; exact hs
    · split
      · next he2 => have := endThrow_go he2 hs; exact this
      · trivial
    · trivial
    · trivial
def GeM (d : Nat) : Move → Prop | .goroutine m _ => d ≤ m.world.drawn | .machine s _ => GeS d s
theorem askOn_drawn {d : Nat} (p : Program) (m : Machine) (h : d ≤ m.world.drawn) : GeM d (askOn p m) := by
  have pick : ∀ (w0 : World) (gs0 : Array Goroutine) (r0 : Rest), d ≤ w0.drawn → GeM d (match (choose (.sched (runnable m.gs m.world.os.mono).length)).run p w0 with
      | .halt _ w => .machine (.ended (.stuck "sched" "") w)
      | .ok k world =>
        if (runnable m.gs m.world.os.mono).length ≤ 1 then Move.goroutine { world := world, gs := gs0, rest := r0 } ((runnable m.gs m.world.os.mono).getD k 0) else
        match (choose (.extern "sched.slice" 65536)).run p world with
        | .halt _ w => .machine (.ended (.stuck "sched.slice" "") w)
        | .ok n world => .goroutine { world := world, gs := gs0, rest := { r0 with slice := if n = 0 then none else some ((runnable m.gs m.world.os.mono).getD k 0, n) } } ((runnable m.gs m.world.os.mono).getD k 0)) := fun w0 gs0 r0 h0 => by
    split
    · trivial
    · next he =>
      have hw := run_ok he h0
      split
      · exact hw
      · split
        · trivial
        · next he2 => have hw2 := run_ok he2 hw; exact hw2
  unfold askOn; dsimp only
  split
  · trivial
  · next he =>
    have hw := run_ok he h
    split
    · exact serve_drawn p _ _ hw
    · split
      · split
        · exact hw
        · split
          · exact hw
          · have := endWith_drawn d; split <;> trivial
      · split
        · exact pick _ _ _ hw
        · split
          · trivial
          · next he2 => have hw2 := run_ok he2 hw; exact pick _ _ _ hw2
          · next he2 => have hw2 := run_ok he2 hw; exact hw2
          · next he2 => have hw2 := run_ok he2 hw; exact pick _ _ _ hw2
theorem ask_move_drawn {d : Nat} (p : Program) (m : Machine) (h : d ≤ m.world.drawn) : GeM d (Go.ask p m) := by
  unfold Go.ask
  split
  · split
    · trivial
    · next he =>
      have hw := run_ok he h
      have hl := look_drawn p m.gs m.rest hw
      split
      · next he2 => rw [he2] at hl; exact askOn_drawn p _ hl
      · exact hl
    · next he => have hw := run_ok he h; exact askOn_drawn p _ hw
  · exact askOn_drawn p m h
theorem move_drawn {d : Nat} (p : Program) (m : Machine) (h : d ≤ m.world.drawn) : GeM d (move p m) := by
  unfold move
  split
  · split
    · exact h
    · trivial
  · split
    · split
      · exact h
      · exact ask_move_drawn p _ h
    · exact ask_move_drawn p m h
theorem step_drawn {p : Program} {m m' : Machine} (h : step p m = .next m') : m.world.drawn ≤ m'.world.drawn := by
  have hm := move_drawn p m (Nat.le_refl _)
  unfold step stepT at h
  split at h
  · next m0 i0 he => rw [he] at hm; have := runStep_drawn p m0 i0 true hm; rw [h] at this; exact this
  · next he => rw [he] at hm; dsimp only at h; subst h; exact hm
theorem runN_drawn {p : Program} : ∀ (n : Nat) {m m' : Machine}, runN p n m = .next m' → m.world.drawn ≤ m'.world.drawn
  | 0, m, m', h => by cases h; exact Nat.le_refl _
  | n + 1, m, m', h => by
    unfold runN at h
    split at h
    · next he => exact Nat.le_trans (step_drawn he) (runN_drawn n h)
    · next hne => rw [h] at hne; exact absurd rfl (hne _)
/-- a call that comes back has drawn no less than was drawn before -/
theorem calls_drawn {P : Program} {f : FuncId} {args : Array Value} {w : World} {R : Ending → World → Prop} (h : Calls P f args w R) (hR : ∀ w', ¬ R .outgrown w') : Calls P f args w fun e w' => R e w' ∧ w.drawn ≤ w'.drawn := fun cs => by
  obtain ⟨e, w', fr, hr, hc, hf, hl⟩ := h cs
  refine ⟨e, w', fr, ⟨hr, ?_⟩, hc, hf, hl⟩
  cases e with
  | outgrown => exact absurd hr (hR _)
  | returned v => obtain ⟨n, hn⟩ := hc; exact runN_drawn n hn
  | panicked c => obtain ⟨n, hn⟩ := hc; exact runN_drawn n hn
#print axioms calls_drawn
end Ph
