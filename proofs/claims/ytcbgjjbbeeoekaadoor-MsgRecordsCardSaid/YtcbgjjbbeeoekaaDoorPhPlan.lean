import Derived.Test.YtcbgjjbbeeoekaaDoorPhVc
import Derived.Test.YtcbgjjbbeeoekaaDoorPhSimp
import Derived.OrdersHeld
set_option linter.unusedVariables false
namespace Ph
open Go Go.RowKit
/-! ## A heap of which only some blocks may be written -/
def Heap.mask (h : Heap) (wr : List Nat) : Heap := ⟨fun i => if i ∈ wr then h.get i else (h.get i).lock, h.next⟩
def Heap.unmask (h : Heap) (wr : List Nat) (h' : Heap) : Heap := ⟨fun i => if i < h.next ∧ i ∉ wr then h.get i else h'.get i, h'.next⟩
section
variable {P : Program} {n lo : Nat} {ρ : Ren} {r : Regs} {a : Act} {h : Heap} {W : World} {o : Oper} {wr : List Nat}
theorem mask_live {i : Nat} {b : Blk} (hb : (h.mask wr).get i = .live b) : ∃ b0, h.get i = .live b0 ∧ b.own = b0.own ∧ (b.mod = true → b0.mod = true ∧ i ∈ wr) ∧ (∀ W c, BlkAt ρ W c b0 → BlkAt ρ W c b) := by
  simp only [Heap.mask] at hb
  split at hb
  · rename_i hi; exact ⟨b, hb, rfl, fun hm => ⟨hm, hi⟩, fun _ _ h => h⟩
  · obtain ⟨b0, hg, rfl⟩ := lock_live hb
    exact ⟨b0, hg, lock_own b0, (fun hm => by rw [lock_mod] at hm; cases hm), fun W c h => lock_at h⟩
theorem mask_mods {i : Nat} (hm : (h.mask wr).mods i) : h.mods i ∧ i ∈ wr := by
  obtain ⟨b, hb, hb'⟩ := hm
  obtain ⟨b0, hg, _, h2, _⟩ := mask_live (ρ := fun _ => none) hb
  exact ⟨⟨b0, hg, (h2 hb').1⟩, (h2 hb').2⟩
theorem Conc.mask (hC : Conc ρ h W) : Conc ρ (h.mask wr) W := by
  refine ⟨fun id c b hc hb => ?_, fun id id' c c' hne hc hc' ho hl => ?_, fun id hi => ?_, fun id hi => ?_, hC.lt, hC.tab.keep (Nat.le_refl _) (fun _ _ _ => rfl) fun id c hc ⟨b, hb, hb'⟩ => .inr ⟨id, c, hc, (by obtain ⟨b0, hg, e, _, _⟩ := mask_live (ρ := ρ) hb; exact ⟨b0, hg, by rw [← e]; exact hb'⟩), rfl⟩⟩
  · obtain ⟨b0, hg, _, _, h3⟩ := mask_live (ρ := ρ) hb
    exact h3 W c (hC.at_ id c b0 hc hg)
  · obtain ⟨b, hb, hb'⟩ := ho
    obtain ⟨b', hb2⟩ := hl
    obtain ⟨b0, hg, e, _, _⟩ := mask_live (ρ := ρ) hb
    obtain ⟨b1, hg1, _, _, _⟩ := mask_live (ρ := ρ) hb2
    exact hC.apart id id' c c' hne hc hc' ⟨b0, hg, by rw [← e]; exact hb'⟩ ⟨b1, hg1⟩
  · refine hC.free id ?_
    simp only [Heap.mask] at hi
    split at hi
    · exact hi
    · cases hg : h.get id <;> simp [hg, Slot.lock] at hi ⊢
  · have := hC.next id hi
    simp only [Heap.mask, this, Slot.lock, ite_self]
theorem ren_le {lim : Nat} {h0 : Heap} {W0 : World} {ρ' : Ren} {h' : Heap} {W' : World} (hC : Conc ρ h W) (hl : h.next ≤ lim) (hF : Frame lim ρ h0 W0 ρ' h' W') : ∀ id c, ρ id = some c → ρ' id = some c := fun id c hc => by
  rw [hF.ren id ?_]; exact hc
  rcases Nat.lt_or_ge id h.next with hlt | hge
  · omega
  · rw [hC.free id (hC.next id hge)] at hc; cases hc
theorem unmask_sound {ρ' : Ren} {h' : Heap} {W' : World} (hC : Conc ρ h W) (hC' : Conc ρ' h' W') (hF : Frame h.next ρ (h.mask wr) W ρ' h' W') :
    Conc ρ' (h.unmask wr h') W' ∧ Frame h.next ρ h W ρ' (h.unmask wr h') W' := by
  have hm : ∀ id, id < h.next → id ∉ wr → h'.get id = (h.get id).lock := fun id hi hn => by
    rw [hF.keep id hi (.inr fun hmm => hn (mask_mods hmm).2)]
    simp only [Heap.mask, if_neg hn]
  have hu : ∀ id, id < h.next → id ∉ wr → (h.unmask wr h').get id = h.get id := fun id hi hn => by simp only [Heap.unmask]; rw [if_pos ⟨hi, hn⟩]
  have hu' : ∀ id, ¬ (id < h.next ∧ id ∉ wr) → (h.unmask wr h').get id = h'.get id := fun id hn => by simp only [Heap.unmask]; rw [if_neg hn]
  have hlive : ∀ id, (h.unmask wr h').lives id → h'.lives id := fun id ⟨b, hb⟩ => by
    by_cases e : id < h.next ∧ id ∉ wr
    · rw [hu id e.1 e.2] at hb
      exact ⟨b.lock, by rw [hm id e.1 e.2, hb]; rfl⟩
    · rw [hu' id e] at hb; exact ⟨b, hb⟩
  have hown : ∀ id, (h.unmask wr h').owns id → h'.owns id := fun id ⟨b, hb, hb'⟩ => by
    by_cases e : id < h.next ∧ id ∉ wr
    · rw [hu id e.1 e.2] at hb
      exact ⟨b.lock, by rw [hm id e.1 e.2, hb]; rfl, by rw [lock_own]; exact hb'⟩
    · rw [hu' id e] at hb; exact ⟨b, hb, hb'⟩
  refine ⟨⟨fun id c b hc hb => ?_, fun id id' c c' hne hc hc' ho hl => hC'.apart id id' c c' hne hc hc' (hown id ho) (hlive id' hl), fun id hi => ?_, fun id hi => ?_, hC'.lt, hC'.tab.keep (Nat.le_refl _) (fun _ _ _ => rfl) fun id c hc ho => .inr ⟨id, c, hc, hown id ho, rfl⟩⟩, ⟨hF.ren, fun id hi hk => ?_, fun b hb hno => hF.blk b hb (fun id c hc hmm => hno id c hc (mask_mods hmm).1), hF.size, hF.nx, fun id c hc hmm => ?_, hF.os, hF.tape, hF.output, hF.drawn⟩⟩
  · by_cases e : id < h.next ∧ id ∉ wr
    · rw [hu id e.1 e.2] at hb
      have hc0 : ρ id = some c := by rw [← hF.ren id e.1]; exact hc
      refine (hC.at_ id c b hc0 hb).mono (ren_le hC (Nat.le_refl _) hF) (hF.blk _ (hC.lt id c hc0) fun id0 c0 h0 hmm => ?_)
      have hmm' := mask_mods hmm
      exact hC.apart id0 id c0 c (fun e2 => e.2 (e2 ▸ hmm'.2)) h0 hc0 (Heap.owns_of_mods hmm'.1) ⟨b, hb⟩
    · rw [hu' id e] at hb; exact hC'.at_ id c b hc hb
  · by_cases e : id < h.next ∧ id ∉ wr
    · rw [hu id e.1 e.2] at hi
      refine hC'.free id ?_
      rw [hm id e.1 e.2, hi]; rfl
    · rw [hu' id e] at hi; exact hC'.free id hi
  · have : h.next ≤ h'.next := hF.nx
    have hi' : h'.next ≤ id := hi
    rw [hu' id (by omega)]; exact hC'.next id hi'
  · by_cases e : id ∉ wr
    · exact hu id hi e
    · rw [hu' id (fun x => e x.2), hF.keep id hi ?_]
      · simp only [Heap.mask, if_pos (Classical.not_not.1 e)]
      · exact hk.imp (fun h => h) (fun hk hmm => hk (mask_mods hmm).1)
  · by_cases e : id < h.next ∧ id ∉ wr
    · obtain ⟨b, hb, hb'⟩ := hmm
      rw [hu id e.1 e.2] at hb
      exact .inr ⟨id, c, by rw [← hF.ren id e.1]; exact hc, ⟨b, hb, hb'⟩, rfl⟩
    · obtain ⟨b, hb, hb'⟩ := hmm
      rw [hu' id e] at hb
      rcases hF.own id c hc ⟨b, hb, hb'⟩ with hl | ⟨id0, c0, h0, hm0, e0⟩
      · exact .inl hl
      · exact .inr ⟨id0, c0, h0, (mask_mods hm0).1, e0⟩
/-- A call, of which it is known which blocks it may write: all others are as they were. -/
theorem CallsH.frame {f : FuncId} {args : Array Value} {K : Value → Heap → Prop} (wr : List Nat) (hc : @CallsH P f args (h.mask wr) ⟨fun v h' => K v (h.unmask wr h')⟩) : @CallsH P f args h ⟨K⟩ :=
  fun ρ W args' hC ha => (hc ρ W args' hC.mask ha).mono fun e W' ⟨ρ', h', v, v', h1, h2, h3, h4, h5⟩ => by
    obtain ⟨c1, c2⟩ := unmask_sound hC h3 h4
    exact ⟨ρ', _, v, v', h1, h2, c1, c2, h5⟩
/-- The same, and where new blocks begin. -/
theorem CallsH.keep {f : FuncId} {args : Array Value} {K K0 : Value → Heap → Prop} (wr : List Nat) (hc : @CallsH P f args (h.mask wr) ⟨K0⟩)
    (hk : ∀ v h', K0 v h' → h.next ≤ h'.next → (∀ i, h'.next ≤ i → h'.get i = .free) → K v (h.unmask wr h')) : @CallsH P f args h ⟨K⟩ :=
  CallsH.frame wr fun ρ W args' hC ha => (hc ρ W args' hC ha).mono fun e W' ⟨ρ', h', v, v', h1, h2, h3, h4, h5⟩ => ⟨ρ', h', v, v', h1, h2, h3, h4, hk v h' h5 h4.nx h3.next⟩
/-! ## Whatever order is picked: what may be taken first, since nobody who writes can come before it -/
section
variable {P : Program} {ops : Array Oper} {Q : Exit → Act → World → Prop} {md : Region.Mode} {S0 : World → Prop} {rl : Nat → Bool}
def wpAnyE (P : Program) (md : Region.Mode) (ops : Array Oper) (Q : Exit → Act → World → Prop) (S0 : World → Prop) (rl : Nat → Bool) : Nat → Array Bool → (World → Prop) → Act → World → Prop
  | 0, listed, _, a, w => Region.ready md ops listed = [] ∧ Q .normal a w
  | fuel + 1, listed, S, a, w =>
    (Region.ready md ops listed = [] → Q .normal a w) ∧
    ∀ i ∈ Region.ready md ops listed, wpOp P ops Q i (fun a' w' => S0 w' ∧ ∃ S', S' w' ∧ (rl i = true → S' = S) ∧ wpAnyE P md ops Q S0 rl fuel (listed.setIfInBounds i true) S' a' w') a w
theorem wpAny_of_E : ∀ (fuel : Nat) (listed : Array Bool) (S : World → Prop) (a : Act) (w : World), wpAnyE P md ops Q S0 rl fuel listed S a w → wpAny P md ops Q fuel listed a w
  | 0, _, _, _, _, h => h
  | fuel + 1, _, _, _, _, h => ⟨h.1, fun i hi => wpOp_mono (fun a' w' ⟨_, S', _, _, h'⟩ => wpAny_of_E fuel _ S' a' w' h') (h.2 i hi)⟩
def Closed (md : Region.Mode) (ops : Array Oper) (l : Array Bool) : Prop := ∀ j o, ops[j]? = some o → l.getD j false = true → ∀ e ∈ o.after, Region.binds md e = true → l.getD e.on false = true
theorem Closed.set {l : Array Bool} (hc : Closed md ops l) {i : Nat} (hi : i ∈ Region.ready md ops l) : Closed md ops (l.setIfInBounds i true) := fun j o ho hj e he hb => by
  by_cases e1 : i = j
  · subst e1
    obtain ⟨_, o', ho', hall⟩ := mem_ready.1 hi
    rw [ho] at ho'; cases ho'
    exact getD_set_true (hall e he hb)
  · rw [getD_set_ne false e1] at hj
    exact getD_set_true (hc j o ho hj e he hb)
theorem Closed.init (n : Nat) : Closed md ops (Array.replicate n false) := fun j o ho hj => by
  rw [Array.getD_eq_getD_getElem?, Array.getElem?_replicate] at hj
  split at hj <;> simp at hj
/-- j comes behind i -/
def depB (md : Region.Mode) (ops : Array Oper) (i : Nat) : Nat → Nat → Bool
  | 0, _ => false
  | f + 1, j => (ops[j]?).any fun o => o.after.any fun e => Region.binds md e && (e.on == i || depB md ops i f e.on)
theorem dep_listed {l : Array Bool} {i : Nat} (hc : Closed md ops l) : ∀ (f j : Nat), depB md ops i f j = true → (∀ o, ops[j]? = some o → ∀ e ∈ o.after, Region.binds md e = true → l.getD e.on false = true) → l.getD i false = true
  | 0, j, h, _ => by cases h
  | f + 1, j, h, hall => by
    simp only [depB] at h
    cases ho : ops[j]? with
    | none => simp [ho] at h
    | some o =>
      simp only [ho, Option.any_some, Array.any_eq_true'] at h
      obtain ⟨e, he, h⟩ := h
      simp only [Bool.and_eq_true, Bool.or_eq_true, beq_iff_eq] at h
      have hl := hall o ho e he h.1
      rcases h.2 with h2 | h2
      · rw [← h2]; exact hl
      · exact dep_listed hc f e.on h2 fun o' ho' => hc e.on o' ho' hl
theorem dep_not_ready {l : Array Bool} {i j f : Nat} (hc : Closed md ops l) (hd : depB md ops i f j = true) (hi : l.getD i true = false) : j ∉ Region.ready md ops l := fun hj => by
  obtain ⟨_, o, ho, hall⟩ := mem_ready.1 hj
  have := dep_listed hc f j hd fun o' ho' => by rw [ho] at ho'; cases ho'; exact hall
  rw [Array.getD_eq_getD_getElem?] at this hi
  cases hg : l[i]? with
  | none => rw [hg] at this; cases this
  | some b => rw [hg] at this hi; simp at this hi; rw [this] at hi; cases hi
theorem wpAnyE_first {i : Nat} {oi : Oper} {v : Value} (hi : ops[i]? = some oi) (hsel : ∀ (j : Nat) (o : Oper) cs b, ops[j]? = some o → o.op ≠ .select cs b) (hrl : rl i = true)
    (hQ : ∀ c a w, Q (.panic c) (a.put oi.dst v) w → Q (.panic c) a w) :
    ∀ (fuel : Nat) (listed : Array Bool) (S : World → Prop) (a : Act) (w : World), Closed md ops listed →
      (∀ j oj, ops[j]? = some oj → j ≠ i → listed.getD j true = false → (∀ e ∈ oj.after, Region.binds md e = true → e.on ≠ i) → oi.apart ops oj = true) →
      i ∈ Region.ready md ops listed → (YieldsIf P ops S0 oi v a ∨ (YieldsIf P ops (fun w => S0 w ∧ S w) oi v a ∧ ∀ j oj, ops[j]? = some oj → rl j = false → listed.getD j true = false → ∃ f, depB md ops i f j = true)) → S0 w → S w →
      wpAnyE P md ops Q S0 rl fuel (listed.setIfInBounds i true) S (a.put oi.dst v) w → wpAnyE P md ops Q S0 rl (fuel + 1) listed S a w := by
  intro fuel
  have now : ∀ {S : World → Prop} {a : Act} {w : World} {l : Array Bool} {K : Act → World → Prop}, (YieldsIf P ops S0 oi v a ∨ (YieldsIf P ops (fun w => S0 w ∧ S w) oi v a ∧ ∀ j oj, ops[j]? = some oj → rl j = false → l.getD j true = false → ∃ f, depB md ops i f j = true)) → S0 w → S w → K (a.put oi.dst v) w → wpOp P ops Q i K a w := fun hy h0 h1 hK =>
    hy.elim (fun hy => hy.wpOp hi h0 hK) (fun hy => hy.1.wpOp hi ⟨h0, h1⟩ hK)
  induction fuel with
  | zero =>
    intro listed S a w hc _ hr hy hS0 hS H
    refine ⟨fun h => (by rw [h] at hr; cases hr), fun j hj => ?_⟩
    by_cases hji : j = i
    · subst hji; exact now hy hS0 hS ⟨hS0, S, hS, fun _ => rfl, H⟩
    · have := ready_mono hj hji
      rw [H.1] at this
      cases this
  | succ fuel ih =>
    intro listed S a w hc hfree hr hy hS0 hS H
    refine ⟨fun h => (by rw [h] at hr; cases hr), fun j hj => ?_⟩
    by_cases hji : j = i
    · subst hji; exact now hy hS0 hS ⟨hS0, S, hS, fun _ => rfl, H⟩
    · have h1 := H.2 j (ready_mono hj hji)
      obtain ⟨hjun, oj, hoj, hall⟩ := mem_ready.1 hj
      have hiun := (mem_ready.1 hr).1
      have hnot : ∀ e ∈ oj.after, Region.binds md e = true → e.on ≠ i := fun e he hb heq => by
        have h1 := hall e he hb
        have h0 := hiun
        rw [heq] at h1
        rcases Nat.lt_or_ge i listed.size with h' | h'
        · simp [h'] at h0 h1; rw [h0] at h1; cases h1
        · simp [Array.getElem?_eq_none h'] at h1
      have hfree' : ∀ k ok, ops[k]? = some ok → k ≠ i → (listed.setIfInBounds j true).getD k true = false →
          (∀ e ∈ ok.after, Region.binds md e = true → e.on ≠ i) → oi.apart ops ok = true := fun k ok hk hki hun hno => by
        refine hfree k ok hk hki ?_ hno
        by_cases hjk : j = k
        · subst hjk; exact hjun
        · rw [getD_set_ne true hjk] at hun; exact hun
      have fin : ∀ {S1 : World → Prop}, YieldsIf P ops S1 oi v a →
          (∀ a' S', YieldsIf P ops S1 oi v a' → (rl j = true → S' = S) → (YieldsIf P ops S0 oi v a' ∨ (YieldsIf P ops (fun w => S0 w ∧ S' w) oi v a' ∧ ∀ k ok, ops[k]? = some ok → rl k = false → (listed.setIfInBounds j true).getD k true = false → ∃ f, depB md ops i f k = true))) →
          wpOp P ops Q j (fun a' w' => S0 w' ∧ ∃ S', S' w' ∧ (rl j = true → S' = S) ∧ wpAnyE P md ops Q S0 rl (fuel + 1) (listed.setIfInBounds j true) S' a' w') a w := fun hy1 hc1 => by
        have h2 := wpOp_putIf hoj (hfree j oj hoj hji hjun hnot) (fun cs b => hsel i oi cs b hi) (fun cs b => hsel j oj cs b hoj) hQ hy1 h1
        refine wpOp_mono (fun a' w' h3 => ?_) h2
        obtain ⟨y1, y2, S', y3, y4, y5⟩ := h3
        refine ⟨y2, S', y3, y4, ih (listed.setIfInBounds j true) S' a' w' (hc.set hj) hfree' (ready_mono hr (Ne.symm hji)) (hc1 a' S' y1 y4) y2 y3 ?_⟩
        rw [Array.setIfInBounds_comm _ _ hji]
        exact y5
      rcases hy with hy | ⟨hy, hdep⟩
      · exact fin hy fun a' S' y _ => .inl y
      · have hrlj : rl j = true := by
          cases hr2 : rl j with
          | true => rfl
          | false =>
            obtain ⟨f, hd⟩ := hdep j oj hoj hr2 hjun
            exact absurd hj (dep_not_ready hc hd hiun)
        refine fin hy fun a' S' y hS' => .inr ⟨by rw [hS' hrlj]; exact y, fun k ok hok hk hun => hdep k ok hok hk ?_⟩
        by_cases hjk : j = k
        · subst hjk; exact hjun
        · rw [getD_set_ne true hjk] at hun; exact hun
theorem wpAnyE_done {listed : Array Bool} {S : World → Prop} {a : Act} {w : World} (hr : Region.ready md ops listed = []) (h : Q .normal a w) : ∀ fuel, wpAnyE P md ops Q S0 rl fuel listed S a w
  | 0 => ⟨hr, h⟩
  | _ + 1 => ⟨fun _ => h, by rw [hr]; simp⟩
end
/-! ## A region that draws its order, by a plan: what may be taken first; what comes up -/
inductive Plan where
  | done
  | take (i : Nat) (p : Plan)
  | takeS (i : Nat) (p : Plan)
  | alt (i : Nat) (p more : Plan)
  | stop
def Plan.alts : Plan → List Nat
  | .alt i _ m => i :: m.alts
  | _ => []
def depAll (P : Program) (ops : Array Oper) (l : Array Bool) (i : Nat) : Bool := (List.range ops.size).all fun j => l.getD j true || (ops[j]?).any (rlOp P) || depB .any ops i ops.size j
def okPlan (P : Program) (ops : Array Oper) : Bool → Nat → Array Bool → Plan → Bool
  | _, _, l, .done => Region.ready .any ops l == []
  | _, f + 1, l, .take i p => (ops[i]?).any (rlOp P) && Region.free .any ops l i && (Region.ready .any ops l).contains i && okPlan P ops false f (l.setIfInBounds i true) p
  | _, f + 1, l, .takeS i p => (ops[i]?).any (rlOp P) && Region.free .any ops l i && (Region.ready .any ops l).contains i && depAll P ops l i && okPlan P ops false f (l.setIfInBounds i true) p
  | m, f + 1, l, .alt i p q => (m || Region.ready .any ops l == i :: q.alts) && okPlan P ops false f (l.setIfInBounds i true) p && okPlan P ops true (f + 1) l q
  | m, _, _, .stop => m
  | _, 0, _, _ => false
def fixedAt (s : Slot) : Prop := match s with | .live b => b.mod = false | _ => False
def accOk (o : Oper) (r : Regs) (h0 : Heap) : Prop := match accOf o r with | some id => id < h0.next ∧ fixedAt (h0.get id) | none => True
def one (P : Program) (ops : Array Oper) (o : Oper) (K : Kt) (r : Regs) (h : Heap) : Prop :=
  match o.guard with
  | none => step P o K r h
  | some (j, want) => @gate3 (rd r (gdst ops j)) want ⟨step P o K (upd r (gdst ops j) (.bool want)) h⟩ ⟨fun _ => K (upd (upd r (gdst ops j) (.bool !want)) o.dst undef) h⟩ ⟨fun _ => K (upd r o.dst undef) h⟩
def vcPlan (P : Program) (ops : Array Oper) (h0 : Heap) (K : Kt) : Plan → Kt
  | .done, r, h => K r h
  | .take i p, r, h => @onSome _ ops[i]? ⟨fun o => @also (accOk o r h0) ⟨one P ops o (vcPlan P ops h0 K p) r h⟩⟩
  | .takeS i p, r, h => @onSome _ ops[i]? ⟨fun o => one P ops o (vcPlan P ops h0 K p) r h⟩
  | .alt i p q, r, h => @onSome _ ops[i]? ⟨fun o => one P ops o (vcPlan P ops h0 K p) r h ∧ vcPlan P ops h0 K q r h⟩
  | .stop, _, _ => True
theorem one_inv {ops : Array Oper} {K : Kt} (hr : RRel n lo W ρ r a) (hs : one P ops o K r h) : (Region.wanted o (yielded ops a.tmps) = true ∧ step P o K r h) ∨ (Region.wanted o (yielded ops a.tmps) = false ∧ K (upd r o.dst undef) h) := by
  unfold one at hs
  cases hg : o.guard with
  | none => rw [hg] at hs; exact .inl ⟨by simp [Region.wanted, hg], hs⟩
  | some p =>
    obtain ⟨j, want⟩ := p
    rw [hg] at hs
    rcases gate3_inv hs with ⟨b, hb, hv⟩ | ⟨hu, hv⟩
    case inr => exact .inr ⟨by simp [Region.wanted, hg, yielded_undef hr hu], hv⟩
    obtain ⟨hy, hu⟩ := yielded_of hr hb
    by_cases e : b = want
    · subst e
      rw [if_pos rfl, hu] at hv
      exact .inl ⟨by simp [Region.wanted, hg, hy], hv⟩
    · rw [if_neg e] at hv
      have e2 : (!want) = b := by cases b <;> cases want <;> simp at e ⊢
      rw [e2, hu] at hv
      exact .inr ⟨by simp [Region.wanted, hg, hy, e], hv⟩
def Held (ρ0 : Ren) (h0 : Heap) (W0 W' : World) : Prop := ∀ b, b < W0.heap.size → (∀ id c, ρ0 id = some c → h0.mods id → c.blk ≠ b) → W'.heap[b]? = W0.heap[b]?
def SameW (W W' : World) : Prop := ∀ b, b < W.heap.size → W'.heap[b]? = W.heap[b]?
theorem plan_sound {ops : Array Oper} (hsel : Region.noSelect ops = true) (hok : ∀ o ∈ ops.toList, okOper n o = true) {ρ0 : Ren} {h0 : Heap} {W0 : World} (hC0 : Conc ρ0 h0 W0) {K : Kt} {Q : Exit → Act → World → Prop}
    (hQ : ∀ a' W', Lf n lo h0.next ρ0 h0 W0 K a' W' → Q .normal a' W') (hP : ∀ c a w, ¬ Q (.panic c) a w) :
    ∀ (p : Plan) (m : Bool) (f : Nat) (l : Array Bool) (r : Regs) (h : Heap) (ρ : Ren) (W : World) (a : Act), okPlan P ops m f l p = true → vcPlan P ops h0 K p r h → Conc ρ h W → RRel n lo W ρ r a → Frame h0.next ρ0 h0 W0 ρ h W → h0.next ≤ h.next → Closed .any ops l →
      (m = false → wpAnyE P .any ops Q (Held ρ0 h0 W0) (fun i => (ops[i]?).any (rlOp P)) f l (SameW W) a W) ∧ (∀ f', f = f' + 1 → ∀ i ∈ p.alts, i ∈ Region.ready .any ops l → wpOp P ops Q i (fun a' w' => Held ρ0 h0 W0 w' ∧ ∃ S', S' w' ∧ ((ops[i]?).any (rlOp P) = true → S' = SameW W) ∧ wpAnyE P .any ops Q (Held ρ0 h0 W0) (fun i => (ops[i]?).any (rlOp P)) f' (l.setIfInBounds i true) S' a' w') a W) := by
  have hmem : ∀ (i : Nat) (o : Oper), ops[i]? = some o → okOper n o = true := fun i o ho => hok o (by simpa using Array.mem_of_getElem? ho)
  intro p
  induction p with
  | done =>
    intro m f l r h ρ W a hp hv hC hr hF hn hcl
    have hp' : Region.ready .any ops l = [] := by cases f <;> simpa [okPlan] using hp
    exact ⟨fun _ => wpAnyE_done hp' (hQ _ _ ⟨ρ, r, h, hC, hr, hF, hv⟩) f, fun _ _ i hi => by cases hi⟩
  | stop =>
    intro m f l r h ρ W a hp hv hC hr hF hn hcl
    have hp' : m = true := by cases f <;> simpa [okPlan] using hp
    exact ⟨(fun h => by rw [h] at hp'; cases hp'), fun _ _ i hi => by cases hi⟩
  | take i p ih =>
    intro m f l r h ρ W a hp hv hC hr hF hn hcl
    refine ⟨fun _ => ?_, fun _ _ i hi => by cases hi⟩
    cases f with
    | zero => cases m <;> cases hp
    | succ f =>
      simp only [okPlan, Bool.and_eq_true] at hp
      obtain ⟨⟨⟨p1, p2⟩, p3⟩, p4⟩ := hp
      cases ho : ops[i]? with
      | none => simp [ho] at p1
      | some o =>
        simp only [vcPlan, ho, onSome] at hv
        obtain ⟨hacc, hone⟩ := hv
        have hrl : rlOp P o = true := by simpa [ho] using p1
        have hrlb : (ops[i]?).any (rlOp P) = true := p1
        have hri : i ∈ Region.ready .any ops l := by simpa using p3
        have hS : Held ρ0 h0 W0 W := fun b hb hno => hF.blk b hb hno
        rcases one_inv hr hone with ⟨hw, hs⟩ | ⟨hw, hs⟩
        · obtain ⟨v, v', h1, h2, h3⟩ := rl_held hC hr (hmem i o ho) hrl hs
          have hr' := hr.put h2 (okOper_dst (hmem i o ho))
          refine wpAnyE_first ho (Region.noSelect_spec hsel) hrlb (fun c a w hq => absurd hq (hP _ _ _)) f l _ a W hcl (Region.free_spec ho p2) hri (.inl (.inl ⟨hw, fun w hSw => h1 w fun id c hid hc => ?_⟩)) hS (fun _ _ => rfl) ((ih false f _ _ _ _ _ _ p4 h3 hC hr' hF hn (hcl.set hri)).1 rfl)
          unfold accOk at hacc
          rw [hid] at hacc
          obtain ⟨q1, q2⟩ := hacc
          have hc0 : ρ0 id = some c := by rw [← hF.ren id q1]; exact hc
          have hlv : ∃ b, h0.get id = .live b ∧ b.mod = false := by
            unfold fixedAt at q2
            split at q2
            · exact ⟨_, by assumption, q2⟩
            · exact q2.elim
          obtain ⟨b, hb, hbm⟩ := hlv
          have hno : ∀ id' c', ρ0 id' = some c' → h0.mods id' → c'.blk ≠ c.blk := fun id' c' hc' hm' =>
            hC0.apart id' id c' c (fun e => by subst e; obtain ⟨b', hb', hbm'⟩ := hm'; rw [hb] at hb'; cases hb'; rw [hbm] at hbm'; cases hbm') hc' hc0 (Heap.owns_of_mods hm') ⟨b, hb⟩
          exact (hSw _ (hC0.lt _ _ hc0) hno).trans (hS _ (hC0.lt _ _ hc0) hno).symm
        · have hr' := hr.put undef_rel (okOper_dst (hmem i o ho))
          exact wpAnyE_first ho (Region.noSelect_spec hsel) hrlb (fun c a w hq => absurd hq (hP _ _ _)) f l _ a W hcl (Region.free_spec ho p2) hri (.inl (.inr ⟨hw, rfl⟩)) hS (fun _ _ => rfl) ((ih false f _ _ _ _ _ _ p4 hs hC hr' hF hn (hcl.set hri)).1 rfl)
  | takeS i p ih =>
    intro m f l r h ρ W a hp hv hC hr hF hn hcl
    refine ⟨fun _ => ?_, fun _ _ i hi => by cases hi⟩
    cases f with
    | zero => cases m <;> cases hp
    | succ f =>
      simp only [okPlan, Bool.and_eq_true] at hp
      obtain ⟨⟨⟨⟨p1, p2⟩, p3⟩, p5⟩, p4⟩ := hp
      cases ho : ops[i]? with
      | none => simp [ho] at p1
      | some o =>
        simp only [vcPlan, ho, onSome] at hv
        have hone := hv
        have hdep : ∀ j oj, ops[j]? = some oj → (ops[j]?).any (rlOp P) = false → l.getD j true = false → ∃ f, depB .any ops i f j = true := fun j oj hoj hj hun => by
          have := List.all_eq_true.1 p5 j (List.mem_range.2 (Array.getElem?_eq_some_iff.1 hoj).1)
          simp only [hj, hun, Bool.false_or] at this
          exact ⟨_, this⟩
        have hrl : rlOp P o = true := by simpa [ho] using p1
        have hrlb : (ops[i]?).any (rlOp P) = true := p1
        have hri : i ∈ Region.ready .any ops l := by simpa using p3
        have hS : Held ρ0 h0 W0 W := fun b hb hno => hF.blk b hb hno
        rcases one_inv hr hone with ⟨hw, hs⟩ | ⟨hw, hs⟩
        · obtain ⟨v, v', h1, h2, h3⟩ := rl_held hC hr (hmem i o ho) hrl hs
          have hr' := hr.put h2 (okOper_dst (hmem i o ho))
          exact wpAnyE_first ho (Region.noSelect_spec hsel) hrlb (fun c a w hq => absurd hq (hP _ _ _)) f l _ a W hcl (Region.free_spec ho p2) hri (.inr ⟨.inl ⟨hw, fun w hSw => h1 w fun id c hid hc => hSw.2 _ (hC.lt _ _ hc)⟩, hdep⟩) hS (fun _ _ => rfl) ((ih false f _ _ _ _ _ _ p4 h3 hC hr' hF hn (hcl.set hri)).1 rfl)
        · have hr' := hr.put undef_rel (okOper_dst (hmem i o ho))
          exact wpAnyE_first ho (Region.noSelect_spec hsel) hrlb (fun c a w hq => absurd hq (hP _ _ _)) f l _ a W hcl (Region.free_spec ho p2) hri (.inl (.inr ⟨hw, rfl⟩)) hS (fun _ _ => rfl) ((ih false f _ _ _ _ _ _ p4 hs hC hr' hF hn (hcl.set hri)).1 rfl)
  | alt i p q ihp ihq =>
    intro m f l r h ρ W a hp hv hC hr hF hn hcl
    cases f with
    | zero => cases m <;> cases hp
    | succ f =>
      simp only [okPlan, Bool.and_eq_true, Bool.or_eq_true, beq_iff_eq] at hp
      obtain ⟨⟨p1, p2⟩, p3⟩ := hp
      cases ho : ops[i]? with
      | none => simp [vcPlan, ho, onSome] at hv
      | some o =>
        simp only [vcPlan, ho, onSome] at hv
        obtain ⟨hone, hrest⟩ := hv
        have hq := ihq true (f + 1) l r h ρ W a p3 hrest hC hr hF hn hcl
        have hall : ∀ k ∈ (Plan.alt i p q).alts, k ∈ Region.ready .any ops l → wpOp P ops Q k (fun a' w' => Held ρ0 h0 W0 w' ∧ ∃ S', S' w' ∧ ((ops[k]?).any (rlOp P) = true → S' = SameW W) ∧ wpAnyE P .any ops Q (Held ρ0 h0 W0) (fun i => (ops[i]?).any (rlOp P)) f (l.setIfInBounds k true) S' a' w') a W := fun k hk hkr => by
          simp only [Plan.alts, List.mem_cons] at hk
          rcases hk with rfl | hk
          · unfold wpOp
            simp only [ho]
            rcases one_inv hr hone with ⟨hw, hs⟩ | ⟨hw, hs⟩
            · rw [if_pos hw]
              refine .inl ?_
              by_cases hrl : rlOp P o = true
              · obtain ⟨v, v', h1, h2, h3⟩ := rl_held hC hr (hmem k o ho) hrl hs
                have hr' := hr.put h2 (okOper_dst (hmem k o ho))
                unfold Oper.wp
                rw [h1 W fun _ _ _ _ => rfl]
                exact ⟨fun b hb hno => hF.blk b hb hno, SameW W, fun _ _ => rfl, fun _ => rfl, (ihp false f _ _ h ρ W _ p2 h3 hC hr' hF hn (hcl.set hkr)).1 rfl⟩
              · refine (Oper.wp_mono (fun a' W' hL => ?_) (step_sound hC hr (hmem k o ho) hs Q))
                obtain ⟨ρ', r', h', c1, c2, c3, c4⟩ := hL
                have hF' := hF.trans (c3.mono hn)
                exact ⟨fun b hb hno => hF'.blk b hb hno, SameW W', fun _ _ => rfl, fun he => absurd (by simpa using he) hrl, (ihp false f _ r' h' ρ' W' a' p2 c4 c1 c2 hF' (Nat.le_trans hn c3.nx) (hcl.set hkr)).1 rfl⟩
            · rw [if_neg (by rw [hw]; simp)]
              have hr' := hr.put undef_rel (okOper_dst (hmem k o ho))
              exact ⟨fun b hb hno => hF.blk b hb hno, SameW W, fun _ _ => rfl, fun _ => rfl, (ihp false f _ _ h ρ W _ p2 hs hC hr' hF hn (hcl.set hkr)).1 rfl⟩
          · exact hq.2 f rfl k hk hkr
        refine ⟨fun hm => ?_, fun f' hf' k hk hkr => by cases hf'; exact hall k hk hkr⟩
        subst hm
        have hready : Region.ready .any ops l = (Plan.alt i p q).alts := by simpa [Plan.alts] using p1
        exact ⟨fun h0 => by rw [h0] at hready; simp [Plan.alts] at hready, fun k hk => hall k (by rw [← hready]; exact hk) hk⟩
/-- A region that draws its order, by a plan, and by the blocks that may be written in it. -/
theorem region_plan (hm : P.follows .mixedOrders = true) {ops : Array Oper} {K : Kt} (wr : List Nat) (p : Plan) (hp : (Region.noSelect ops && okPlan P ops false ops.size (Array.replicate ops.size false) p) = true)
    (hv : vcPlan P ops (h.mask wr) (fun r' h' => K r' (h.unmask wr h')) p r (h.mask wr)) : RegionH P ops K r h := by
  intro n id hok ro lo ρ W a hro hlo hC hr0
  simp only [okCode, Bool.and_eq_true] at hok
  simp only [Bool.and_eq_true] at hp
  have hops : ∀ o ∈ ops.toList, okOper n o = true := fun o ho => Array.all_eq_true'.1 hok.1 o (by simpa using ho)
  have hd : ∀ o ∈ ops, ∀ c, o.op ≠ .defer c := fun o ho => okOper_defer (Array.all_eq_true'.1 hok.1 o ho)
  refine wpIn_region_any hm (wpAnyIn_of_wp hd lq_out _ _ _ _ (wpAny_of_E (S0 := Held ρ (h.mask wr) { W with drawn := W.drawn + 1 }) (rl := fun i => (ops[i]?).any (rlOp P)) _ _ (SameW { W with drawn := W.drawn + 1 }) _ _ ?_))
  have hC1 : Conc ρ h { W with drawn := W.drawn + 1 } := hC.drew _
  have hr : RRel n lo { W with drawn := W.drawn + 1 } ρ r a := ⟨hr0.1.mono fun q h => h, hr0.2⟩
  refine (plan_sound hp.1 hops hC1.mask (K := fun r' h' => K r' (h.unmask wr h')) (fun a' W' hL => ?_) (fun c a w hq => ?_) p false _ _ r _ ρ _ a hp.2 hv hC1.mask hr (Frame.refl _ _ _ _) (Nat.le_refl _) (Closed.init _)).1 rfl
  · obtain ⟨ρ', r', h', c1, c2, c3, c4⟩ := hL
    obtain ⟨d1, d2⟩ := unmask_sound hC1 c1 c3
    exact ⟨.normal, trivial, ρ', r', _, d1, c2, (Frame.drew W _).trans d2, c4⟩
  · obtain ⟨x, hx, _⟩ := hq
    cases x <;> exact hx
/-- The same, and all blocks may be written that could be. -/
theorem region_plan0 (hm : P.follows .mixedOrders = true) {ops : Array Oper} {K : Kt} (p : Plan) (hp : (Region.noSelect ops && okPlan P ops false ops.size (Array.replicate ops.size false) p) = true)
    (hv : vcPlan P ops h K p r h) : RegionH P ops K r h := by
  intro n id hok ro lo ρ W a hro hlo hC hr0
  simp only [okCode, Bool.and_eq_true] at hok
  simp only [Bool.and_eq_true] at hp
  have hops : ∀ o ∈ ops.toList, okOper n o = true := fun o ho => Array.all_eq_true'.1 hok.1 o (by simpa using ho)
  have hd : ∀ o ∈ ops, ∀ c, o.op ≠ .defer c := fun o ho => okOper_defer (Array.all_eq_true'.1 hok.1 o ho)
  refine wpIn_region_any hm (wpAnyIn_of_wp hd lq_out _ _ _ _ (wpAny_of_E (S0 := Held ρ h { W with drawn := W.drawn + 1 }) (rl := fun i => (ops[i]?).any (rlOp P)) _ _ (SameW { W with drawn := W.drawn + 1 }) _ _ ?_))
  have hC1 : Conc ρ h { W with drawn := W.drawn + 1 } := hC.drew _
  have hr : RRel n lo { W with drawn := W.drawn + 1 } ρ r a := ⟨hr0.1.mono fun q h => h, hr0.2⟩
  refine (plan_sound hp.1 hops hC1 (K := K) (fun a' W' hL => ?_) (fun c a w hq => ?_) p false _ _ r _ ρ _ a hp.2 hv hC1 hr (Frame.refl _ _ _ _) (Nat.le_refl _) (Closed.init _)).1 rfl
  · obtain ⟨ρ', r', h', c1, c2, c3, c4⟩ := hL
    exact ⟨.normal, trivial, ρ', r', _, c1, c2, (Frame.drew W _).trans c3, c4⟩
  · obtain ⟨x, hx, _⟩ := hq
    cases x <;> exact hx
theorem draw_plan0 {pl : List Nat} {l : List Oper} {id : Nat} {K : Kt} (p : Plan) (hm : P.follows .mixedOrders = true) (hn : (qList P l && !inP id pl) = false)
    (hp : (Region.noSelect l.toArray && okPlan P l.toArray false l.length (Array.replicate l.length false) p) = true)
    (hv : vcPlan P l.toArray h K p r h) : @Draw P pl id l r h ⟨K⟩ := by
  show (if _ then _ else _)
  rw [if_neg (by rw [hn]; simp)]
  exact region_plan0 hm p (by simpa using hp) hv
theorem draw_plan {pl : List Nat} {l : List Oper} {id : Nat} {K : Kt} (wr : List Nat) (p : Plan) (hm : P.follows .mixedOrders = true) (hn : (qList P l && !inP id pl) = false)
    (hp : (Region.noSelect l.toArray && okPlan P l.toArray false l.length (Array.replicate l.length false) p) = true)
    (hv : vcPlan P l.toArray (h.mask wr) (fun r' h' => K r' (h.unmask wr h')) p r (h.mask wr)) : @Draw P pl id l r h ⟨K⟩ := by
  show (if _ then _ else _)
  rw [if_neg (by rw [hn]; simp)]
  exact region_plan hm wr p (by simpa using hp) hv
theorem RegionH.mono {ops : Array Oper} {K K' : Kt} (hk : ∀ r h, K r h → K' r h) (hr : RegionH P ops K r h) : RegionH P ops K' r h := by
  intro n id hok ro lo ρ W a hro hlo hC hrr
  refine wpIn_mono (hr n id hok ro lo ρ W a hro hlo hC hrr) (fun e a' W' hq => ?_)
  obtain ⟨x, hx, ρ', r', h', c1, c2, c3, c4⟩ := hq
  refine ⟨x, hx, ρ', r', h', c1, c2, c3, ?_⟩
  cases x with
  | normal => exact hk _ _ c4
  | exit i => exact c4
  | ret => exact c4
/-- The same, and what is known at the region's end is said once for all orders. -/
theorem draw_cut {pl : List Nat} {l : List Oper} {id : Nat} {K : Kt} (R : Kt) (wr : List Nat) (p : Plan) (hm : P.follows .mixedOrders = true) (hn : (qList P l && !inP id pl) = false)
    (hp : (Region.noSelect l.toArray && okPlan P l.toArray false l.length (Array.replicate l.length false) p) = true)
    (hv : vcPlan P l.toArray (h.mask wr) (fun r' h' => R r' (h.unmask wr h')) p r (h.mask wr)) (hk : ∀ r h, R r h → K r h) : @Draw P pl id l r h ⟨K⟩ := by
  show (if _ then _ else _)
  rw [if_neg (by rw [hn]; simp)]
  exact (region_plan hm wr p (by simpa using hp) hv).mono hk
end
section
variable {P : Program} {ops : Array Oper} {h0 : Heap} {K : Kt} {r : Regs} {h : Heap}
theorem pl_done : vcPlan P ops h0 K .done r h = K r h := Eq.trans rfl rfl
theorem pl_take {i p} : vcPlan P ops h0 K (.take i p) r h = @onSome _ ops[i]? ⟨fun o => @also (accOk o r h0) ⟨one P ops o (vcPlan P ops h0 K p) r h⟩⟩ := Eq.trans rfl rfl
theorem pl_takeS {i p} : vcPlan P ops h0 K (.takeS i p) r h = @onSome _ ops[i]? ⟨fun o => one P ops o (vcPlan P ops h0 K p) r h⟩ := Eq.trans rfl rfl
theorem pl_alt {i p q} : vcPlan P ops h0 K (.alt i p q) r h = @onSome _ ops[i]? ⟨fun o => one P ops o (vcPlan P ops h0 K p) r h ∧ vcPlan P ops h0 K q r h⟩ := Eq.trans rfl rfl
theorem pl_stop : vcPlan P ops h0 K .stop r h = True := Eq.trans rfl rfl
theorem one_plain {d op ty pos af} : one P ops ⟨d, op, ty, pos, af, none⟩ K r h = step P ⟨d, op, ty, pos, af, none⟩ K r h := Eq.trans rfl rfl
theorem one_gate {d op ty pos af j want} : one P ops ⟨d, op, ty, pos, af, some (j, want)⟩ K r h = @gate3 (rd r (gdst ops j)) want ⟨step P ⟨d, op, ty, pos, af, some (j, want)⟩ K (upd r (gdst ops j) (.bool want)) h⟩ ⟨fun _ => K (upd (upd r (gdst ops j) (.bool !want)) d undef) h⟩ ⟨fun _ => K (upd r d undef) h⟩ := Eq.trans rfl rfl
theorem get_mask {wr i} : (h.mask wr).get i = if i ∈ wr then h.get i else (h.get i).lock := Eq.trans rfl rfl
theorem next_mask {wr} : (h.mask wr).next = h.next := Eq.trans rfl rfl
theorem get_unmask {wr h' i} : (h.unmask wr h').get i = if i < h.next ∧ i ∉ wr then h.get i else h'.get i := Eq.trans rfl rfl
theorem next_unmask {wr h'} : (h.unmask wr h').next = h'.next := Eq.trans rfl rfl
def accP (v : Value) (h0 : Heap) : Prop := match v with | .pointer (some a) => a.block < h0.next ∧ fixedAt (h0.get a.block) | _ => True
def accS (v : Value) (h0 : Heap) : Prop := match v with | .slice (some a) _ _ => a.block < h0.next ∧ fixedAt (h0.get a.block) | _ => True
section
variable {d : Option Nat} {ty : Nat} {pos : String} {af : Array Edge} {g : Option (Nat × Bool)}
theorem ac_move {x} : accOk ⟨d, .move x, ty, pos, af, g⟩ r h0 = True := Eq.trans rfl rfl
theorem ac_assign {x} : accOk ⟨d, .assign x, ty, pos, af, g⟩ r h0 = True := Eq.trans rfl rfl
theorem ac_pick {c a b} : accOk ⟨d, .pick c a b, ty, pos, af, g⟩ r h0 = True := Eq.trans rfl rfl
theorem ac_nil {x} : accOk ⟨d, .nilCheck x, ty, pos, af, g⟩ r h0 = True := Eq.trans rfl rfl
theorem ac_bin {o t x y u} : accOk ⟨d, .binOp o t x y u, ty, pos, af, g⟩ r h0 = True := Eq.trans rfl rfl
theorem ac_un {o t x} : accOk ⟨d, .unOp o t x, ty, pos, af, g⟩ r h0 = True := Eq.trans rfl rfl
theorem ac_fa {t x f} : accOk ⟨d, .fieldAddr t x f, ty, pos, af, g⟩ r h0 = True := Eq.trans rfl rfl
theorem ac_field {t x f} : accOk ⟨d, .field t x f, ty, pos, af, g⟩ r h0 = True := Eq.trans rfl rfl
theorem ac_ext {x i} : accOk ⟨d, .extract x i, ty, pos, af, g⟩ r h0 = True := Eq.trans rfl rfl
theorem ac_ia {t x i} : accOk ⟨d, .indexAddr t x i, ty, pos, af, g⟩ r h0 = True := Eq.trans rfl rfl
theorem ac_ix {t x i} : accOk ⟨d, .index t x i, ty, pos, af, g⟩ r h0 = True := Eq.trans rfl rfl
theorem ac_slice {t x a b c} : accOk ⟨d, .slice t x a b c, ty, pos, af, g⟩ r h0 = True := Eq.trans rfl rfl
theorem ac_build {t p} : accOk ⟨d, .build t p, ty, pos, af, g⟩ r h0 = True := Eq.trans rfl rfl
theorem ac_mf {f x c} : accOk ⟨d, .makeFunc f x c, ty, pos, af, g⟩ r h0 = True := Eq.trans rfl rfl
def accM (v : Value) (h0 : Heap) : Prop := match v with | .map (some id) => id < h0.next ∧ fixedAt (h0.get id) | _ => True
theorem ac_len {args ts} : accOk ⟨d, .call { callee := .builtin .len, args := args, argTypes := ts }, ty, pos, af, g⟩ r h0 = accM (ev r (args.getD 0 (.tmp 0))) h0 := by
  unfold accOk accOf accM; simp only []; cases ev r (args.getD 0 (.tmp 0)) with
  | map m => cases m <;> rfl
  | _ => rfl
theorem ac_lk {t x k ok} : accOk ⟨d, .lookup t x k ok, ty, pos, af, g⟩ r h0 = accM (ev r x) h0 := by
  unfold accOk accOf accM; simp only []; cases ev r x with
  | map m => cases m <;> rfl
  | _ => rfl
theorem accM_m {id} : accM (.map (some id)) h0 = (id < h0.next ∧ fixedAt (h0.get id)) := Eq.trans rfl rfl
theorem accM_n : accM (.map none) h0 = True := Eq.trans rfl rfl
theorem accM_s {a n m} : accM (.slice a n m) h0 = True := Eq.trans rfl rfl
theorem accM_t {s} : accM (.string s) h0 = True := Eq.trans rfl rfl
theorem ac_cap {args ts} : accOk ⟨d, .call { callee := .builtin .cap, args := args, argTypes := ts }, ty, pos, af, g⟩ r h0 = True := Eq.trans rfl rfl
theorem ac_min {args ts} : accOk ⟨d, .call { callee := .builtin .min, args := args, argTypes := ts }, ty, pos, af, g⟩ r h0 = True := Eq.trans rfl rfl
theorem ac_max {args ts} : accOk ⟨d, .call { callee := .builtin .max, args := args, argTypes := ts }, ty, pos, af, g⟩ r h0 = True := Eq.trans rfl rfl
theorem ac_call {f args ts} : accOk ⟨d, .call { callee := .value f, args := args, argTypes := ts }, ty, pos, af, g⟩ r h0 = True := Eq.trans rfl rfl
theorem ac_load {t x} : accOk ⟨d, .load t x, ty, pos, af, g⟩ r h0 = accP (ev r x) h0 := by
  unfold accOk accOf accP; simp only []; cases ev r x with
  | pointer a => cases a <;> rfl
  | _ => rfl
theorem ac_conv {s t x} : accOk ⟨d, .convert s t x, ty, pos, af, g⟩ r h0 = accS (ev r x) h0 := by
  unfold accOk accOf accS; simp only []; cases ev r x with
  | slice a => cases a <;> rfl
  | _ => rfl
end
theorem accP_p {a} : accP (.pointer (some a)) h0 = (a.block < h0.next ∧ fixedAt (h0.get a.block)) := Eq.trans rfl rfl
theorem accS_s {a n m} : accS (.slice (some a) n m) h0 = (a.block < h0.next ∧ fixedAt (h0.get a.block)) := Eq.trans rfl rfl
theorem accS_n {n m} : accS (.slice none n m) h0 = True := Eq.trans rfl rfl
theorem accS_i {k n} : accS (.int k n) h0 = True := Eq.trans rfl rfl
theorem accS_t {s} : accS (.string s) h0 = True := Eq.trans rfl rfl
theorem fixed_lk {vs} {o : Own} : fixedAt (.live (.cells vs o.lk)) = True := by cases o <;> simp [fixedAt, Blk.mod, Own.lk]
theorem fixed_ro {vs} : fixedAt (.live (.cells vs .ro)) = True := by simp [fixedAt, Blk.mod]
theorem fixed_lock {vs} : fixedAt (.live (.cells vs .lock)) = True := by simp [fixedAt, Blk.mod]
theorem fixed_own {vs} : fixedAt (.live (.cells vs .own)) = False := by simp [fixedAt, Blk.mod]
end
/-! ## A plan, found: what is ready and free is taken at once -/
def autoPlan (P : Program) (ops : Array Oper) (no : List Nat) : Nat → Array Bool → Plan
  | 0, _ => .done
  | f + 1, l =>
    let rs := Region.ready .any ops l
    match rs with
    | [] => .done
    | _ => match rs.find? fun i => (ops[i]?).any (rlOp P) && Region.free .any ops l i && depAll P ops l i with
      | some i => .takeS i (autoPlan P ops no f (l.setIfInBounds i true))
      | none => match rs.find? fun i => !no.contains i && (ops[i]?).any (rlOp P) && Region.free .any ops l i with
      | some i => .take i (autoPlan P ops no f (l.setIfInBounds i true))
      | none => rs.foldr (fun i q => .alt i (autoPlan P ops no f (l.setIfInBounds i true)) q) .stop
def Plan.nats : Plan → List Nat
  | .done => [1]
  | .take i p => 2 :: i :: p.nats
  | .alt i p q => 3 :: i :: (p.nats ++ q.nats)
  | .stop => [4]
  | .takeS i p => 5 :: i :: p.nats
def regionOf (id : Nat) : Code → Option (Array Oper)
  | .region i ops _ => if i = id then some ops else none
  | .seq a b => (regionOf id a).orElse fun _ => regionOf id b
  | .cond _ a b => (regionOf id a).orElse fun _ => regionOf id b
  | .block _ c | .loop c | .scope c => regionOf id c
  | .rangeFunc _ _ a b => (regionOf id a).orElse fun _ => regionOf id b
  | _ => none
def bitsOf : Nat → Nat → Nat → List Nat
  | 0, _, _ => []
  | k + 1, i, n => if n % 2 = 1 then i :: bitsOf k (i + 1) (n / 2) else bitsOf k (i + 1) (n / 2)
def planNat (P : Program) (f id no : Nat) : Nat :=
  match (P.funcs[f]?).bind fun fn => fn.body.bind (regionOf id) with
  | some ops => (autoPlan P ops (bitsOf 40 0 no) ops.size (Array.replicate ops.size false)).nats.foldl (fun n i => n * 1000 + i) (if okPlan P ops false ops.size (Array.replicate ops.size false) (autoPlan P ops (bitsOf 40 0 no) ops.size (Array.replicate ops.size false)) then 1 else 2)
  | none => 0
end Ph
