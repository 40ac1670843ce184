import Derived.Test.YtcbgjjbbeeoekaaDoorPhRange
set_option linter.unusedVariables false
namespace Ph
open Go
/-! ## Rows of things of so many cells each -/
structure Enc (α : Type) where
  k : Nat
  enc : α → List Value
  len : ∀ x, (enc x).length = k
  one : ∀ x, (enc x).all (·.oneCell') = true
section
variable {α : Type} {E : Enc α}
def Enc.flat (E : Enc α) (l : List α) : List Value := l.flatMap E.enc
theorem flat_nil : E.flat [] = [] := rfl
theorem flat_cons {x : α} {l : List α} : E.flat (x :: l) = E.enc x ++ E.flat l := by simp [Enc.flat]
theorem flat_app {l m : List α} : E.flat (l ++ m) = E.flat l ++ E.flat m := by simp [Enc.flat]
theorem flat_sing {x : α} : E.flat [x] = E.enc x := by simp [Enc.flat]
theorem flat_len (l : List α) : (E.flat l).length = l.length * E.k := by
  induction l with
  | nil => simp [Enc.flat]
  | cons x l ih => rw [flat_cons, List.length_append, E.len, ih, List.length_cons, Nat.succ_mul, Nat.add_comm]
theorem flat_one (l : List α) : (E.flat l).all (·.oneCell') = true := by
  induction l with
  | nil => rfl
  | cons x l ih => rw [flat_cons, List.all_append, E.one, ih]; rfl
theorem flat_drop (l : List α) (i : Nat) : (E.flat l).drop (i * E.k) = E.flat (l.drop i) := by
  induction i generalizing l with
  | zero => simp
  | succ i ih =>
    cases l with
    | nil => simp [Enc.flat]
    | cons x l =>
      have e : (E.enc x ++ E.flat l).drop E.k = E.flat l := by
        rw [List.drop_append, E.len, Nat.sub_self, List.drop_zero, List.drop_of_length_le (by rw [E.len]; exact Nat.le_refl _), List.nil_append]
      rw [flat_cons, Nat.succ_mul, Nat.add_comm, ← List.drop_drop, e, ih, List.drop_succ_cons]
theorem flat_take (l : List α) (i : Nat) : (E.flat l).take (i * E.k) = E.flat (l.take i) := by
  induction i generalizing l with
  | zero => simp [Enc.flat]
  | succ i ih =>
    cases l with
    | nil => simp [Enc.flat]
    | cons x l =>
      rw [flat_cons, Nat.succ_mul, Nat.add_comm, List.take_append, E.len, Nat.add_sub_cancel_left, ih, List.take_of_length_le (by rw [E.len]; omega), List.take_succ_cons, flat_cons]
theorem flat_at {l : List α} {i : Nat} {x : α} (h : l[i]? = some x) : ((E.flat l).drop (i * E.k)).take E.k = E.enc x := by
  rw [flat_drop]
  have hi := (List.getElem?_eq_some_iff.1 h)
  rw [List.drop_eq_getElem_cons hi.1, hi.2, flat_cons, List.take_append_of_le_length (by rw [E.len]; exact Nat.le_refl _), List.take_of_length_le (by rw [E.len]; exact Nat.le_refl _)]
/-- what a slice of such things denotes, in the cells of its block -/
def RowV (E : Enc α) (vs : List Value) (off : Nat) (l : List α) : Prop := off + l.length * E.k ≤ vs.length ∧ (vs.drop off).take (l.length * E.k) = E.flat l
theorem RowV.at {vs : List Value} {off : Nat} {l : List α} (h : RowV E vs off l) {i : Nat} {x : α} (hx : l[i]? = some x) : (vs.drop (off + i * E.k)).take E.k = E.enc x ∧ off + i * E.k + E.k ≤ vs.length := by
  have hi := (List.getElem?_eq_some_iff.1 hx).1
  have hm : (i + 1) * E.k ≤ l.length * E.k := Nat.mul_le_mul_right _ hi
  rw [Nat.succ_mul] at hm
  refine ⟨?_, by have := h.1; omega⟩
  rw [← flat_at hx, ← h.2, List.drop_take, List.drop_drop, List.take_take, Nat.min_eq_left (by omega)]
theorem RowV.cell {vs : List Value} {off : Nat} {l : List α} (h : RowV E vs off l) {i : Nat} {x : α} (hx : l[i]? = some x) {j : Nat} (hj : j < E.k) : vs[off + i * E.k + j]? = (E.enc x)[j]? := by
  rw [← (h.at hx).1, List.getElem?_take_of_lt hj, List.getElem?_drop]
theorem RowV.all (l : List α) : RowV E (E.flat l) 0 l := ⟨by rw [flat_len]; omega, by rw [List.drop_zero, List.take_of_length_le (by rw [flat_len]; exact Nat.le_refl _)]⟩
theorem RowV.drop {vs : List Value} {off : Nat} {l : List α} (h : RowV E vs off l) (i : Nat) (hi : i ≤ l.length) : RowV E vs (off + i * E.k) (l.drop i) := by
  have hm : i * E.k ≤ l.length * E.k := Nat.mul_le_mul_right _ hi
  have hs : (l.length - i) * E.k = l.length * E.k - i * E.k := Nat.sub_mul ..
  refine ⟨by rw [List.length_drop, hs]; have := h.1; omega, ?_⟩
  rw [List.length_drop, hs, ← flat_drop, ← h.2, List.drop_take, List.drop_drop]
theorem RowV.take {vs : List Value} {off : Nat} {l : List α} (h : RowV E vs off l) (i : Nat) (hi : i ≤ l.length) : RowV E vs off (l.take i) := by
  have hm : i * E.k ≤ l.length * E.k := Nat.mul_le_mul_right _ hi
  have hl : (l.take i).length = i := by rw [List.length_take]; omega
  refine ⟨by rw [hl]; have := h.1; omega, ?_⟩
  rw [hl, ← flat_take, ← h.2, List.take_take, Nat.min_eq_left hm]
/-- one of them is written anew -/
theorem RowV.set {vs : List Value} {off : Nat} {l : List α} (h : RowV E vs off l) {i : Nat} (hi : i < l.length) (y : α) : RowV E (vs.take (off + i * E.k) ++ E.enc y ++ vs.drop (off + i * E.k + E.k)) off (l.set i y) := by
  obtain ⟨l1, x, l2, rfl, rfl⟩ : ∃ l1 x l2, l = l1 ++ x :: l2 ∧ l1.length = i := ⟨l.take i, l[i], l.drop (i + 1), by simp, by simp; omega⟩
  have h1 := h.1
  have hset : (l1 ++ x :: l2).set l1.length y = l1 ++ y :: l2 := by simp
  rw [hset]
  have el : (l1 ++ x :: l2).length * E.k = l1.length * E.k + E.k + l2.length * E.k := by
    rw [List.length_append, List.length_cons, Nat.add_mul, Nat.succ_mul]; omega
  have el' : (l1 ++ y :: l2).length * E.k = l1.length * E.k + E.k + l2.length * E.k := by
    rw [List.length_append, List.length_cons, Nat.add_mul, Nat.succ_mul]; omega
  obtain ⟨A, hA⟩ : ∃ A, A = vs.take off := ⟨_, rfl⟩
  obtain ⟨B, hB⟩ : ∃ B, B = vs.drop (off + (l1 ++ x :: l2).length * E.k) := ⟨_, rfl⟩
  have hAl : A.length = off := by rw [hA, List.length_take]; omega
  have hv : vs = A ++ (E.flat l1 ++ E.enc x) ++ (E.flat l2 ++ B) := by
    have e0 : E.flat (l1 ++ x :: l2) = E.flat l1 ++ E.enc x ++ E.flat l2 := by rw [flat_app, flat_cons, List.append_assoc]
    have e1 : vs.drop off = E.flat (l1 ++ x :: l2) ++ B := by
      rw [← h.2, hB, ← List.drop_drop, List.take_append_drop]
    calc vs = vs.take off ++ vs.drop off := (List.take_append_drop _ _).symm
      _ = A ++ (E.flat (l1 ++ x :: l2) ++ B) := by rw [e1, ← hA]
      _ = _ := by rw [e0]; simp only [List.append_assoc]
  have hF1 : (E.flat l1).length = l1.length * E.k := flat_len l1
  have hF2 : (E.flat l2).length = l2.length * E.k := flat_len l2
  have ht : vs.take (off + l1.length * E.k) = A ++ E.flat l1 := by
    rw [hv, ← hAl, ← hF1, List.append_assoc A, List.append_assoc, List.take_append, List.take_of_length_le (by omega), Nat.add_sub_cancel_left, List.take_append_of_le_length (Nat.le_refl _), List.take_length]
  have hd : vs.drop (off + l1.length * E.k + E.k) = E.flat l2 ++ B := by
    have hl : (A ++ (E.flat l1 ++ E.enc x)).length = off + l1.length * E.k + E.k := by simp only [List.length_append, hAl, hF1, E.len]; omega
    rw [hv, ← hl, List.drop_append_of_le_length (Nat.le_refl _), List.drop_length, List.nil_append]
  rw [ht, hd]
  refine ⟨by rw [el']; simp only [List.length_append, hAl, hF1, hF2, E.len]; omega, ?_⟩
  have e2 : A ++ E.flat l1 ++ E.enc y ++ (E.flat l2 ++ B) = A ++ ((E.flat l1 ++ E.enc y ++ E.flat l2) ++ B) := by simp only [List.append_assoc]
  rw [e2, el', ← hAl, List.drop_append_of_le_length (Nat.le_refl _), List.drop_length, List.nil_append]
  have hl2 : (E.flat l1 ++ E.enc y ++ E.flat l2).length = l1.length * E.k + E.k + l2.length * E.k := by simp only [List.length_append, hF1, hF2, E.len]
  rw [← hl2, List.take_append_of_le_length (Nat.le_refl _), List.take_length, flat_app, flat_cons, List.append_assoc]
/-- the row's cells, as they were -/
theorem RowV.congr {vs ws : List Value} {off : Nat} {l : List α} (h : RowV E vs off l) (hw : ws.take (off + l.length * E.k) = vs.take (off + l.length * E.k)) : RowV E ws off l := by
  have h1 := h.1
  have hlen : off + l.length * E.k ≤ ws.length := by
    have := congrArg List.length hw
    rw [List.length_take, List.length_take] at this; omega
  refine ⟨hlen, ?_⟩
  rw [← h.2]
  have e : ∀ us : List Value, (us.drop off).take (l.length * E.k) = (us.take (off + l.length * E.k)).drop off := fun us => by rw [List.drop_take, Nat.add_sub_cancel_left]
  rw [e, e, hw]
theorem RowV.ext {vs : List Value} {off : Nat} {l m : List α} (h : RowV E vs off l) (e : l = m) : RowV E vs off m := e ▸ h
end
/-! ## Slices of such rows: looked at; one's own -/
/-- all but some blocks are as they were -/
def Upd (h h' : Heap) (F : List Nat) : Prop := h.next ≤ h'.next ∧ ∀ id, id < h.next → id ∉ F → h'.get id = h.get id
theorem Upd.refl (h : Heap) (F : List Nat) : Upd h h F := ⟨Nat.le_refl _, fun _ _ _ => rfl⟩
theorem Upd.trans {h h1 h2 : Heap} {F G : List Nat} (a : Upd h h1 F) (b : Upd h1 h2 G) (hG : ∀ d ∈ G, d ∈ F ∨ h.next ≤ d) : Upd h h2 F :=
  ⟨Nat.le_trans a.1 b.1, fun id hid hn => (b.2 id (Nat.lt_of_lt_of_le hid a.1) (fun hg => by rcases hG id hg with h1 | h1; exact hn h1; omega)).trans (a.2 id hid hn)⟩
theorem Upd.mono {h h' : Heap} {F G : List Nat} (a : Upd h h' F) (hF : ∀ d ∈ F, d < h.next → d ∈ G) : Upd h h' G := ⟨a.1, fun id hid hn => a.2 id hid fun hf => hn (hF id hf hid)⟩
theorem Upd.alloc (h : Heap) (b : Blk) (F : List Nat) : Upd h (h.alloc b) F := ⟨Nat.le_succ _, fun id hid _ => by rw [get_alloc, if_neg (by omega)]⟩
theorem Upd.put {h h' : Heap} {F : List Nat} (a : Upd h h' F) {i : Nat} {x : Slot} (hi : i ∈ F ∨ h.next ≤ i) : Upd h (h'.put i x) F := ⟨a.1, fun id hid hn => by
  rw [get_put, if_neg (fun e => by subst e; rcases hi with h1 | h1; exact hn h1; omega)]; exact a.2 id hid hn⟩
theorem Upd.allocs {h h' : Heap} {F : List Nat} (a : Upd h h' F) {b : Blk} : Upd h (h'.alloc b) F := ⟨Nat.le_trans a.1 (Nat.le_succ _), fun id hid hn => by rw [get_alloc, if_neg (by have := a.1; omega)]; exact a.2 id hid hn⟩
theorem Upd.unmask {h h1 h2 : Heap} {F wr : List Nat} (a : Upd h h1 F) (hn : h1.next ≤ h2.next) (hw : ∀ w ∈ wr, w ∈ F ∨ h.next ≤ w) : Upd h (h1.unmask wr h2) F :=
  ⟨by rw [next_unmask]; have := a.1; omega, fun id hid hf => by
    have h3 := a.1
    have : id ∉ wr := fun hw' => by rcases hw id hw' with h4 | h4; exact hf h4; omega
    rw [get_unmask, if_pos ⟨by omega, this⟩]; exact a.2 id hid hf⟩
section
variable {α : Type} {E : Enc α}
/-- a row that is looked at -/
def RowIn (E : Enc α) (h : Heap) (v : Value) (l : List α) : Prop := (v = .slice none 0 0 ∧ l = []) ∨ ∃ q off vs o, v = .slice (some ⟨q, off, none⟩) l.length E.k ∧ h.get q = .live (.cells vs o) ∧ RowV E vs off l
theorem RowIn.ro {h : Heap} {v : Value} {l : List α} (hr : RowIn E h v l) : RowIn E h.ro v l := by
  rcases hr with hr | ⟨q, off, vs, o, h1, h2, h3⟩
  · exact .inl hr
  · exact .inr ⟨q, off, vs, _, h1, by rw [get_ro, h2, lock_live', lock_cells], h3⟩
theorem RowIn.form {h : Heap} {v : Value} {l : List α} (hr : RowIn E h v l) : ∃ A st, v = .slice A l.length st := by
  rcases hr with ⟨rfl, rfl⟩ | ⟨q, off, vs, o, rfl, _, _⟩ <;> exact ⟨_, _, rfl⟩
/-- a row of one's own; the block that it stands in -/
def OwnRow (E : Enc α) (h : Heap) (v : Value) (D : List Nat) (l : List α) : Prop := (v = .slice none 0 0 ∧ l = [] ∧ D = []) ∨ ∃ q off vs, D = [q] ∧ q < h.next ∧ v = .slice (some ⟨q, off, none⟩) l.length E.k ∧ h.get q = .live (.cells vs .own) ∧ RowV E vs off l
theorem OwnRow.row {h : Heap} {v : Value} {D : List Nat} {l : List α} (hr : OwnRow E h v D l) : RowIn E h v l := by
  rcases hr with ⟨h1, h2, _⟩ | ⟨q, off, vs, _, _, h3, h4, h5⟩
  · exact .inl ⟨h1, h2⟩
  · exact .inr ⟨q, off, vs, .own, h3, h4, h5⟩
theorem OwnRow.form {h : Heap} {v : Value} {D : List Nat} {l : List α} (hr : OwnRow E h v D l) : ∃ A st, v = .slice A l.length st := hr.row.form
theorem OwnRow.lt {h : Heap} {v : Value} {D : List Nat} {l : List α} (hr : OwnRow E h v D l) : ∀ d ∈ D, d < h.next := by
  rcases hr with ⟨_, _, rfl⟩ | ⟨q, off, vs, rfl, h1, _⟩ <;> simp_all
theorem OwnRow.keep {h h' : Heap} {v : Value} {D : List Nat} {l : List α} (hr : OwnRow E h v D l) (hn : h.next ≤ h'.next) (hD : ∀ d ∈ D, h'.get d = h.get d) : OwnRow E h' v D l := by
  rcases hr with hr | ⟨q, off, vs, rfl, h1, h2, h3, h4⟩
  · exact .inl hr
  · exact .inr ⟨q, off, vs, rfl, by omega, h2, (hD q (by simp)).trans h3, h4⟩
theorem OwnRow.upd {h h' : Heap} {F : List Nat} {v : Value} {D : List Nat} {l : List α} (hr : OwnRow E h v D l) (hu : Upd h h' F) (hF : ∀ d ∈ D, d ∉ F) : OwnRow E h' v D l :=
  hr.keep hu.1 fun d hd => hu.2 d (hr.lt d hd) (hF d hd)
theorem OwnRow.nil (h : Heap) : OwnRow E h (.slice none 0 0) [] [] := .inl ⟨rfl, rfl, rfl⟩
theorem RowIn.upd {h h' : Heap} {v : Value} {l : List α} (hr : RowIn E h v l) (hb : ∀ A n st, v = .slice (some A) n st → h'.get A.block = h.get A.block) : RowIn E h' v l := by
  rcases hr with hr | ⟨q, off, vs, o, h1, h2, h3⟩
  · exact .inl hr
  · exact .inr ⟨q, off, vs, o, h1, (hb _ _ _ h1).trans h2, h3⟩
theorem RowIn.one {h : Heap} {v : Value} {l : List α} (hr : RowIn E h v l) : v.oneCell' = true ∧ v.cells = #[v] := by
  rcases hr with ⟨rfl, _⟩ | ⟨q, off, vs, o, rfl, _⟩ <;> exact ⟨rfl, cells_sl⟩
theorem flat_cut {vs : List Value} {off : Nat} {l : List α} (h : RowV E vs off l) (m : List α) : (vs.drop off).take (l.length * E.k) ++ E.flat m = E.flat (l ++ m) := by rw [h.2, flat_app]
/-- what is put behind a row of one's own -/
theorem app_own {by_ sz : Nat} {r : Regs} {d : Option Nat} {s : Value} {h : Heap} {m : Nat} {news : List Value} {K : Kt} {D : List Nat} {l ns : List α} (hO : OwnRow E h s D l) (hsz : sz = E.k) (hnews : news = E.flat ns) (hm : m = ns.length)
    (hb : (l.length + ns.length) * by_ ≤ 140737488355328 ∧ l.length + ns.length ≤ 9223372036854775807)
    (hK : ∀ v h' D', OwnRow E h' v D' (l ++ ns) → Upd h h' D → (∀ x ∈ D', x ∈ D ∨ h.next ≤ x) → K (upd r d v) h') : @appKC by_ sz r d s h m news ⟨K⟩ := by
  subst hsz hnews hm
  rcases hO with ⟨rfl, rfl, rfl⟩ | ⟨q, off, vs, rfl, hq, rfl, hg, hR⟩
  · simp only [List.length_nil, Nat.zero_add] at hb
    rw [k_nil, also_eq]
    refine ⟨hb, ?_⟩
    by_cases hz : ns.length = 0
    · have : ns = [] := List.length_eq_zero_iff.1 hz
      subst this
      simp only [List.length_nil, decide_true, gate_tt]
      exact hK _ h [] (.inl ⟨rfl, rfl, rfl⟩) (Upd.refl _ _) (by simp)
    · simp only [hz, decide_false, gate_ft]
      refine hK _ _ [h.next] (.inr ⟨h.next, 0, _, rfl, Nat.lt_succ_self _, rfl, by rw [get_alloc, if_pos rfl], ?_⟩) (Upd.alloc _ _ _) (by simp)
      exact RowV.all ns
  · rw [k_sl]
    simp only [onCells_c, also_eq, lett_eq, hg]
    refine ⟨trivial, trivial, ⟨hR.1, hb⟩, ?_⟩
    rw [flat_cut hR]
    refine hK _ _ [h.next] (.inr ⟨h.next, 0, E.flat (l ++ ns), rfl, ?_, ?_, ?_, RowV.all _⟩) ⟨?_, fun id hid hn => ?_⟩ (by simp)
    · exact Nat.lt_succ_self _
    · rw [List.length_append]
    · exact if_pos rfl
    · exact Nat.le_succ _
    · show (if _ then _ else _) = _
      rw [if_neg (by omega), if_neg (by simpa using hn)]
/-- what is read off another row, to be put behind one -/
theorem news_row {P : Program} {t sz : Nat} {x : Value} {h : Heap} {K : Nat → List Value → Prop} {l : List α} (ht : isSl P t = true) (hr : RowIn E h x l) (hsz : sz = E.k) (hK : K l.length (E.flat l)) : @newsOf P (some t) sz x h ⟨K⟩ := by
  subst hsz
  rcases hr with ⟨rfl, rfl⟩ | ⟨q, off, vs, o, rfl, hg, hR⟩
  · rw [n_nil, also_eq]; exact ⟨ht, hK⟩
  · rw [n_sl]
    simp only [also_eq, onCells_c, hg]
    refine ⟨ht, hR.1, ?_⟩
    rw [hR.2]; exact hK
end
/-! ## Functions that are gone over: what they hand out, one behind the other -/
def SeqH (P : Program) (f : FuncId) (cap : Array Value) (xs : List (Array Value)) (Req : Heap → Prop) : Prop :=
  ∀ (id : Nat) (J : Nat → Heap → Prop) (Jx : Heap → Prop) (h : Heap), J 0 h → (∀ i H, J i H → Req H) → (∀ i H H', J i H → Upd H H' [] → J i H') →
    (∀ (i : Nat) (args : Array Value) (H : Heap), xs[i]? = some args → J i H → @YieldH P id args H ⟨fun u H' => (u = .bool true ∧ J (i + 1) H') ∨ (u = .bool false ∧ Jx H')⟩) →
    @CallsH P f (#[.func (.yield id) #[] #[]] ++ cap) h ⟨fun _ H => J xs.length H ∨ Jx H⟩
def Ex.code : Ex → Option Code | .normal => none | .ret => some .ret | .exit i => some (.exit i)
theorem put_same {h : Heap} {id : Nat} {s : Slot} : (h.put id s).get id = s := if_pos rfl
theorem range_over {P : Program} {g : Operand} {ps : Array Tmp} {assign body : Code} {Q : Qt} {r : Regs} {h : Heap} {f : FuncId} {cap : Array Value} {xs : List (Array Value)} {Req : Heap → Prop} (hg : ev r g = .func (.func f) #[] cap) (hgood : goodFunc P f = true)
    (hseq : SeqH P f cap xs Req) (hsz : ∀ args ∈ xs, args.size = ps.size) (I : Nat → Heap → Prop) (h0 : ∀ H, Upd h H [] → H.next = h.next + 1 → I 0 H) (hreq : ∀ i H, I i H → Req H) (hst : ∀ i H H', I i H → Upd H H' [] → I i H') (hput : ∀ i H x, I i H → I i (H.put h.next x))
    (hend : ∀ H x, I xs.length H → Q .normal r (H.put h.next x))
    (hbody : ∀ n (i : Nat) args H B, okCode n assign = true → okCode n body = true → xs[i]? = some args → I i H → H.get h.next = B → h.next < H.next →
      CodeH P n assign (fun e r1 H1 => match e with | .normal => H1.get h.next = B ∧ ∀ B', CodeH P n body (fun e r' H' => H'.get h.next = B' ∧ match e with | .normal => h.next < H'.next ∧ I (i + 1) H' | e => ∀ x, Q e r (H'.put h.next x)) r1 (H1.put h.next B') | _ => False) (setP r ps.toList args.toList) H) :
    @RF P g ps assign body r h ⟨Q⟩ := by
  refine rf_intro hg hgood fun n k1 k2 k3 k4 => ?_
  obtain ⟨L, hL⟩ : ∃ L : LoopS, L = ⟨.ready, none, r, n, ps, assign, body⟩ := ⟨_, rfl⟩
  rw [← hL]
  have l1 : L.st = .ready := by rw [hL]
  have l2 : L.pend = none := by rw [hL]
  have l3 : L.params = ps := by rw [hL]
  have l4 : L.assign = assign := by rw [hL]
  have l5 : L.body = body := by rw [hL]
  have l6 : L.regs = r := by rw [hL]
  have l7 : L.n = n := by rw [hL]
  have lw : L.with .ready none = L := by rw [hL]; rfl
  clear hL
  refine (hseq h.next (fun i H => H.get h.next = loopB L ∧ h.next < H.next ∧ I i H) (fun H => ∃ e, Ex.code e ≠ none ∧ H.get h.next = loopB (L.with .done (Ex.code e)) ∧ ∀ x, Q e r (H.put h.next x)) (h.alloc (.loop L .own)) ⟨by rw [get_alloc, if_pos rfl]; rfl, Nat.lt_succ_self _, h0 _ (Upd.alloc _ _ _) rfl⟩ (fun i H hI => hreq i H hI.2.2)
    (fun i H H' hI hu => ⟨(hu.2 _ hI.2.1 (by simp)).trans hI.1, Nat.lt_of_lt_of_le hI.2.1 hu.1, hst i H H' hI.2.2 hu⟩) (fun i args H hx ⟨hB, hlt, hI⟩ => ?_)).mono fun u H' hH' => ?_
  · refine yield_intro L hB l1 l2 (by rw [l3]; exact hsz args (List.mem_of_getElem? hx)) (by rw [l4, l5]; exact k3) (by rw [l3, l7]; exact k4) ?_
    rw [l3, l4, l5, l6, l7]
    refine (hbody n i args H _ k1 k2 hx hI hB hlt).mono fun e r1 H1 he => ?_
    cases e with
    | normal =>
      obtain ⟨e1, e2⟩ := he
      refine ⟨e1, (e2 (loopB (L.with .busy none))).mono fun e r2 H2 hq => ?_⟩
      refine ⟨hq.1, ?_⟩
      cases e with
      | normal =>
        exact .inl ⟨rfl, by rw [put_same, lw], hq.2.1, hput _ _ _ hq.2.2⟩
      | ret => exact .inr ⟨rfl, .ret, by simp [Ex.code], put_same, fun x => by rw [put_put]; exact hq.2 x⟩
      | exit j => exact .inr ⟨rfl, .exit j, by simp [Ex.code], put_same, fun x => by rw [put_put]; exact hq.2 x⟩
    | ret => exact he.elim
    | exit j => exact he.elim
  · rcases hH' with ⟨e1, _, e2⟩ | ⟨e, e0, e1, e2⟩
    · exact ⟨L, e1, by rw [l1]; simp, by rw [l2]; exact hend H' _ e2⟩
    · refine ⟨_, e1, by simp [LoopS.with], ?_⟩
      cases e with
      | normal => exact absurd rfl e0
      | ret => exact e2 _
      | exit j => exact e2 _
end Ph
