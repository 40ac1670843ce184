/- What an argument that can be read as data is in an abstract heap, of which nothing may be written. -/
import Derived.Test.YtcbgjjbbeeoekaaDoorPhRange
import Derived.Test.YtcbgjjbbeeoekaaDoorRows
import Derived.Deep.Slices
import Derived.DataReads
import Derived.ChangeArms
set_option linter.unusedVariables false
set_option linter.unusedSimpArgs false
namespace Ph
open Go Go.Proofs Go.RowKit
def bulk {H : Type} (d : DataW H) : Nat := YtcbgjjbbeeoekaaDoor.Rows.uptoBulk d
def bulks {H : Type} (d : List (DataW H)) : Nat := YtcbgjjbbeeoekaaDoor.Rows.uptoBulkAll d
theorem bulk_one {H : Type} (d : DataW H) : 1 ≤ bulk d := by
  unfold bulk
  cases d with
  | lit l => cases l <;> simp [YtcbgjjbbeeoekaaDoor.Rows.uptoBulk]
  | nil => simp [YtcbgjjbbeeoekaaDoor.Rows.uptoBulk]
  | ptr d => simp [YtcbgjjbbeeoekaaDoor.Rows.uptoBulk]
  | slice elems spare => simp [YtcbgjjbbeeoekaaDoor.Rows.uptoBulk]
  | agg parts => simp [YtcbgjjbbeeoekaaDoor.Rows.uptoBulk]
  | iface t d => simp [YtcbgjjbbeeoekaaDoor.Rows.uptoBulk]
  | map entries => simp [YtcbgjjbbeeoekaaDoor.Rows.uptoBulk]
  | held h => simp [YtcbgjjbbeeoekaaDoor.Rows.uptoBulk]
theorem bulk_map {H : Type} (l : List (DataW H)) : bulks l = (l.map bulk).sum := by
  unfold bulks
  induction l with
  | nil => simp [YtcbgjjbbeeoekaaDoor.Rows.uptoBulkAll]
  | cons x l ih => simp [YtcbgjjbbeeoekaaDoor.Rows.uptoBulkAll, ih, bulk]
def LRel (ρ : Ren) (vs cs : List Value) : Prop := vs.length = cs.length ∧ ∀ (i : Nat) (x y : Value), vs[i]? = some x → cs[i]? = some y → VRel ρ x y
theorem LRel.mono {ρ ρ' : Ren} (hs : ∀ id c, ρ id = some c → ρ' id = some c) {vs cs : List Value} (h : LRel ρ vs cs) : LRel ρ' vs cs := ⟨h.1, fun i x y hx hy => (h.2 i x y hx hy).mono hs⟩
theorem LRel.app {ρ : Ren} {a b c d : List Value} (h : LRel ρ a b) (h' : LRel ρ c d) : LRel ρ (a ++ c) (b ++ d) := by
  refine ⟨by simp [h.1, h'.1], fun i x y hx hy => ?_⟩
  by_cases hi : i < a.length
  · rw [List.getElem?_append_left hi] at hx
    rw [List.getElem?_append_left (by have := h.1; omega)] at hy
    exact h.2 i x y hx hy
  · rw [List.getElem?_append_right (by omega)] at hx
    rw [List.getElem?_append_right (by have := h.1; omega)] at hy
    rw [← h.1] at hy
    exact h'.2 _ x y hx hy
theorem LRel.one {ρ : Ren} {v w : Value} (h : VRel ρ v w) : LRel ρ [v] [w] := ⟨rfl, fun i x y hx hy => by
  cases i with
  | zero => simp at hx hy; subst hx; subst hy; exact h
  | succ i => simp at hx⟩
theorem LRel.arr {ρ : Ren} {vs cs : List Value} (h : LRel ρ vs cs) : ARel ρ vs.toArray cs.toArray := ⟨by simp [h.1], fun i x y hx hy => h.2 i x y (by simpa using hx) (by simpa using hy)⟩
def Sub (h h' : Heap) : Prop := h.next ≤ h'.next ∧ ∀ i b, h.get i = .live b → h'.get i = .live b
theorem Sub.refl (h : Heap) : Sub h h := ⟨Nat.le_refl _, fun _ _ h => h⟩
theorem Sub.trans {a b c : Heap} (x : Sub a b) (y : Sub b c) : Sub a c := ⟨Nat.le_trans x.1 y.1, fun i b h => y.2 i b (x.2 i b h)⟩
structure RoW (z : Bool) (ρ : Ren) (h : Heap) (w : World) : Prop where
  conc : Conc ρ h w
  ro : ∀ i b, h.get i = .live b → b.own = false
  pos : z = true → 0 < w.heap.size
structure Ext (ρ : Ren) (h : Heap) (ρ' : Ren) (h' : Heap) : Prop where
  ren : ∀ i c, ρ i = some c → ρ' i = some c
  sub : Sub h h'
theorem Ext.refl (ρ h) : Ext ρ h ρ h := ⟨fun _ _ h => h, Sub.refl h⟩
theorem Ext.trans {ρ h ρ1 h1 ρ2 h2} (a : Ext ρ h ρ1 h1) (b : Ext ρ1 h1 ρ2 h2) : Ext ρ h ρ2 h2 := ⟨fun i c x => b.ren i c (a.ren i c x), a.sub.trans b.sub⟩
theorem RoW.view {z : Bool} {ρ : Ren} {h : Heap} {w : World} (hR : RoW z ρ h w) (c : CB) (hc : c.blk < w.heap.size) (vs : List Value)
    (hv : ∀ (i : Nat) (v : Value), vs[i]? = some v → ∃ v', w.cell? ⟨c.blk, c.sh + i, none⟩ = some v' ∧ VRel ρ v v') : RoW z (ρ.add h.next c) (h.alloc (.cells vs .ro)) w ∧ Ext ρ h (ρ.add h.next c) (h.alloc (.cells vs .ro)) := by
  have hf := hR.conc.next h.next (Nat.le_refl _)
  have hn := hR.conc.free _ hf
  have hold : ∀ i x, i ≠ h.next → (ρ.add h.next c) i = some x → ρ i = some x := fun i x hi hx => by unfold Ren.add at hx; rw [if_neg hi] at hx; exact hx
  have hro : ∀ i b, (h.alloc (.cells vs .ro)).get i = .live b → b.own = false := fun i b hb => by
    simp only [Heap.alloc] at hb
    split at hb
    · cases hb; rfl
    · exact hR.ro i b hb
  refine ⟨⟨⟨fun i x b hx hb => ?_, fun i j x y hij hx hy ho hl => ?_, fun i hi => ?_, fun i hi => ?_, fun i x hx => ?_, hR.conc.tab.keep (Nat.le_refl _) (fun _ _ _ => rfl) fun i x hx ⟨b, hb, hb'⟩ => by rw [hro i b hb] at hb'; cases hb'⟩, hro, hR.pos⟩, ⟨Ren.add_le hn, Nat.le_succ _, fun i b hb => ?_⟩⟩
  · simp only [Heap.alloc] at hb
    split at hb
    · rename_i e
      subst e
      cases hb
      simp only [Ren.add, if_true, Option.some.injEq] at hx
      subst hx
      intro k v hk
      obtain ⟨v', h1, h2⟩ := hv k v hk
      exact ⟨v', h1, h2.mono (Ren.add_le hn)⟩
    · rename_i e
      exact (hR.conc.at_ i x b (hold i x e hx) hb).mono (Ren.add_le hn) rfl
  · obtain ⟨b, hb, hb'⟩ := ho
    rw [hro i b hb] at hb'; cases hb'
  · simp only [Heap.alloc] at hi
    split at hi
    · cases hi
    · rename_i e
      unfold Ren.add; rw [if_neg e]; exact hR.conc.free i hi
  · simp only [Heap.alloc] at hi ⊢
    rw [if_neg (by omega)]
    exact hR.conc.next i (by omega)
  · by_cases e : i = h.next
    · subst e
      simp only [Ren.add, if_true, Option.some.injEq] at hx
      subst hx; exact hc
    · exact hR.conc.lt i x (hold i x e hx)
  · simp only [Heap.alloc]
    rw [if_neg (fun e => by rw [e, hf] at hb; cases hb)]
    exact hb
/-- what a value of α is, in so many cells -/
structure Rd (α : Type) where
  sz : Nat
  rep : Heap → α → List Value → Prop
  len : ∀ {h x vs}, rep h x vs → vs.length = sz
  mono : ∀ {h h' x vs}, Sub h h' → rep h x vs → rep h' x vs
def Rd.int (k : IntKind) : Rd Int := ⟨1, fun _ x vs => vs = [.int k x], fun h => by rw [h]; rfl, fun _ h => h⟩
def Rd.bool : Rd Bool := ⟨1, fun _ x vs => vs = [.bool x], fun h => by rw [h]; rfl, fun _ h => h⟩
def Rd.str : Rd (List UInt8) := ⟨1, fun _ x vs => vs = [.string (Ph.str x)], fun h => by rw [h]; rfl, fun _ h => h⟩
def SlR {α : Type} (r : Rd α) (h : Heap) (v : Value) (l : List α) : Prop :=
  (v = .slice none 0 0 ∧ l = []) ∨ ∃ i cells, v = .slice (some ⟨i, 0, none⟩) l.length r.sz ∧ i < h.next ∧ h.get i = .live (.cells cells .ro) ∧ cells.length = l.length * r.sz ∧
    ∀ (k : Nat) (x : α), l[k]? = some x → r.rep h x ((cells.drop (k * r.sz)).take r.sz)
def Rd.slice {α : Type} (r : Rd α) : Rd (List α) := ⟨1, fun h l vs => ∃ v, vs = [v] ∧ SlR r h v l, fun ⟨v, h, _⟩ => by rw [h]; rfl, fun {h h' x vs} hs ⟨v, hv, hr⟩ => ⟨v, hv, by
  rcases hr with hr | ⟨i, cells, h1, h2, h3, h4, h5⟩
  · exact .inl hr
  · exact .inr ⟨i, cells, h1, Nat.lt_of_lt_of_le h2 hs.1, hs.2 _ _ h3, h4, fun k x hx => r.mono hs (h5 k x hx)⟩⟩⟩
def Rd.pair {α β : Type} (a : Rd α) (b : Rd β) : Rd (α × β) := ⟨a.sz + b.sz, fun h x vs => ∃ u v, vs = u ++ v ∧ a.rep h x.1 u ∧ b.rep h x.2 v,
  fun ⟨u, v, h, h1, h2⟩ => by rw [h, List.length_append, a.len h1, b.len h2], fun hs ⟨u, v, h, h1, h2⟩ => ⟨u, v, h, a.mono hs h1, b.mono hs h2⟩⟩
structure Reads (z : Bool) {α : Type} (P : Program) (r : Rd α) (t : TypeId) (wf : α → Prop) (m : α → Nat) : Prop where
  len : P.cellsOf t = r.sz
  op : ∀ {H : Type} {enc : TypeId × Value → H} {w : World} {held : Bool} {fuel : Nat} {cs : List Value} {y : DataW H × List MemPlace} {ρ : Ren} {h : Heap},
    DataW.trod enc P w 0 (fun _ => true) held fuel t cs = some y → RoW z ρ h w → ∃ ρ' h' x vs, RoW z ρ' h' w ∧ Ext ρ h ρ' h' ∧ r.rep h' x vs ∧ LRel ρ' vs cs ∧ wf x ∧ m x ≤ bulk y.1
theorem reads_int {z : Bool} {P : Program} {t : TypeId} {k : IntKind} (ht : P.underlying t = some (.int k)) (hc : P.cellsOf t = 1) : Reads z P (Rd.int k) t (fun x => (Lit.int k x).wf = true) (fun _ => 1) :=
  ⟨hc, fun {_ _ _ _ _ _ _ ρ h} ho hR => by
    obtain ⟨n, rfl, rfl, hw⟩ := DataW.trod_int ht ho
    exact ⟨ρ, h, n, _, hR, Ext.refl _ _, rfl, LRel.one (.same _ rfl), hw, bulk_one _⟩⟩
theorem reads_bool {z : Bool} {P : Program} {t : TypeId} (ht : P.underlying t = some .bool) (hc : P.cellsOf t = 1) : Reads z P Rd.bool t (fun _ => True) (fun _ => 1) :=
  ⟨hc, fun {_ _ _ _ _ _ _ ρ h} ho hR => by
    obtain ⟨n, rfl, rfl⟩ := DataW.trod_bool ht ho
    exact ⟨ρ, h, n, _, hR, Ext.refl _ _, rfl, LRel.one (.same _ rfl), trivial, bulk_one _⟩⟩
theorem reads_str {z : Bool} {P : Program} {t : TypeId} (ht : P.underlying t = some .string) (hc : P.cellsOf t = 1) : Reads z P Rd.str t (fun l => l.length ≤ maxLen) (fun l => l.length + 1) :=
  ⟨hc, fun {_ _ _ _ _ _ _ ρ h} ho hR => by
    obtain ⟨s, rfl, rfl, hw⟩ := DataW.trod_string ht ho
    obtain ⟨l, rfl⟩ := str_ex s
    refine ⟨ρ, h, l, _, hR, Ext.refl _ _, rfl, LRel.one (.same _ rfl), by rwa [size_str] at hw, ?_⟩
    show l.length + 1 ≤ (Ph.str l).data.toList.length + 1
    rw [data_str]; exact Nat.le_refl _⟩
theorem sum_le {α : Type} {f : α → Nat} (l : List α) : ∀ (D : Nat → Nat), (∀ i x, l[i]? = some x → f x ≤ D i) → (l.map f).sum ≤ ((List.range l.length).map D).sum := by
  induction l with
  | nil => intro D _; simp
  | cons x l ih =>
    intro D h
    have h0 := h 0 x rfl
    have := ih (fun i => D (i + 1)) (fun i y hy => h (i + 1) y (by simpa using hy))
    rw [List.length_cons, List.range_succ_eq_map, List.map_cons, List.sum_cons, List.map_cons, List.sum_cons, List.map_map]
    exact Nat.add_le_add h0 this
theorem addr_add2 (a : Addr) (i j : Nat) : (a.add i).add j = a.add (i + j) := by
  unfold Addr.add
  by_cases h1 : i = 0
  · subst h1; simp
  · by_cases h2 : j = 0
    · subst h2; simp [h1]
    · simp [h1, h2, Nat.add_assoc]
theorem reads_slice {α : Type} {P : Program} {t e : TypeId} {r : Rd α} {wf : α → Prop} {m : α → Nat} (h : Reads true P r e wf m) (ht : P.underlying t = some (.slice e)) (hc : P.cellsOf t = 1) (hsz : 0 < r.sz) :
    Reads true P (Rd.slice r) t (fun l => l.length ≤ maxLen ∧ ∀ x ∈ l, wf x) (fun l => (l.map m).sum + 1) :=
  ⟨hc, fun {H enc w held fuel cs y ρ h0} ho hR => by
    rcases Go.Deep.open_slice ht ho with ⟨rfl, rfl⟩ | ⟨a, len, cap, mm, n, D, Pl, rfl, hb, hl, hm, hmm, rfl, hx⟩
    · exact ⟨ρ, h0, [], _, hR, Ext.refl _ _, ⟨_, rfl, .inl ⟨rfl, rfl⟩⟩, LRel.one (.same _ rfl), ⟨by simp, fun x hx => by simp at hx⟩, bulk_one _⟩
    · have hmm : mm = cap := by simpa using hmm
      subst hmm
      have step : ∀ k, k ≤ len → ∃ (ρ' : Ren) (h' : Heap) (l : List α) (cells : List Value), RoW true ρ' h' w ∧ Ext ρ h0 ρ' h' ∧ l.length = k ∧ cells.length = k * r.sz ∧ (∀ i x, l[i]? = some x → r.rep h' x ((cells.drop (i * r.sz)).take r.sz) ∧ wf x ∧ m x ≤ bulk (D i)) ∧
          (∀ j u, cells[j]? = some u → ∃ u', w.cell? (a.add j) = some u' ∧ VRel ρ' u u') := fun k => by
        induction k with
        | zero => exact fun _ => ⟨ρ, h0, [], [], hR, Ext.refl _ _, rfl, by simp, fun i x hx => by simp at hx, fun j u hu => by simp at hu⟩
        | succ k ih =>
          intro hk
          obtain ⟨ρ1, h1, l, cells, R1, E1, l1, l2, l3, l4⟩ := ih (by omega)
          obtain ⟨cs', c1, c2⟩ := hx k (by omega)
          obtain ⟨ρ2, h2, x, vs, R2, E2, r2, q2, w2, m2⟩ := h.op c2 R1
          obtain ⟨_, hlen, hcell⟩ := World.cells?_some c1
          rw [h.len] at hcell hlen
          have hvs := r.len r2
          refine ⟨ρ2, h2, l ++ [x], cells ++ vs, R2, E1.trans E2, by simp [l1], by rw [List.length_append, l2, hvs, Nat.succ_mul], fun i z hz => ?_, fun j u hu => ?_⟩
          · by_cases hi : i < k
            · rw [List.getElem?_append_left (by omega)] at hz
              obtain ⟨a1, a2, a3⟩ := l3 i z hz
              have hi1 : (i + 1) * r.sz ≤ k * r.sz := Nat.mul_le_mul_right _ hi
              rw [Nat.succ_mul] at hi1
              rw [List.drop_append_of_le_length (by omega), List.take_append_of_le_length (by rw [List.length_drop]; omega)]
              exact ⟨r.mono E2.sub a1, a2, a3⟩
            · have hi2 : i < (l ++ [x]).length := (List.getElem?_eq_some_iff.1 hz).1
              have hi3 : i = k := by simp [l1] at hi2; omega
              subst hi3
              have : x = z := by rw [List.getElem?_append_right (show l.length ≤ i by omega), l1, Nat.sub_self] at hz; simpa using hz
              subst this
              rw [List.drop_append, ← l2, List.drop_length, Nat.sub_self, List.drop_zero, List.nil_append, List.take_of_length_le (by omega)]
              exact ⟨r2, w2, m2⟩
          · by_cases hj : j < cells.length
            · rw [List.getElem?_append_left hj] at hu
              obtain ⟨u', a1, a2⟩ := l4 j u hu
              exact ⟨u', a1, a2.mono E2.ren⟩
            · rw [List.getElem?_append_right (by omega)] at hu
              have hj2 : j - cells.length < vs.length := (List.getElem?_eq_some_iff.1 hu).1
              have hq := q2.1
              have h3 := hcell (j - cells.length) (by omega)
              rw [addr_add2] at h3
              have e3 : k * r.sz + (j - cells.length) = j := by omega
              rw [e3] at h3
              have h4 : cs'[j - cells.length]? = some (cs'[j - cells.length]'(by omega)) := List.getElem?_eq_getElem _
              exact ⟨_, h3.trans h4, q2.2 _ _ _ hu h4⟩
      obtain ⟨ρ1, h1, l, cells, R1, E1, l1, l2, l3, l4⟩ := step len (Nat.le_refl _)
      have hwf : l.length ≤ maxLen ∧ ∀ x ∈ l, wf x := ⟨by omega, fun x hx => by
        obtain ⟨i, hi⟩ := List.getElem?_of_mem hx
        exact (l3 i x hi).2.1⟩
      have hmb : (l.map m).sum + 1 ≤ bulk (DataW.slice ((List.range len).map D) ((List.range (mm - len)).map fun j => D (len + j))) := by
        have := sum_le (f := m) l (fun i => bulk (D i)) (fun i x hx => (l3 i x hx).2.2)
        have hm1 := bulk_map ((List.range len).map D)
        have hm2 := bulk_map ((List.range (mm - len)).map fun j => D (len + j))
        rw [l1] at this
        simp only [bulk, bulks, List.map_map, Function.comp_def] at *
        simp only [YtcbgjjbbeeoekaaDoor.Rows.uptoBulk]
        omega
      rcases Nat.eq_zero_or_pos mm with hz | hz
      · have hl0 : len = 0 := by omega
        subst hz; subst hl0
        obtain rfl : l = [] := List.length_eq_zero_iff.1 l1
        obtain rfl : cells = [] := List.length_eq_zero_iff.1 (by simpa using l2)
        obtain ⟨R2, E2⟩ := R1.view ⟨0, 0, 0⟩ (hR.pos rfl) [] (fun i v hv => by simp at hv)
        refine ⟨_, _, [], _, R2, E1.trans E2, ⟨_, rfl, .inr ⟨h1.next, [], rfl, Nat.lt_succ_self _, by simp [Heap.alloc], by simp, fun k x hx => by simp at hx⟩⟩, LRel.one ?_, hwf, hmb⟩
        exact .slice0 _ _ _ ⟨0, 0, 0⟩ (by simp [Ren.add])
      · obtain ⟨cs', c1, _⟩ := hx 0 hz
        obtain ⟨_, hlen, hcell⟩ := World.cells?_some c1
        rw [h.len] at hlen hcell
        have h00 := hcell 0 hsz
        simp only [Nat.zero_mul, Addr.add, if_true] at h00
        have h01 : cs'[0]? = some (cs'[0]'(by omega)) := List.getElem?_eq_getElem _
        rw [h01] at h00
        have hsp := World.cell?_spot h00
        have hlt := World.block_lt_of_cell? w _ h00
        obtain ⟨ab, ao, asp⟩ := a
        simp only at hsp hlt
        subst hsp
        obtain ⟨R2, E2⟩ := R1.view ⟨ab, ao, ao + mm * r.sz⟩ hlt cells (fun i v hv => by
          obtain ⟨u', a1, a2⟩ := l4 i v hv
          refine ⟨u', ?_, a2⟩
          unfold Addr.add at a1
          split at a1
          · rename_i e; subst e; exact a1
          · exact a1)
        refine ⟨_, _, l, _, R2, E1.trans E2, ⟨_, rfl, .inr ⟨h1.next, cells, by rw [l1], Nat.lt_succ_self _, by simp [Heap.alloc], by rw [l1]; exact l2, fun k x hx => r.mono E2.sub (l3 k x hx).1⟩⟩, LRel.one ?_, hwf, hmb⟩
        have hv : VRel (ρ1.add h1.next ⟨ab, ao, ao + mm * r.sz⟩) (.slice (some ⟨h1.next, 0, none⟩) len r.sz) (.slice (some ⟨ab, ao + 0, none⟩) len mm) := .slice _ 0 len _ ⟨ab, ao, ao + mm * r.sz⟩ mm (by simp [Ren.add]) hl (by simp)
        exact hv⟩
/-- The fields of a struct from the cell number o on. -/
structure ReadsF (z : Bool) {α : Type} (P : Program) (r : Rd α) (fs : List Field) (o : Nat) (wf : α → Prop) (m : α → Nat) : Prop where
  op : ∀ {H : Type} {enc : TypeId × Value → H} {w : World} {held : Bool} {fuel : Nat} {cs : List Value} {xs : List (DataW H × List MemPlace)} {ρ : Ren} {h : Heap}, cs.length = o + r.sz → xs.length = fs.length →
    (∀ (i : Nat) (f : Field), fs[i]? = some f → DataW.trod enc P w 0 (fun _ => true) held fuel f.type ((cs.drop f.offset).take (P.cellsOf f.type)) = xs[i]?) → RoW z ρ h w →
    ∃ ρ' h' x vs, RoW z ρ' h' w ∧ Ext ρ h ρ' h' ∧ r.rep h' x vs ∧ LRel ρ' vs (cs.drop o) ∧ wf x ∧ m x ≤ bulks (xs.map (·.1))
theorem readsF_one {z : Bool} {α : Type} {P : Program} {r : Rd α} {f : Field} {o : Nat} {wf : α → Prop} {m : α → Nat} (h : Reads z P r f.type wf m) (ho : f.offset = o) : ReadsF z P r [f] o wf m :=
  ⟨fun {H enc w held fuel cs xs ρ h0} hl hx hf hR => by
    match xs, hx with
    | [y], _ =>
      have h0 := hf 0 f rfl
      rw [ho, h.len, List.take_of_length_le (by rw [List.length_drop]; omega)] at h0
      obtain ⟨ρ', h', x, vs, a1, a2, a3, a4, a5, a6⟩ := h.op (show _ = some y from h0) hR
      exact ⟨ρ', h', x, vs, a1, a2, a3, a4, a5, by simpa [bulks, bulk, YtcbgjjbbeeoekaaDoor.Rows.uptoBulkAll] using a6⟩⟩
theorem readsF_cons {z : Bool} {α β : Type} {P : Program} {d1 : Rd α} {d2 : Rd β} {f : Field} {fs : List Field} {o : Nat} {wf1 : α → Prop} {m1 : α → Nat} {wf2 : β → Prop} {m2 : β → Nat} (h1 : Reads z P d1 f.type wf1 m1) (ho : f.offset = o) (h2 : ReadsF z P d2 fs (o + d1.sz) wf2 m2) :
    ReadsF z P (Rd.pair d1 d2) (f :: fs) o (fun x => wf1 x.1 ∧ wf2 x.2) (fun x => m1 x.1 + m2 x.2) :=
  ⟨fun {H enc w held fuel cs xs ρ h} hl hx hf hR => by
    match xs, hx with
    | y :: xs, hx =>
      have hl' : cs.length = o + (d1.sz + d2.sz) := hl
      have h0 := hf 0 f rfl
      rw [ho, h1.len] at h0
      obtain ⟨ρ1, k1, x, vs, a1, a2, a3, a4, a5, a6⟩ := h1.op (show _ = some y from h0) hR
      obtain ⟨ρ2, k2, z, us, b1, b2, b3, b4, b5, b6⟩ := h2.op (enc := enc) (w := w) (held := held) (fuel := fuel) (cs := cs) (xs := xs) (by omega) (by simpa using hx) (fun i g hg => hf (i + 1) g (by simpa using hg)) a1
      refine ⟨ρ2, k2, (x, z), vs ++ us, b1, a2.trans b2, ⟨_, _, rfl, d1.mono b2.sub a3, b3⟩, ?_, ⟨a5, b5⟩, ?_⟩
      · have := (a4.mono b2.ren).app b4
        rw [← List.drop_drop, List.take_append_drop] at this
        exact this
      · simp only [List.map_cons, bulks, YtcbgjjbbeeoekaaDoor.Rows.uptoBulkAll]
        have : m1 x + m2 z ≤ bulk y.1 + bulks (xs.map (·.1)) := by omega
        exact this⟩
theorem reads_struct {z : Bool} {α : Type} {P : Program} {r : Rd α} {t : TypeId} {fs : Array Field} {wf : α → Prop} {m : α → Nat} (hl : P.cellsOf t = r.sz) (ht : P.underlying t = some (.struct fs)) (h : ReadsF z P r fs.toList 0 wf m) : Reads z P r t wf m :=
  ⟨hl, fun {H enc w held fuel cs y ρ h0} ho hR => by
    obtain ⟨xs, n, _, rfl, hlen, hxl, hf⟩ := DataW.trod_struct ht ho
    obtain ⟨ρ', h', x, vs, a1, a2, a3, a4, a5, a6⟩ := h.op (enc := enc) (w := w) (held := held) (fuel := n) (cs := cs) (xs := xs) (by omega) (by simpa using hxl) (fun i f hi => hf i f (by simpa using hi)) hR
    refine ⟨ρ', h', x, vs, a1, a2, a3, a4, a5, ?_⟩
    have : m x ≤ bulks (xs.map (·.1)) + 1 := by omega
    simpa [bulk, bulks, YtcbgjjbbeeoekaaDoor.Rows.uptoBulk] using this⟩
theorem LRel.agg {ρ : Ren} {vs : List Value} {arr : Array Value} (h : LRel ρ vs arr.toList) : LRel ρ [.agg vs.toArray] [.agg arr] :=
  LRel.one (.agg _ _ (by simpa using h.1) fun i x y hx hy => h.2 i x y (by simpa using hx) (by simpa using hy))
theorem SlR.mono {α : Type} {r : Rd α} {h h' : Heap} {v : Value} {l : List α} (hs : Sub h h') (hr : SlR r h v l) : SlR r h' v l := by
  rcases hr with hr | ⟨i, cells, h1, h2, h3, h4, h5⟩
  · exact .inl hr
  · exact .inr ⟨i, cells, h1, Nat.lt_of_lt_of_le h2 hs.1, hs.2 _ _ h3, h4, fun k x hx => r.mono hs (h5 k x hx)⟩
theorem op_nil {z : Bool} {α : Type} {P : Program} {t : TypeId} {r : Rd α} {wf : α → Prop} {m : α → Nat} (_ : Reads true P (Rd.slice r) t (fun l => l.length ≤ maxLen ∧ ∀ x ∈ l, wf x) (fun l => (l.map m).sum + 1)) {H : Type} {y : DataW H × List MemPlace} {w : World} {ρ : Ren} {h : Heap} (hR : RoW z ρ h w) :
    ∃ ρ' h' x vs, RoW z ρ' h' w ∧ Ext ρ h ρ' h' ∧ (Rd.slice r).rep h' x vs ∧ LRel ρ' vs [.slice none 0 0] ∧ (x.length ≤ maxLen ∧ ∀ u ∈ x, wf u) ∧ (x.map m).sum + 1 ≤ bulk y.1 :=
  ⟨ρ, h, [], _, hR, Ext.refl _ _, ⟨_, rfl, .inl ⟨rfl, rfl⟩⟩, LRel.one (.same _ rfl), ⟨by simp, fun x hx => by simp at hx⟩, bulk_one _⟩
theorem slice_nil {P : Program} {w : World} {rc : Reach} {base : Nat} {t e : TypeId} {a : Option Addr} {n c : Nat} (ht : P.underlying t = some (.slice e)) (h : Value.okWide P w rc base t (.slice a n c)) (hW : ¬ 0 < w.heap.size) : a = none ∧ n = 0 ∧ c = 0 := by
  simp only [Value.okWide, ht, Cell.okWide] at h
  cases a with
  | none =>
    cases n with
    | zero => cases c with
      | zero => exact ⟨rfl, rfl, rfl⟩
      | succ c => simp [Cell.ok, ht] at h
    | succ n => simp [Cell.ok, ht] at h
  | some a =>
    simp only [Cell.ok, ht] at h
    obtain ⟨_, _, _, _, row, cells, hs, _⟩ := h
    have : w.heap[a.block]? = none := Array.getElem?_eq_none (by omega)
    simp [World.shape?, this] at hs
/-- nothing at all -/
def ρ0 : Ren := fun _ => none
def h0 : Heap := ⟨fun _ => .free, 0⟩
/-- the tables stand in memory -/
def TabW (w : World) : Prop := (∀ b vs, (b, vs) ∈ tabs → b < w.heap.size ∧ (∀ (i : Nat) (v : Value), vs[i]? = some v → w.cell? ⟨b, i, none⟩ = some v)) ∧ ∀ b, b ∈ gints → b < w.heap.size ∧ ∃ m : Int, w.cell? ⟨b, 0, none⟩ = some (.int .i64 m)
theorem RoW.none {z : Bool} {w : World} (hp : z = true → 0 < w.heap.size) (ht : TabW w) : RoW z ρ0 h0 w :=
  RoW.mk (Conc.mk (fun i c b hc => by cases hc) (fun i j c c' _ hc => by cases hc) (fun _ _ => rfl) (fun _ _ => rfl) (fun i c hc => by cases hc) ⟨fun b vs hb => ⟨(ht.1 b vs hb).1, (ht.1 b vs hb).2, fun _ _ hc => by cases hc⟩, fun b hb => ⟨(ht.2 b hb).1, (ht.2 b hb).2, fun _ _ hc => by cases hc⟩⟩) (fun i b hb => by cases hb) hp
/-- From a contract to what a row asks for. -/
theorem calls_row {z : Bool} {P : Program} {f : FuncId} {args args' : Array Value} {ρ : Ren} {h : Heap} {W : World} {v : Value} (hp : plain v = true) (hR : RoW z ρ h W) (ha : ARel ρ args args') (hc : @CallsH P f args h ⟨fun u _ => u = v⟩) :
    Go.Calls P f args' W (fun e W' => e = .returned v ∧ Below W.heap.size W W') := by
  refine (hc ρ W args' hR.conc ha).mono fun e w' ⟨ρ', h', u, u', he, p1, p2, p3, hu⟩ => ?_
  subst hu
  refine ⟨by rw [he, p1.plain_eq hp], ⟨p3.os, p3.tape, p3.output, p3.size, fun k hk => p3.blk k hk (fun id c hid ⟨b, hb, hb'⟩ => ?_)⟩⟩
  have := hR.ro id b hb
  rw [Blk.own_of_mod hb'] at this; cases this
end Ph
