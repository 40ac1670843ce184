/- What an argument that can be read as data gives a walk: a plain value of its kind, its ranges, and how much of it there may be. -/
import Derived.Test.YtjblahoegfojdaaRows
import Derived.Test.YtjblahoegfojdaaWMore
import Derived.ProofKit
import Derived.Deep.Slices
import Derived.ChangeArms
import Derived.DataReads
namespace Go.Proofs.Ytjblahoegfojdaa.Op
open Go.RowKit Go.Proofs.YtjblahoegfojdaaW.PrintWords Go.Proofs.YtjblahoegfojdaaW.PrintLast
set_option linter.unusedVariables false
set_option linter.unusedSimpArgs false

theorem bulk_one {H : Type} (d : DataW H) : 1 ≤ Rows.uptoBulk d := by
  cases d with
  | lit l => cases l <;> simp [Rows.uptoBulk]
  | nil => simp [Rows.uptoBulk]
  | ptr d => simp [Rows.uptoBulk]
  | slice elems spare => simp [Rows.uptoBulk]
  | agg parts => simp [Rows.uptoBulk]
  | iface t d => simp [Rows.uptoBulk]
  | map entries => simp [Rows.uptoBulk]
  | held h => simp [Rows.uptoBulk]
theorem bulk_map {H : Type} (l : List (DataW H)) : Rows.uptoBulkAll l = (l.map Rows.uptoBulk).sum := by
  induction l with
  | nil => simp [Rows.uptoBulkAll]
  | cons x l ih => simp [Rows.uptoBulkAll, ih]

/-- A type whose readings give values of the kind d: wf tells their ranges, m how much there is of one, at most. -/
structure Opens {α : Type} (P : Program) (d : Kd α) (t : TypeId) (wf : α → Prop) (m : α → Nat) : Prop where
  len : P.cellsOf t = d.sz
  op : ∀ {H : Type} {enc : TypeId × Value → H} {w : World} {base : Nat} {sp : Nat → Bool} {held : Bool} {fuel : Nat} {cs : List Value} {y : DataW H × List MemPlace},
    DataW.trod enc P w base sp held fuel t cs = some y → ∃ x, d.K w x cs ∧ wf x ∧ m x ≤ Rows.uptoBulk y.1

theorem opens_int {P : Program} {t : TypeId} {k : IntKind} (ht : P.underlying t = some (.int k)) (hc : P.cellsOf t = 1) : Opens P (Kd.int k) t (fun x => (Lit.int k x).wf = true) (fun _ => 1) :=
  ⟨hc, fun h => by
    obtain ⟨n, rfl, rfl, hw⟩ := DataW.trod_int ht h
    exact ⟨n, rfl, hw, bulk_one _⟩⟩
theorem opens_bool {P : Program} {t : TypeId} (ht : P.underlying t = some .bool) (hc : P.cellsOf t = 1) : Opens P Kd.bool t (fun _ => True) (fun _ => 1) :=
  ⟨hc, fun h => by
    obtain ⟨n, rfl, rfl⟩ := DataW.trod_bool ht h
    exact ⟨n, rfl, trivial, bulk_one _⟩⟩
theorem opens_string {P : Program} {t : TypeId} (ht : P.underlying t = some .string) (hc : P.cellsOf t = 1) : Opens P Kd.string t (fun s => s.size ≤ maxLen) (fun s => s.size + 1) :=
  ⟨hc, fun h => by
    obtain ⟨s, rfl, rfl, hw⟩ := DataW.trod_string ht h
    refine ⟨s, rfl, hw, ?_⟩
    show s.data.size + 1 ≤ s.data.toList.length + 1
    rw [Array.length_toList]
    exact Nat.le_refl _⟩
theorem addr_add (a : Addr) (i j : Nat) : (a.add i).add j = a.add (i + j) := by
  unfold Addr.add
  by_cases h1 : i = 0
  · subst h1; simp
  · by_cases h2 : j = 0
    · subst h2; simp [h1]
    · simp [h1, h2, Nat.add_assoc]
theorem range_choose {α : Type} {p : Nat → α → Prop} (n : Nat) (h : ∀ i, i < n → ∃ x, p i x) : ∃ l : List α, l.length = n ∧ ∀ i x, l[i]? = some x → p i x := by
  induction n with
  | zero => exact ⟨[], rfl, fun i x h => by simp at h⟩
  | succ n ih =>
    obtain ⟨l, hl, hp⟩ := ih (fun i hi => h i (by omega))
    obtain ⟨x, hx⟩ := h n (by omega)
    refine ⟨l ++ [x], by simp [hl], fun i y hy => ?_⟩
    rcases Nat.lt_or_ge i n with hi | hi
    · rw [List.getElem?_append_left (by omega)] at hy; exact hp i y hy
    · have hi2 : i < (l ++ [x]).length := (List.getElem?_eq_some_iff.1 hy).1
      have hi3 : i = n := by simp [hl] at hi2; omega
      subst hi3
      have : x = y := by simpa [hl, List.getElem?_append_right (show l.length ≤ i by omega)] using hy
      subst this; exact hx
theorem sum_le {α : Type} {f : α → Nat} (l : List α) : ∀ (D : Nat → Nat), (∀ i x, l[i]? = some x → f x ≤ D i) → (l.map f).sum ≤ ((List.range l.length).map D).sum := by
  induction l with
  | nil => intro D _; simp
  | cons x l ih =>
    intro D h
    have h0 := h 0 x rfl
    have := ih (fun i => D (i + 1)) (fun i y hy => h (i + 1) y (by simpa using hy))
    rw [List.length_cons, List.range_succ_eq_map, List.map_cons, List.sum_cons, List.map_cons, List.sum_cons, List.map_map]
    exact Nat.add_le_add h0 this
theorem opens_slice {α : Type} {P : Program} {t e : TypeId} {d : Kd α} {wf : α → Prop} {m : α → Nat} (h : Opens P d e wf m) (ht : P.underlying t = some (.slice e)) (hc : P.cellsOf t = 1) :
    Opens P (Kd.slice e d) t (fun l => l.length ≤ maxLen ∧ ∀ x ∈ l, wf x) (fun l => (l.map m).sum + 1) :=
  ⟨hc, fun {H enc w base sp held fuel cs y} ho => by
    rcases Go.Deep.open_slice ht ho with ⟨rfl, rfl⟩ | ⟨a, len, cap, mm, n, D, Pl, rfl, hb, hl, hm, hmm, rfl, hx⟩
    · exact ⟨[], ⟨none, 0, rfl, Nat.le_refl _, Kd.C_nil _ _⟩, ⟨by simp, fun x hx => by simp at hx⟩, by simp [Rows.uptoBulk]⟩
    · have hle : len ≤ mm := by rw [hmm]; split <;> omega
      obtain ⟨l, hll, hp⟩ := range_choose (p := fun i x => ∃ cs', d.K w x cs' ∧ wf x ∧ m x ≤ Rows.uptoBulk (D i) ∧ ∀ j u, cs'[j]? = some u → w.cell? (a.add (i * d.sz + j)) = some u) len (fun i hi => by
        obtain ⟨cs', h1, h2⟩ := hx i (by omega)
        obtain ⟨x, hK, hw, hmx⟩ := h.op h2
        refine ⟨x, cs', hK, hw, hmx, fun j u hu => ?_⟩
        obtain ⟨_, hlen, hcell⟩ := World.cells?_some h1
        rw [h.len] at hcell hlen
        have hj : j < d.sz := by rw [← hlen]; exact (List.getElem?_eq_some_iff.1 hu).1
        have := hcell j hj
        rw [addr_add] at this
        rw [this]; exact hu)
      refine ⟨l, ⟨some a, cap, by rw [hll], by omega, ?_⟩, ⟨by omega, fun x hx => ?_⟩, ?_⟩
      · refine ⟨rfl, ?_, fun _ => ⟨a, rfl, fun j p hj => ?_⟩⟩
        · unfold maxLen at hm; omega
        · obtain ⟨cs', hK, _, _, hcell⟩ := hp j p hj
          exact ⟨cs', d.K_len hK, hK, hcell⟩
      · obtain ⟨i, hi⟩ := List.getElem?_of_mem hx
        obtain ⟨_, _, hw, _⟩ := hp i x hi
        exact hw
      · have := sum_le (f := m) l (fun i => Rows.uptoBulk (D i)) (fun i x hx => by obtain ⟨_, _, _, h3, _⟩ := hp i x hx; exact h3)
        simp only [Rows.uptoBulk, bulk_map, List.map_map]
        rw [hll] at this
        simp only [Function.comp_def] at *
        omega⟩
/-- The fields of a struct from the cell number o on. -/
structure OpensF {α : Type} (P : Program) (d : Kd α) (fs : List Field) (o : Nat) (wf : α → Prop) (m : α → Nat) : Prop where
  op : ∀ {H : Type} {enc : TypeId × Value → H} {w : World} {base : Nat} {sp : Nat → Bool} {held : Bool} {fuel : Nat} {cs : List Value} {xs : List (DataW H × List MemPlace)}, cs.length = o + d.sz → xs.length = fs.length →
    (∀ (i : Nat) (f : Field), fs[i]? = some f → DataW.trod enc P w base sp held fuel f.type ((cs.drop f.offset).take (P.cellsOf f.type)) = xs[i]?) → ∃ x, d.K w x (cs.drop o) ∧ wf x ∧ m x ≤ Rows.uptoBulkAll (xs.map (·.1))
theorem opensF_one {α : Type} {P : Program} {d : Kd α} {f : Field} {o : Nat} {wf : α → Prop} {m : α → Nat} (h : Opens P d f.type wf m) (ho : f.offset = o) : OpensF P d [f] o wf m :=
  ⟨fun {H enc w base sp held fuel cs xs} hl hx hf => by
    match xs, hx with
    | [y], _ =>
      have h0 := hf 0 f rfl
      rw [ho, h.len, List.take_of_length_le (by rw [List.length_drop]; omega)] at h0
      obtain ⟨x, hK, hw, hm⟩ := h.op (show _ = some y from h0)
      exact ⟨x, hK, hw, by simpa [Rows.uptoBulkAll] using hm⟩⟩
theorem opensF_cons {α β : Type} {P : Program} {d1 : Kd α} {d2 : Kd β} {f : Field} {fs : List Field} {o : Nat} {wf1 : α → Prop} {m1 : α → Nat} {wf2 : β → Prop} {m2 : β → Nat} (h1 : Opens P d1 f.type wf1 m1) (ho : f.offset = o) (h2 : OpensF P d2 fs (o + d1.sz) wf2 m2) :
    OpensF P (Kd.pair d1 d2) (f :: fs) o (fun x => wf1 x.1 ∧ wf2 x.2) (fun x => m1 x.1 + m2 x.2) :=
  ⟨fun {H enc w base sp held fuel cs xs} hl hx hf => by
    match xs, hx with
    | y :: xs, hx =>
      have hl' : cs.length = o + (d1.sz + d2.sz) := hl
      have h0 := hf 0 f rfl
      rw [ho, h1.len] at h0
      obtain ⟨x, hK, hw, hm⟩ := h1.op (show _ = some y from h0)
      obtain ⟨z, hK2, hw2, hm2⟩ := h2.op (enc := enc) (w := w) (base := base) (sp := sp) (held := held) (fuel := fuel) (cs := cs) (xs := xs) (by omega) (by simpa using hx) (fun i g hg => hf (i + 1) g (by simpa using hg))
      refine ⟨(x, z), ⟨_, _, ?_, hK, hK2⟩, ⟨hw, hw2⟩, ?_⟩
      · rw [← List.drop_drop, List.take_append_drop]
      · simp only [List.map_cons, Rows.uptoBulkAll]; omega⟩
theorem opens_struct {α β : Type} {P : Program} {d : Kd α} {t : TypeId} {fs : Array Field} {wf : α → Prop} {m : α → Nat} (f : β → α) (g : α → β) (hg : ∀ a, f (g a) = a) (hl : P.cellsOf t = d.sz) (ht : P.underlying t = some (.struct fs)) (h : OpensF P d fs.toList 0 wf m) :
    Opens P (Kd.iso d f) t (fun x => wf (f x)) (fun x => m (f x)) :=
  ⟨hl, fun {H enc w base sp held fuel cs y} ho => by
    obtain ⟨xs, n, _, rfl, hlen, hxl, hf⟩ := DataW.trod_struct ht ho
    obtain ⟨x, hK, hw, hm⟩ := h.op (enc := enc) (w := w) (base := base) (sp := sp) (held := held) (fuel := n) (cs := cs) (xs := xs) (by omega) (by simpa using hxl) (fun i f hi => hf i f (by simpa using hi))
    refine ⟨g x, ?_, ?_, ?_⟩
    · show d.K w (f (g x)) cs
      rw [hg]; simpa using hK
    · show wf (f (g x)); rw [hg]; exact hw
    · show m (f (g x)) ≤ _
      rw [hg]; simp only [Rows.uptoBulk]; omega⟩
end Go.Proofs.Ytjblahoegfojdaa.Op
