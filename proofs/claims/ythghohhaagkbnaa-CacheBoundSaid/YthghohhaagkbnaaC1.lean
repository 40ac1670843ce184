import Derived.Test.YthghohhaagkbnaaTy
set_option maxRecDepth 100000
set_option maxHeartbeats 4000000
set_option linter.unusedSimpArgs false
set_option linter.unusedVariables false
namespace Ph
open Go Go.Proofs
theorem hm : Try.prog.follows .mixedOrders = true := by kernel_rfl
/-! Things in a map, in the order in which they were put. -/
structure Th where
  key : Value
  val : Value
  goes : Int
  put : Int
  born : Nat
  one : key.oneCell' = true ∧ val.oneCell' = true
def Th.agg (x : Th) : Value := .agg #[x.key, x.val, .int .i64 x.goes, .int .i64 x.put]
def ents (l : List Th) : List (Value × Value × Nat) := l.map fun x => (x.key, x.agg, x.born)
/-- keys of one kind: they can be told apart -/
def OneKind (kd : Value → Prop) : Prop := ∀ a b, kd a → kd b → (a = b → sameK a b = some true) ∧ (a ≠ b → sameK a b = some false)
def isStrV (v : Value) : Prop := ∃ s, v = .string s
def isIntV (v : Value) : Prop := ∃ n, v = .int .i64 n
theorem kind_str : OneKind isStrV := by
  rintro a b ⟨s, rfl⟩ ⟨t, rfl⟩
  exact ⟨fun e => by cases e; simp [sameK], fun e => by simp [sameK]; exact fun h => e (by rw [h])⟩
theorem kind_int : OneKind isIntV := by
  rintro a b ⟨s, rfl⟩ ⟨t, rfl⟩
  exact ⟨fun e => by cases e; simp [sameK], fun e => by simp [sameK]; exact fun h => e (by rw [h])⟩
theorem find_none {kd : Value → Prop} (hk : OneKind kd) {k : Value} (k0 : kd k) : ∀ (l : List Th) (n : Nat), (∀ x ∈ l, kd x.key) → (∀ x ∈ l, x.key ≠ k) → findM k (ents l) n = some none
  | [], n, _, _ => rfl
  | x :: l, n, h1, h2 => by
    have hx := (hk k x.key k0 (h1 x (by simp))).2 (fun e => h2 x (by simp) e.symm)
    show findM k ((x.key, x.agg, x.born) :: ents l) n = _
    unfold findM
    rw [hx]
    exact find_none hk k0 l (n + 1) (fun y hy => h1 y (by simp [hy])) (fun y hy => h2 y (by simp [hy]))
theorem find_some {kd : Value → Prop} (hk : OneKind kd) : ∀ (l : List Th) (n i : Nat) (x : Th), (∀ x ∈ l, kd x.key) → (l.map (·.key)).Nodup → l[i]? = some x → findM x.key (ents l) n = some (some (n + i, x.agg))
  | [], n, i, x, _, _, h => by simp at h
  | y :: l, n, 0, x, h1, h2, h => by
    simp at h; subst h
    have hx := (hk y.key y.key (h1 y (by simp)) (h1 y (by simp))).1 rfl
    show findM y.key ((y.key, y.agg, y.born) :: ents l) n = _
    unfold findM
    rw [hx]; rfl
  | y :: l, n, i + 1, x, h1, h2, h => by
    simp at h
    have hm := List.mem_of_getElem? h
    rw [List.map_cons, List.nodup_cons] at h2
    have hx := (hk x.key y.key (h1 x (by simp [hm])) (h1 y (by simp))).2 (fun e => h2.1 (List.mem_map.2 ⟨x, hm, e⟩))
    show findM x.key ((y.key, y.agg, y.born) :: ents l) n = _
    unfold findM
    rw [hx]
    have := find_some hk l (n + 1) i x (fun z hz => h1 z (by simp [hz])) h2.2 h
    rw [this, show n + 1 + i = n + (i + 1) by omega]
/-- a map of things -/
structure MapT (kd : Value → Prop) (h : Heap) (id : Nat) (l : List Th) (cl : Nat) : Prop where
  lt : id < h.next
  at_ : h.get id = .live (.map (ents l) cl .own)
  keys : ∀ x ∈ l, kd x.key
  one : (l.map (·.key)).Nodup
  born : l.Pairwise fun a b => a.born < b.born
  clock : ∀ x ∈ l, x.born < cl
theorem born_inj {l : List Th} (hb : l.Pairwise fun a b => a.born < b.born) {x y : Th} (hx : x ∈ l) (hy : y ∈ l) (e : x.born = y.born) : x = y := by
  induction l with
  | nil => simp at hx
  | cons z l ih =>
    rw [List.pairwise_cons] at hb
    rcases List.mem_cons.1 hx with ex | hx' <;> rcases List.mem_cons.1 hy with ey | hy'
    · rw [ex, ey]
    · have := hb.1 y hy'; subst ex; omega
    · have := hb.1 x hx'; subst ey; omega
    · exact ih hb.2 hx' hy'
theorem find_born {l : List Th} (hb : l.Pairwise fun a b => a.born < b.born) {x : Th} (hx : x ∈ l) : (ents l).find? (fun e => e.2.2 == x.born) = some (x.key, x.agg, x.born) := by
  induction l with
  | nil => simp at hx
  | cons z l ih =>
    rw [List.pairwise_cons] at hb
    show ((z.key, z.agg, z.born) :: ents l).find? _ = _
    rw [List.find?_cons]
    rcases List.mem_cons.1 hx with ex | hx'
    · subst ex; simp
    · have := hb.1 x hx'
      have e : (z.born == x.born) = false := by simp; omega
      simp only [e]
      exact ih hb.2 hx'
theorem erase_filter {l : List Th} (hb : l.Pairwise fun a b => a.born < b.born) {i : Nat} {x : Th} (hx : l[i]? = some x) : l.eraseIdx i = l.filter fun y => !(y.born == x.born) := by
  induction l generalizing i with
  | nil => simp at hx
  | cons z l ih =>
    rw [List.pairwise_cons] at hb
    cases i with
    | zero =>
      simp at hx; subst hx
      rw [List.eraseIdx_cons_zero, List.filter_cons, if_neg (by simp)]
      refine (List.filter_eq_self.2 fun y hy => ?_).symm
      have := hb.1 y hy
      simp; omega
    | succ i =>
      simp at hx
      have hxm := List.mem_of_getElem? hx
      have := hb.1 x hxm
      rw [List.eraseIdx_cons_succ, List.filter_cons, if_pos (by simp; omega), ih hb.2 hx]
end Ph
