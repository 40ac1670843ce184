import Derived.Test.YtcbgjjbbeeoekaaDoorPhCore
set_option linter.unusedVariables false
namespace Ph
open Go
/-! ## Renamings: where an abstract block lies in memory -/
structure CB where
  blk : Nat
  sh : Nat
  sz : Nat
abbrev Ren := Nat → Option CB
inductive VRel (ρ : Ren) : Value → Value → Prop
  | same (v : Value) (h : plain v = true) : VRel ρ v v
  | ptr (id off : Nat) (c : CB) (h : ρ id = some c) : VRel ρ (.pointer (some ⟨id, off, none⟩)) (.pointer (some ⟨c.blk, c.sh + off, none⟩))
  | slice (id off n st : Nat) (c : CB) (cap : Nat) (h : ρ id = some c) (hn : n ≤ cap) (hc : c.sh + off + cap * st ≤ c.sz) :
      VRel ρ (.slice (some ⟨id, off, none⟩) n st) (.slice (some ⟨c.blk, c.sh + off, none⟩) n cap)
  | slice0 (a a' : Addr) (st : Nat) (c : CB) (h : ρ a.block = some c) : VRel ρ (.slice (some a) 0 st) (.slice (some a') 0 0)
  | map (id : Nat) (c : CB) (h : ρ id = some c) : VRel ρ (.map (some id)) (.map (some c.blk))
  | agg (xs ys : Array Value) (h : xs.size = ys.size) (hh : ∀ (i : Nat) (x y : Value), xs[i]? = some x → ys[i]? = some y → VRel ρ x y) : VRel ρ (.agg xs) (.agg ys)
  | tuple (xs ys : Array Value) (h : xs.size = ys.size) (hh : ∀ (i : Nat) (x y : Value), xs[i]? = some x → ys[i]? = some y → VRel ρ x y) : VRel ρ (.tuple xs) (.tuple ys)
  | func (f : FuncId) (xs ys us vs : Array Value) (h : xs.size = ys.size) (hh : ∀ (i : Nat) (x y : Value), xs[i]? = some x → ys[i]? = some y → VRel ρ x y)
      (h' : us.size = vs.size) (hh' : ∀ (i : Nat) (x y : Value), us[i]? = some x → vs[i]? = some y → VRel ρ x y) : VRel ρ (.func (.func f) xs us) (.func (.func f) ys vs)
  | yld (id : Nat) (c : CB) (h : ρ id = some c) : VRel ρ (.func (.yield id) #[] #[]) (.func (.yield c.blk) #[] #[])
def ARel (ρ : Ren) (xs ys : Array Value) : Prop := xs.size = ys.size ∧ ∀ (i : Nat) (x y : Value), xs[i]? = some x → ys[i]? = some y → VRel ρ x y
theorem VRel.mono {ρ ρ' : Ren} (hs : ∀ id c, ρ id = some c → ρ' id = some c) {v v' : Value} (h : VRel ρ v v') : VRel ρ' v v' := by
  induction h with
  | same v h => exact .same v h
  | ptr id off c h => exact .ptr id off c (hs _ _ h)
  | slice id off n st c cap h hn hc => exact .slice id off n st c cap (hs _ _ h) hn hc
  | slice0 a a' st c h => exact .slice0 a a' st c (hs _ _ h)
  | map id c h => exact .map id c (hs _ _ h)
  | agg xs ys h _ ih => exact .agg xs ys h ih
  | tuple xs ys h _ ih => exact .tuple xs ys h ih
  | func f xs ys us vs h _ h' _ ih ih' => exact .func f xs ys us vs h ih h' ih'
  | yld id c h => exact .yld id c (hs _ _ h)
section
variable {ρ : Ren} {v' : Value}
theorem VRel.int_inv {k n} (h : VRel ρ (.int k n) v') : v' = .int k n := by cases h; rfl
theorem VRel.bool_inv {b} (h : VRel ρ (.bool b) v') : v' = .bool b := by cases h; rfl
theorem VRel.string_inv {s} (h : VRel ρ (.string s) v') : v' = .string s := by cases h; rfl
theorem VRel.ptr_inv {a : Addr} (h : VRel ρ (.pointer (some a)) v') : ∃ c, ρ a.block = some c ∧ a.spot = none ∧ v' = .pointer (some ⟨c.blk, c.sh + a.off, none⟩) := by
  cases h with
  | same _ h => simp [plain, plainCell] at h
  | ptr id off c h => exact ⟨c, h, rfl, rfl⟩
theorem VRel.nilptr_inv (h : VRel ρ (.pointer none) v') : v' = .pointer none := by cases h; rfl
theorem VRel.slice_inv {a : Addr} {n st : Nat} (h : VRel ρ (.slice (some a) n st) v') :
    (∃ c cap, ρ a.block = some c ∧ a.spot = none ∧ v' = .slice (some ⟨c.blk, c.sh + a.off, none⟩) n cap ∧ n ≤ cap ∧ c.sh + a.off + cap * st ≤ c.sz) ∨ (n = 0 ∧ ∃ c a', ρ a.block = some c ∧ v' = .slice (some a') 0 0) := by
  cases h with
  | same _ h => simp [plain, plainCell] at h
  | slice id off n st c cap h hn hc => exact .inl ⟨c, cap, h, rfl, rfl, hn, hc⟩
  | slice0 a a' st c h => exact .inr ⟨rfl, c, a', h, rfl⟩
theorem VRel.nilslice_inv {n st : Nat} (h : VRel ρ (.slice none n st) v') : n = 0 ∧ st = 0 ∧ v' = .slice none 0 0 := by
  cases h with
  | same _ h => cases n <;> cases st <;> simp [plain, plainCell] at h ⊢
theorem ARel.of_plain {xs : Array Value} (h : xs.all plainCell = true) : ARel ρ xs xs := by
  refine ⟨rfl, fun i x y hx hy => ?_⟩
  rw [hx] at hy; cases hy
  have := Array.all_eq_true'.1 h x (Array.mem_of_getElem? hx)
  exact .same _ (by cases x <;> simp_all [plain, plainCell])
theorem VRel.agg_inv {xs : Array Value} (h : VRel ρ (.agg xs) v') : ∃ ys, v' = .agg ys ∧ ARel ρ xs ys := by
  cases h with
  | same _ h => exact ⟨xs, rfl, ARel.of_plain (by simpa [plain] using h)⟩
  | agg _ ys h hh => exact ⟨ys, rfl, h, hh⟩
theorem VRel.tuple_inv {xs : Array Value} (h : VRel ρ (.tuple xs) v') : ∃ ys, v' = .tuple ys ∧ ARel ρ xs ys := by
  cases h with
  | same _ h =>
    refine ⟨xs, rfl, rfl, fun i x y hx hy => ?_⟩
    rw [hx] at hy; cases hy
    have h : xs.toList.all plain1 = true := h
    exact .same _ (plain_of_plain1 (List.all_eq_true.1 h x (by simpa using Array.mem_of_getElem? hx)))
  | tuple _ ys h hh => exact ⟨ys, rfl, h, hh⟩
theorem VRel.func_inv {f : FuncId} {xs us : Array Value} (h : VRel ρ (.func (.func f) xs us) v') : ∃ ys vs, v' = .func (.func f) ys vs ∧ ARel ρ xs ys ∧ ARel ρ us vs := by
  cases h with
  | same _ h =>
    have h0 : xs = #[] ∧ us = #[] := by simpa [plain] using h
    obtain ⟨rfl, rfl⟩ := h0
    exact ⟨#[], #[], rfl, ⟨rfl, by simp⟩, ⟨rfl, by simp⟩⟩
  | func _ _ ys _ vs h hh h' hh' => exact ⟨ys, vs, rfl, ⟨h, hh⟩, ⟨h', hh'⟩⟩
theorem VRel.yld_inv {id : Nat} {xs us : Array Value} (h : VRel ρ (.func (.yield id) xs us) v') : ∃ c, ρ id = some c ∧ xs = #[] ∧ us = #[] ∧ v' = .func (.yield c.blk) #[] #[] := by
  cases h with
  | same _ h => simp [plain, plainCell] at h
  | yld _ c h => exact ⟨c, h, rfl, rfl, rfl⟩
theorem VRel.map_inv {id : Nat} (h : VRel ρ (.map (some id)) v') : ∃ c, ρ id = some c ∧ v' = .map (some c.blk) := by
  cases h with
  | same _ h => simp [plain, plainCell] at h
  | map _ c h => exact ⟨c, h, rfl⟩
theorem VRel.nilmap_inv (h : VRel ρ (.map none) v') : v' = .map none := by cases h; rfl
/-- one-cell values stay one-cell -/
theorem VRel.oneCell {v : Value} (h : VRel ρ v v') : v'.oneCell' = v.oneCell' := by cases h <;> rfl
theorem VRel.cells {v : Value} (h : VRel ρ v v') : ARel ρ v.cells v'.cells := by
  have one : ∀ {v v' : Value}, VRel ρ v v' → ARel ρ #[v] #[v'] := fun {v v'} h => ⟨rfl, fun i x y hx hy => by
    cases i with
    | zero => simp at hx hy; subst hx; subst hy; exact h
    | succ i => simp at hx⟩
  cases v with
  | agg xs => obtain ⟨ys, rfl, hr⟩ := h.agg_inv; exact hr
  | _ =>
    have h2 := one h
    cases h <;> exact h2
end
/-! ## What an abstract heap says of a world -/
def Blk.own : Blk → Bool | .cells _ .ro => false | _ => true
def Blk.mod : Blk → Bool | .cells _ .own | .map _ _ .own | .iter _ _ _ _ .own | .loop _ .own => true | _ => false
theorem Blk.own_of_mod {b : Blk} (h : b.mod = true) : b.own = true := by cases b <;> rename_i o <;> cases o <;> first | rfl | cases h
def Heap.owns (h : Heap) (id : Nat) : Prop := ∃ b, h.get id = .live b ∧ b.own = true
def Heap.mods (h : Heap) (id : Nat) : Prop := ∃ b, h.get id = .live b ∧ b.mod = true
def Heap.lives (h : Heap) (id : Nat) : Prop := ∃ b, h.get id = .live b
theorem Heap.owns_of_mods {h : Heap} {id : Nat} : h.mods id → h.owns id := fun ⟨b, h1, h2⟩ => ⟨b, h1, Blk.own_of_mod h2⟩
def OwnAt (ρ : Ren) (W : World) (c : CB) (vs : List Value) : Prop := ∃ cs e fr, W.heap[c.blk]? = some (.cells cs e fr) ∧ cs.size = c.sz ∧ c.sh + vs.length ≤ c.sz ∧
      (∀ (i : Nat) (v : Value), vs[i]? = some v → ∃ v', cs[c.sh + i]? = some v' ∧ VRel ρ v v') ∧ (∀ i, i < cs.size → ¬ (fr.1 ≤ i ∧ i < fr.2))
def BlkAt (ρ : Ren) (W : World) (c : CB) : Blk → Prop
  | .cells vs .ro => ∀ (i : Nat) (v : Value), vs[i]? = some v → ∃ v', W.cell? ⟨c.blk, c.sh + i, none⟩ = some v' ∧ VRel ρ v v'
  | .cells vs _ => OwnAt ρ W c vs
  | .map es clock _ => ∃ en, W.heap[c.blk]? = some (.map en clock) ∧ en.size = es.length ∧ ∀ (i : Nat) (k v : Value) (b : Nat) (e : MapEntry), es[i]? = some (k, v, b) → en[i]? = some e → plain k = true ∧ e.key = k ∧ VRel ρ v e.val ∧ e.born = b
  | .iter m since seen last _ => c.sh = 0 ∧ ∃ m', W.heap[c.blk]? = some (.mapIter m' since seen last) ∧ VRel ρ (.map m) (.map m')
  | .loop L _ => ∃ rec : Go.Loop, W.heap[c.blk]? = some (.loop rec) ∧ rec.state = L.st ∧ rec.pending = L.pend ∧ rec.params = L.params ∧ rec.assign = L.assign ∧ rec.body = L.body ∧ rec.tmps.size = L.n ∧ ∀ t, VRel ρ (L.regs t) (rec.tmps.getD t (.tuple #[]))
/-- the tables: nobody owns them -/
def Tab (ρ : Ren) (h : Heap) (W : World) : Prop := (∀ b vs, (b, vs) ∈ tabs → b < W.heap.size ∧ (∀ (i : Nat) (v : Value), vs[i]? = some v → W.cell? ⟨b, i, none⟩ = some v) ∧ ∀ id c, ρ id = some c → h.owns id → c.blk ≠ b) ∧
  ∀ b, b ∈ gints → b < W.heap.size ∧ (∃ m : Int, W.cell? ⟨b, 0, none⟩ = some (.int .i64 m)) ∧ ∀ id c, ρ id = some c → h.owns id → c.blk ≠ b
theorem Tab.keep {ρ ρ' : Ren} {h h' : Heap} {W W' : World} (T : Tab ρ h W) (hsz : W.heap.size ≤ W'.heap.size) (hk : ∀ b, b < W.heap.size → (∀ id c, ρ id = some c → h.owns id → c.blk ≠ b) → W'.heap[b]? = W.heap[b]?)
    (ho : ∀ id c, ρ' id = some c → h'.owns id → W.heap.size ≤ c.blk ∨ ∃ id0 c0, ρ id0 = some c0 ∧ h.owns id0 ∧ c0.blk = c.blk) : Tab ρ' h' W' := by
  have hcell : ∀ (b i : Nat), b < W.heap.size → (∀ id c, ρ id = some c → h.owns id → c.blk ≠ b) → W'.cell? ⟨b, i, none⟩ = W.cell? ⟨b, i, none⟩ := fun b i t1 t3 => by
    unfold World.cell?
    simp only
    rw [hk b t1 t3]
  have hown : ∀ b, b < W.heap.size → (∀ id c, ρ id = some c → h.owns id → c.blk ≠ b) → ∀ id c, ρ' id = some c → h'.owns id → c.blk ≠ b := fun b t1 t3 id c hc hoo e => by
    rcases ho id c hc hoo with hl | ⟨id0, c0, h0, ho0, e0⟩
    · omega
    · exact t3 id0 c0 h0 ho0 (e0.trans e)
  refine ⟨fun b vs hb => ?_, fun b hb => ?_⟩
  · obtain ⟨t1, t2, t3⟩ := T.1 b vs hb
    exact ⟨Nat.lt_of_lt_of_le t1 hsz, fun i v hv => (hcell b i t1 t3).trans (t2 i v hv), hown b t1 t3⟩
  · obtain ⟨t1, ⟨m, t2⟩, t3⟩ := T.2 b hb
    exact ⟨Nat.lt_of_lt_of_le t1 hsz, ⟨m, (hcell b 0 t1 t3).trans t2⟩, hown b t1 t3⟩
structure Conc (ρ : Ren) (h : Heap) (W : World) : Prop where
  at_ : ∀ id c b, ρ id = some c → h.get id = .live b → BlkAt ρ W c b
  apart : ∀ id id' c c', id ≠ id' → ρ id = some c → ρ id' = some c' → h.owns id → h.lives id' → c.blk ≠ c'.blk
  free : ∀ id, h.get id = .free → ρ id = none
  next : ∀ id, h.next ≤ id → h.get id = .free
  lt : ∀ id c, ρ id = some c → c.blk < W.heap.size
  tab : Tab ρ h W
structure Frame (lim : Nat) (ρ : Ren) (h : Heap) (W : World) (ρ' : Ren) (h' : Heap) (W' : World) : Prop where
  ren : ∀ id, id < lim → ρ' id = ρ id
  keep : ∀ id, id < lim → (ρ id = none ∨ ¬ h.mods id) → h'.get id = h.get id
  blk : ∀ b, b < W.heap.size → (∀ id c, ρ id = some c → h.mods id → c.blk ≠ b) → W'.heap[b]? = W.heap[b]?
  size : W.heap.size ≤ W'.heap.size
  nx : h.next ≤ h'.next
  own : ∀ id c, ρ' id = some c → h'.mods id → W.heap.size ≤ c.blk ∨ ∃ id0 c0, ρ id0 = some c0 ∧ h.mods id0 ∧ c0.blk = c.blk
  os : W'.os = W.os
  tape : W'.tape = W.tape
  output : W'.output = W.output
  drawn : W.drawn ≤ W'.drawn
def Bel (B : Nat) (w w' : World) : Prop := RowKit.Below B w w' ∧ w.drawn ≤ w'.drawn
theorem Frame.refl (lim ρ h W) : Frame lim ρ h W ρ h W :=
  ⟨fun _ _ => rfl, fun _ _ _ => rfl, fun _ _ _ => rfl, Nat.le_refl _, Nat.le_refl _, fun id c hc ho => .inr ⟨id, c, hc, ho, rfl⟩, rfl, rfl, rfl, Nat.le_refl _⟩
theorem Frame.mono {lim lim' ρ h W ρ' h' W'} (hl : lim' ≤ lim) (f : Frame lim ρ h W ρ' h' W') : Frame lim' ρ h W ρ' h' W' :=
  ⟨fun id hi => f.ren id (by omega), fun id hi => f.keep id (by omega), f.blk, f.size, f.nx, f.own, f.os, f.tape, f.output, f.drawn⟩
theorem mods_congr {h h' : Heap} {id : Nat} (e : h'.get id = h.get id) : h'.mods id → h.mods id := fun ⟨b, h1, h2⟩ => ⟨b, e ▸ h1, h2⟩
theorem Frame.trans {lim ρ h W ρ1 h1 W1 ρ2 h2 W2} (f : Frame lim ρ h W ρ1 h1 W1) (g : Frame lim ρ1 h1 W1 ρ2 h2 W2) : Frame lim ρ h W ρ2 h2 W2 := by
  refine ⟨fun id hi => (g.ren id hi).trans (f.ren id hi), fun id hi hn => ?_, fun b hb hno => ?_, Nat.le_trans f.size g.size, Nat.le_trans f.nx g.nx, fun id c hc ho => ?_, g.os.trans f.os, g.tape.trans f.tape, g.output.trans f.output, Nat.le_trans f.drawn g.drawn⟩
  · have e := f.keep id hi hn
    exact (g.keep id hi (hn.imp (fun h => (f.ren id hi).trans h) (fun h hm => h (mods_congr e hm)))).trans e
  · refine (g.blk b (Nat.lt_of_lt_of_le hb f.size) fun id c hc ho e => ?_).trans (f.blk b hb hno)
    rcases f.own id c hc ho with hl | ⟨id0, c0, h0, ho0, e0⟩
    · omega
    · exact hno id0 c0 h0 ho0 (e0.trans e)
  · rcases g.own id c hc ho with hl | ⟨id1, c1, h1, ho1, e1⟩
    · exact .inl (Nat.le_trans f.size hl)
    · rcases f.own id1 c1 h1 ho1 with hl | ⟨id0, c0, h0, ho0, e0⟩
      · exact .inl (by omega)
      · exact .inr ⟨id0, c0, h0, ho0, e0.trans e1⟩
/-- a draw moves nothing that is looked at -/
theorem Conc.drew {ρ h} {W : World} (H : Conc ρ h W) (n : Nat) : Conc ρ h { W with drawn := n } := by
  refine ⟨fun id c b hc hb => ?_, H.apart, H.free, H.next, H.lt, H.tab⟩
  have := H.at_ id c b hc hb
  cases b with
  | cells vs o => cases o <;> exact this
  | _ => exact this
theorem Frame.drew {lim ρ h} (W : World) (n : Nat) (hn : W.drawn ≤ n := by omega) : Frame lim ρ h W ρ h { W with drawn := n } :=
  ⟨fun _ _ => rfl, fun _ _ _ => rfl, fun _ _ _ => rfl, Nat.le_refl _, Nat.le_refl _, fun id c hc ho => .inr ⟨id, c, hc, ho, rfl⟩, rfl, rfl, rfl, hn⟩
/-! ## A block more -/
def Ren.add (ρ : Ren) (id : Nat) (c : CB) : Ren := fun i => if i = id then some c else ρ i
theorem Ren.add_le {ρ : Ren} {id : Nat} {c : CB} (hn : ρ id = none) : ∀ i x, ρ i = some x → (ρ.add id c) i = some x := by
  intro i x hx
  unfold Ren.add
  by_cases h : i = id
  · subst h; rw [hn] at hx; cases hx
  · rw [if_neg h]; exact hx
theorem push_get (h : Array Obj) (o : Obj) (b : Nat) : (h.push o)[b]? = if b = h.size then some o else h[b]? := by
  rw [Array.getElem?_push]
theorem OwnAt.mono {ρ ρ' : Ren} {W W' : World} {c : CB} {vs : List Value} (hs : ∀ id c, ρ id = some c → ρ' id = some c) (hw : W'.heap[c.blk]? = W.heap[c.blk]?) (h : OwnAt ρ W c vs) : OwnAt ρ' W' c vs := by
  obtain ⟨cs, e, fr, h1, h2, h3, h4, h5⟩ := h
  exact ⟨cs, e, fr, hw.trans h1, h2, h3, fun i v hv => by obtain ⟨v', ha, hb⟩ := h4 i v hv; exact ⟨v', ha, hb.mono hs⟩, h5⟩
theorem BlkAt.mono {ρ ρ' : Ren} {W W' : World} {c : CB} {b : Blk} (hs : ∀ id c, ρ id = some c → ρ' id = some c) (hw : W'.heap[c.blk]? = W.heap[c.blk]?) (h : BlkAt ρ W c b) : BlkAt ρ' W' c b := by
  cases b with
  | cells vs o =>
    cases o with
    | ro =>
      intro i v hv
      obtain ⟨v', ha, hb⟩ := h i v hv
      refine ⟨v', ?_, hb.mono hs⟩
      unfold World.cell? at ha ⊢
      rw [hw]; exact ha
    | lock => exact OwnAt.mono hs hw h
    | own => exact OwnAt.mono hs hw h
  | map es cl o =>
    obtain ⟨en, h1, h2, h3⟩ := h
    exact ⟨en, hw.trans h1, h2, fun i k v b e hi he => by obtain ⟨a, b, d, f⟩ := h3 i k v b e hi he; exact ⟨a, b, d.mono hs, f⟩⟩
  | iter m since seen last o =>
    obtain ⟨h0, m', h1, h2⟩ := h
    exact ⟨h0, m', hw.trans h1, h2.mono hs⟩
  | loop L o =>
    obtain ⟨rec, h1, h2, h3, h4, h5, h6, h7, h8⟩ := h
    exact ⟨rec, hw.trans h1, h2, h3, h4, h5, h6, h7, fun t => (h8 t).mono hs⟩
/-- A new block, at the abstract place 'id', which was free. -/
theorem Conc.new {ρ : Ren} {h : Heap} {W : World} (H : Conc ρ h W) (id : Nat) (hid : h.get id = .free) (b : Blk) (o : Obj) (sz nx : Nat) (hnx : h.next ≤ nx) (hnx' : id < nx)
    (hb : BlkAt (ρ.add id ⟨W.heap.size, 0, sz⟩) { W with heap := W.heap.push o } ⟨W.heap.size, 0, sz⟩ b) (lim : Nat) (hl : lim ≤ id) :
    Conc (ρ.add id ⟨W.heap.size, 0, sz⟩) ⟨fun i => if i = id then .live b else h.get i, nx⟩ { W with heap := W.heap.push o } ∧
    Frame lim ρ h W (ρ.add id ⟨W.heap.size, 0, sz⟩) ⟨fun i => if i = id then .live b else h.get i, nx⟩ { W with heap := W.heap.push o } := by
  have hn := H.free id hid
  have hold : ∀ i c, i ≠ id → (ρ.add id ⟨W.heap.size, 0, sz⟩) i = some c → ρ i = some c := fun i c hi hc => by unfold Ren.add at hc; rw [if_neg hi] at hc; exact hc
  have hheap : ∀ k, k < W.heap.size → (W.heap.push o)[k]? = W.heap[k]? := fun k hk => by rw [push_get, if_neg (by omega)]
  refine ⟨⟨fun i c x hc hx => ?_, fun i j c c' hij hc hc' ho hl => ?_, fun i hi => ?_, fun i hi => ?_, fun i c hc => ?_, H.tab.keep (by simp) (fun k hk _ => hheap k hk) fun i c hc ho => ?_⟩, ⟨fun i hi => ?_, fun i hi hr => ?_, fun k hk _ => hheap k hk, by simp, hnx, fun i c hc ho => ?_, rfl, rfl, rfl, Nat.le_refl _⟩⟩
  · by_cases e : i = id
    · subst e
      simp only [Ren.add, if_true, Option.some.injEq] at hc
      simp only [if_true, Slot.live.injEq] at hx
      subst hc; subst hx; exact hb
    · have hc' := hold i c e hc
      simp only [e, if_false] at hx
      exact (H.at_ i c x hc' hx).mono (Ren.add_le hn) (hheap _ (H.lt i c hc'))
  · by_cases e : i = id
    · subst e
      have e' : ¬ j = i := fun h => hij h.symm
      simp only [Ren.add, if_true, Option.some.injEq] at hc
      have hc2 := hold j c' e' hc'
      have := H.lt j c' hc2
      subst hc; simp only; omega
    · have hc2 := hold i c e hc
      by_cases e' : j = id
      · subst e'
        simp only [Ren.add, if_true, Option.some.injEq] at hc'
        have := H.lt i c hc2
        subst hc'; simp only; omega
      · refine H.apart i j c c' hij hc2 (hold j c' e' hc') ?_ ?_
        · obtain ⟨x, hx, hx'⟩ := ho; simp only [e, if_false] at hx; exact ⟨x, hx, hx'⟩
        · obtain ⟨x, hx⟩ := hl; simp only [e', if_false] at hx; exact ⟨x, hx⟩
  · by_cases e : i = id
    · simp [e] at hi
    · simp only [e, if_false] at hi
      unfold Ren.add; rw [if_neg e]; exact H.free i hi
  · have e : i ≠ id := fun e => by subst e; simp at hi; omega
    simp only [e, if_false]
    exact H.next i (Nat.le_trans hnx hi)
  · by_cases e : i = id
    · subst e; simp only [Ren.add, if_true, Option.some.injEq] at hc; subst hc; simp
    · have := H.lt i c (hold i c e hc); simp; omega
  · by_cases e : i = id
    · subst e; simp only [Ren.add, if_true, Option.some.injEq] at hc; subst hc; exact .inl (Nat.le_refl _)
    · obtain ⟨x, hx, hx'⟩ := ho
      simp only [e, if_false] at hx
      exact .inr ⟨i, c, hold i c e hc, ⟨x, hx, hx'⟩, rfl⟩
  · unfold Ren.add; rw [if_neg (by omega)]
  · simp only [show i ≠ id by omega, if_false]
  · by_cases e : i = id
    · subst e; simp only [Ren.add, if_true, Option.some.injEq] at hc; subst hc; exact .inl (Nat.le_refl _)
    · obtain ⟨x, hx, hx'⟩ := ho
      simp only [e, if_false] at hx
      exact .inr ⟨i, c, hold i c e hc, ⟨x, hx, hx'⟩, rfl⟩
/-- A block of one's own turns into another one, in place. -/
theorem Conc.turn {ρ : Ren} {h : Heap} {W W' : World} (H : Conc ρ h W) (id : Nat) (c : CB) (hc : ρ id = some c) (ho : h.mods id) (b : Blk)
    (hheap : ∀ k, k ≠ c.blk → W'.heap[k]? = W.heap[k]?) (hsz : W'.heap.size = W.heap.size) (h1 : W'.os = W.os) (h2 : W'.tape = W.tape) (h3 : W'.output = W.output) (h4 : W.drawn ≤ W'.drawn)
    (hb : BlkAt ρ W' c b) (lim : Nat) :
    Conc ρ (h.put id (.live b)) W' ∧ Frame lim ρ h W ρ (h.put id (.live b)) W' := by
  obtain ⟨b0, hb0, hb0'⟩ := ho
  have hlive : ∀ i, (h.put id (.live b)).lives i → h.lives i := fun i ⟨x, hx⟩ => by
    by_cases e : i = id
    · subst e; exact ⟨b0, hb0⟩
    · simp only [Heap.put, e, if_false] at hx; exact ⟨x, hx⟩
  have hown : ∀ i, (h.put id (.live b)).owns i → h.owns i := fun i ⟨x, hx, hx'⟩ => by
    by_cases e : i = id
    · subst e; exact ⟨b0, hb0, Blk.own_of_mod hb0'⟩
    · simp only [Heap.put, e, if_false] at hx; exact ⟨x, hx, hx'⟩
  have hmod : ∀ i, (h.put id (.live b)).mods i → h.mods i := fun i ⟨x, hx, hx'⟩ => by
    by_cases e : i = id
    · subst e; exact ⟨b0, hb0, hb0'⟩
    · simp only [Heap.put, e, if_false] at hx; exact ⟨x, hx, hx'⟩
  refine ⟨⟨fun i ci x hci hx => ?_, fun i j ci cj hij hci hcj hoi hlj => H.apart i j ci cj hij hci hcj (hown i hoi) (hlive j hlj), fun i hi => ?_, fun i hi => ?_, fun i ci hci => by rw [hsz]; exact H.lt i ci hci, H.tab.keep (Nat.le_of_eq hsz.symm) (fun k _ hno => hheap k (fun e => hno id c hc ⟨b0, hb0, Blk.own_of_mod hb0'⟩ e.symm)) fun i ci hci hoi => .inr ⟨i, ci, hci, hown i hoi, rfl⟩⟩,
    ⟨fun _ _ => rfl, fun i hi hr => ?_, fun k hk hno => hheap k (fun e => hno id c hc ⟨b0, hb0, hb0'⟩ e.symm), by rw [hsz]; exact Nat.le_refl _, Nat.le_refl _, fun i ci hci hoi => .inr ⟨i, ci, hci, hmod i hoi, rfl⟩, h1, h2, h3, h4⟩⟩
  · by_cases e : i = id
    · subst e
      rw [hc] at hci; cases hci
      simp only [Heap.put, if_true, Slot.live.injEq] at hx
      subst hx; exact hb
    · simp only [Heap.put, e, if_false] at hx
      exact (H.at_ i ci x hci hx).mono (fun _ _ h => h) (hheap _ (fun e' => H.apart id i c ci (fun h => e h.symm) hc hci ⟨b0, hb0, Blk.own_of_mod hb0'⟩ ⟨x, hx⟩ e'.symm))
  · by_cases e : i = id
    · subst e; simp [Heap.put] at hi
    · simp only [Heap.put, e, if_false] at hi; exact H.free i hi
  · have e : i ≠ id := fun e => by subst e; rw [H.next i hi] at hb0; cases hb0
    simp only [Heap.put, e, if_false]; exact H.next i hi
  · have e : i ≠ id := fun e => by
      subst e
      rcases hr with hr | hr
      · rw [hc] at hr; cases hr
      · exact hr ⟨b0, hb0, hb0'⟩
    simp only [Heap.put, e, if_false]
/-- A block of one's own is given up; what takes its place, there or in a new one, has a new name. -/
theorem Conc.reown {ρ : Ren} {h : Heap} {W W' : World} (H : Conc ρ h W) (id : Nat) (c : CB) (hc : ρ id = some c) (ho : h.mods id) (b : Blk) (c' : CB)
    (hheap : ∀ k, k < W.heap.size → k ≠ c.blk → W'.heap[k]? = W.heap[k]?) (hsz : W.heap.size ≤ W'.heap.size) (h1 : W'.os = W.os) (h2 : W'.tape = W.tape) (h3 : W'.output = W.output) (h4 : W.drawn ≤ W'.drawn)
    (hc' : (c'.blk = c.blk ∨ W.heap.size ≤ c'.blk)) (hlt : c'.blk < W'.heap.size) (hb : BlkAt (ρ.add h.next c') W' c' b) (lim : Nat) (hlim : lim ≤ h.next) :
    Conc (ρ.add h.next c') ⟨fun i => if i = h.next then .live b else if i = id then .dead else h.get i, h.next + 1⟩ W' ∧
    Frame lim ρ h W (ρ.add h.next c') ⟨fun i => if i = h.next then .live b else if i = id then .dead else h.get i, h.next + 1⟩ W' := by
  obtain ⟨b0, hb0, hb0'⟩ := ho
  have hnx := H.next h.next (Nat.le_refl _)
  have hn := H.free _ hnx
  have hid : id ≠ h.next := fun e => by rw [e, hnx] at hb0; cases hb0
  have hold : ∀ i x, i ≠ h.next → (ρ.add h.next c') i = some x → ρ i = some x := fun i x hi hx => by unfold Ren.add at hx; rw [if_neg hi] at hx; exact hx
  have hblk : ∀ i x, ρ i = some x → h.lives i → i ≠ id → x.blk ≠ c.blk ∧ x.blk ≠ c'.blk := fun i x hx hl hi => by
    have ha : c.blk ≠ x.blk := H.apart id i c x (fun e => hi e.symm) hc hx ⟨b0, hb0, Blk.own_of_mod hb0'⟩ hl
    have := H.lt i x hx
    rcases hc' with e | e
    · exact ⟨fun h => ha h.symm, fun h => ha (by rw [← e, h])⟩
    · exact ⟨fun h => ha h.symm, fun h => by omega⟩
  refine ⟨⟨fun i x y hx hy => ?_, fun i j x y hij hx hy hoi hlj => ?_, fun i hi => ?_, fun i hi => ?_, fun i x hx => ?_, H.tab.keep hsz (fun k hk hno => hheap k hk (fun e => hno id c hc ⟨b0, hb0, Blk.own_of_mod hb0'⟩ e.symm)) fun i x hx hoi => ?_⟩, ⟨fun i hi => ?_, fun i hi hr => ?_, fun k hk hno => hheap k hk (fun e => hno id c hc ⟨b0, hb0, hb0'⟩ e.symm), hsz, by simp, fun i x hx hoi => ?_, h1, h2, h3, h4⟩⟩
  · by_cases e : i = h.next
    · subst e
      simp only [Ren.add, if_true, Option.some.injEq] at hx
      simp only [if_true, Slot.live.injEq] at hy
      subst hx; subst hy; exact hb
    · simp only [e, if_false] at hy
      by_cases e2 : i = id
      · simp [e2] at hy
      · simp only [e2, if_false] at hy
        have hx2 := hold i x e hx
        exact (H.at_ i x y hx2 hy).mono (Ren.add_le hn) (hheap _ (H.lt i x hx2) (hblk i x hx2 ⟨y, hy⟩ e2).1)
  · by_cases e : i = h.next
    · subst e
      simp only [Ren.add, if_true, Option.some.injEq] at hx
      have ej : ¬ j = h.next := fun h => hij h.symm
      obtain ⟨z, hz⟩ := hlj
      simp only [ej, if_false] at hz
      by_cases e2 : j = id
      · simp [e2] at hz
      · simp only [e2, if_false] at hz
        rw [← hx]; exact fun h => (hblk j y (hold j y ej hy) ⟨z, hz⟩ e2).2 h.symm
    · obtain ⟨z, hz, hz'⟩ := hoi
      simp only [e, if_false] at hz
      by_cases e2 : i = id
      · simp [e2] at hz
      simp only [e2, if_false] at hz
      have hx2 := hold i x e hx
      by_cases ej : j = h.next
      · subst ej
        simp only [Ren.add, if_true, Option.some.injEq] at hy
        rw [← hy]; exact (hblk i x hx2 ⟨z, hz⟩ e2).2
      · obtain ⟨z2, hz2⟩ := hlj
        simp only [ej, if_false] at hz2
        by_cases e3 : j = id
        · simp [e3] at hz2
        simp only [e3, if_false] at hz2
        exact H.apart i j x y hij hx2 (hold j y ej hy) ⟨z, hz, hz'⟩ ⟨z2, hz2⟩
  · by_cases e : i = h.next
    · simp [e] at hi
    · simp only [e, if_false] at hi
      by_cases e2 : i = id
      · simp [e2] at hi
      · simp only [e2, if_false] at hi
        unfold Ren.add; rw [if_neg e]; exact H.free i hi
  · have e : i ≠ h.next := fun e => by subst e; simp at hi; omega
    have e2 : i ≠ id := fun e2 => by subst e2; simp at hi; rw [H.next i (by omega)] at hb0; cases hb0
    simp only [e, e2, if_false]; exact H.next i (by simp at hi; omega)
  · by_cases e : i = h.next
    · subst e; simp only [Ren.add, if_true, Option.some.injEq] at hx; subst hx; exact hlt
    · exact Nat.lt_of_lt_of_le (H.lt i x (hold i x e hx)) hsz
  · by_cases e : i = h.next
    · subst e; simp only [Ren.add, if_true, Option.some.injEq] at hx; subst hx
      rcases hc' with e | e
      · exact .inr ⟨id, c, hc, ⟨b0, hb0, Blk.own_of_mod hb0'⟩, e.symm⟩
      · exact .inl e
    · obtain ⟨z, hz, hz'⟩ := hoi
      simp only [e, if_false] at hz
      by_cases e2 : i = id
      · simp [e2] at hz
      simp only [e2, if_false] at hz
      exact .inr ⟨i, x, hold i x e hx, ⟨z, hz, hz'⟩, rfl⟩
  · unfold Ren.add; rw [if_neg (by omega)]
  · have e2 : i ≠ id := fun e2 => by
      subst e2
      rcases hr with hr | hr
      · rw [hc] at hr; cases hr
      · exact hr ⟨b0, hb0, hb0'⟩
    simp only [show i ≠ h.next by omega, e2, if_false]
  · by_cases e : i = h.next
    · subst e; simp only [Ren.add, if_true, Option.some.injEq] at hx; subst hx
      rcases hc' with e | e
      · exact .inr ⟨id, c, hc, ⟨b0, hb0, hb0'⟩, e.symm⟩
      · exact .inl e
    · obtain ⟨z, hz, hz'⟩ := hoi
      simp only [e, if_false] at hz
      by_cases e2 : i = id
      · simp [e2] at hz
      simp only [e2, if_false] at hz
      exact .inr ⟨i, x, hold i x e hx, ⟨z, hz, hz'⟩, rfl⟩
end Ph
