import Derived.Test.YtcbgjjbbeeoekaaDoorPhPlan
import Derived.Laws.Strings
set_option linter.unusedVariables false
namespace Ph
open Go
/-! ## Strings and rows of bytes, as lists of bytes -/
def str (l : List UInt8) : ByteArray := ⟨l.toArray⟩
def bc (l : List UInt8) : List Value := l.map fun b => .int .u8 b.toNat
theorem str_ex (s : ByteArray) : ∃ l, s = str l := ⟨s.data.toList, by cases s; simp [str]⟩
theorem size_str {l} : (str l).size = l.length := by simp [str, ByteArray.size]
theorem data_str {l} : (str l).data.toList = l := by simp [str]
theorem list_str {l} : (str l).toList = l := by rw [ByteArray.toList_eq, data_str]
theorem mk_str {l : List UInt8} : (⟨l.toArray⟩ : ByteArray) = str l := rfl
theorem str_empty : (⟨#[]⟩ : ByteArray) = str [] := rfl
theorem ext_str {l a b} : (str l).extract a b = str ((l.drop a).take (b - a)) := by
  apply ByteArray.ext
  rw [ByteArray.data_extract]
  apply Array.ext'
  simp [str, List.extract_eq_take_drop]
theorem app_str {l m} : str l ++ str m = str (l ++ m) := by
  apply ByteArray.ext; simp [str]
theorem bytes_str {l} : byteCells (str l) = bc l := by simp [byteCells, bc, data_str]
theorem str_inj {l m} : str l = str m ↔ l = m := ⟨fun h => by rw [← data_str (l := l), h, data_str], fun h => by rw [h]⟩
theorem bc_len {l} : (bc l).length = l.length := by simp [bc]
theorem bc_nil : bc [] = [] := rfl
theorem bc_app {l m} : bc l ++ bc m = bc (l ++ m) := by simp [bc]
theorem bc_drop {l n} : (bc l).drop n = bc (l.drop n) := by simp [bc]
theorem bc_take {l n} : (bc l).take n = bc (l.take n) := by simp [bc]
theorem bc_get {l : List UInt8} {n} (h : n < l.length) : (bc l)[n]? = some (.int .u8 ((l.getD n 0).toNat : Int)) := by simp [bc, h]
theorem bc_val {l} : bytesVal (bc l) = some l := by
  induction l with
  | nil => rfl
  | cons b l ih =>
    have h1 : byteOfV (.int .u8 (b.toNat : Int)) = some b := by simp [byteOfV]
    simp only [bytesVal, bc, List.map_cons, List.mapM_cons, h1] at ih ⊢
    rw [ih]; rfl
theorem bc_one {l} : (bc l).all (·.oneCell') = true := by
  simp only [bc, List.all_map, List.all_eq_true]; intro b _; rfl
/-- what a slice of bytes denotes in a heap -/
def SlB (h : Heap) (v : Value) (l : List UInt8) : Prop := (v = .slice none 0 0 ∧ l = []) ∨ ∃ i o vs q, v = .slice (some ⟨i, o, none⟩) l.length 1 ∧ h.get i = .live (.cells vs q) ∧ (vs.drop o).take l.length = bc l ∧ o + l.length ≤ vs.length
theorem SlB.get {l : List UInt8} {vs : List Value} {o n : Nat} (h : (vs.drop o).take l.length = bc l) (hn : n < l.length) : vs[o + n]? = some (.int .u8 ((l.getD n 0).toNat : Int)) := by
  rw [← bc_get hn, ← h, List.getElem?_take_of_lt hn, List.getElem?_drop]
theorem SlB.ro {h : Heap} {v l} (hs : SlB h v l) : SlB h.ro v l := by
  rcases hs with hs | ⟨i, o, vs, q, h1, h2, h3, h4⟩
  · exact .inl hs
  · exact .inr ⟨i, o, vs, _, h1, by rw [get_ro, h2, lock_live', lock_cells], h3, h4⟩
theorem i64wrap {x : Int} (h0 : -9223372036854775808 ≤ x) (h1 : x ≤ 9223372036854775807) : IntKind.i64.wrap x = x := by rw [IntKind.wrap_i64]; omega
theorem w_byte {b : UInt8} : IntKind.i64.wrap (b.toNat : Int) = b.toNat := by have := b.toNat_lt; rw [IntKind.wrap_i64]; omega
theorem w_byteu {b : UInt8} : IntKind.u64.wrap (b.toNat : Int) = b.toNat := by have := b.toNat_lt; simp only [IntKind.wrap, IntKind.bits, IntKind.signed]; simp; omega
theorem u64wrap {x : Int} (h0 : 0 ≤ x) (h1 : x < 18446744073709551616) : IntKind.u64.wrap x = x := by simp only [IntKind.wrap, IntKind.bits, IntKind.signed]; simp; omega
theorem u8wrap {x : Int} (h0 : 0 ≤ x) (h1 : x < 256) : IntKind.u8.wrap x = x := by simp only [IntKind.wrap, IntKind.bits, IntKind.signed]; simp; omega
theorem take_step {l : List UInt8} {i : Nat} (h : i < l.length) : l.take (i + 1) = l.take i ++ [l.getD i 0] := by rw [List.take_succ_eq_append_getElem h]; simp [h]
theorem oc_int {k n} : (Value.int k n).oneCell' = true := rfl
theorem oc_bool {b} : (Value.bool b).oneCell' = true := rfl
theorem oc_str {b} : (Value.string b).oneCell' = true := rfl
theorem oc_ptr {b} : (Value.pointer b).oneCell' = true := rfl
theorem oc_sl {a n c} : (Value.slice a n c).oneCell' = true := rfl
theorem oc_map {a} : (Value.map a).oneCell' = true := rfl
theorem oc_func {f a b} : (Value.func f a b).oneCell' = true := rfl
/-! ## Structs and rows built -/
theorem onSome_build {P : Program} {t parts} {K : List Value → Prop} : @onSome _ (buildV P t parts) ⟨K⟩ = @onSome _ (places P t) ⟨fun pl => @onSome _ (zeroOf P t) ⟨fun z => @onSome _ (fillL (fun i => pl[i]?) z parts) ⟨K⟩⟩⟩ := by
  unfold buildV
  cases places P t <;> cases zeroOf P t <;> rfl
theorem fill_nil {pl cs} : fillL pl cs [] = some cs := Eq.trans rfl rfl
theorem fill_cons {pl : Nat → Option (Nat × Nat)} {cs i v rest} {K : List Value → Prop} : @onSome _ (fillL pl cs ((i, v) :: rest)) ⟨K⟩ = @onSome _ (pl i) ⟨fun p => @also (v.cells.size = p.2 ∧ p.1 + v.cells.size ≤ cs.length) ⟨@onSome _ (fillL pl (splice cs p.1 v.cells.toList) rest) ⟨K⟩⟩⟩ := by
  have e : fillL pl cs ((i, v) :: rest) = match pl i with | none => none | some p => if v.cells.size = p.2 ∧ p.1 + v.cells.size ≤ cs.length then fillL pl (splice cs p.1 v.cells.toList) rest else none := by
    conv => lhs; unfold fillL
    cases pl i <;> rfl
  rw [e]
  cases hp : pl i with
  | none => rfl
  | some p =>
    simp only []
    by_cases hc : v.cells.size = p.2 ∧ p.1 + v.cells.size ≤ cs.length
    · rw [if_pos hc]; simp only [onSome, also]; exact propext ⟨fun h => ⟨hc, h⟩, fun h => h.2⟩
    · rw [if_neg hc]; simp only [onSome, also]; exact propext ⟨fun h => h.elim, fun h => hc h.1⟩
theorem onSome_lit {P : Program} {t len parts} {K : Nat × List Value → Prop} : @onSome _ (sliceLit P t len parts) ⟨K⟩ = @onSome _ (elemZero P t) ⟨fun ez => @also (len * ez.1 ≤ 16777216) ⟨@onSome _ (fillL (fun i => some (i * ez.1, ez.1)) (repl len ez.2) parts) ⟨fun cs => K (ez.1, cs)⟩⟩⟩ := by
  unfold sliceLit
  cases elemZero P t with
  | none => rfl
  | some ez =>
    obtain ⟨sz, z⟩ := ez
    simp only []
    by_cases hc : len * sz ≤ 2 ^ 24
    · rw [if_pos hc]; simp only [onSome, also]
      cases fillL (fun i => some (i * sz, sz)) (repl len z) parts with
      | none => exact propext ⟨fun h => h.elim, fun h => h.2⟩
      | some cs => exact propext ⟨fun h => ⟨hc, h⟩, fun h => h.2⟩
    · rw [if_neg hc]; simp only [onSome, also]; exact propext ⟨fun h => h.elim, fun h => hc h.1⟩
theorem splice_eq {cs o vs} : splice cs o vs = cs.take o ++ vs ++ cs.drop (o + vs.length) := Eq.trans rfl rfl
theorem cells_int {k n} : (Value.int k n).cells = #[.int k n] := Eq.trans rfl rfl
theorem cells_bool {b} : (Value.bool b).cells = #[.bool b] := Eq.trans rfl rfl
theorem cells_str {b} : (Value.string b).cells = #[.string b] := Eq.trans rfl rfl
theorem cells_ptr {b} : (Value.pointer b).cells = #[.pointer b] := Eq.trans rfl rfl
theorem cells_sl {a n c} : (Value.slice a n c).cells = #[.slice a n c] := Eq.trans rfl rfl
theorem cells_map {a} : (Value.map a).cells = #[.map a] := Eq.trans rfl rfl
theorem cells_func {f a b} : (Value.func f a b).cells = #[.func f a b] := Eq.trans rfl rfl
def loadK (s : Option Nat) (vs : List Value) (o : Nat) [K : Ct (Value → Prop)] : Prop := match s with
  | none => @onSome _ (vs[o]?) ⟨K.k⟩
  | some n => @also (o + n ≤ vs.length) ⟨@lett (.agg ((vs.drop o).take n).toArray) ⟨K.k⟩⟩
theorem loadK_n {vs o} {K : Value → Prop} : @loadK none vs o ⟨K⟩ = @onSome _ (vs[o]?) ⟨K⟩ := Eq.trans rfl rfl
theorem loadK_s {n vs o} {K : Value → Prop} : @loadK (some n) vs o ⟨K⟩ = @also (o + n ≤ vs.length) ⟨@lett (.agg ((vs.drop o).take n).toArray) ⟨K⟩⟩ := Eq.trans rfl rfl
theorem load_k {P : Program} {t a h} {K : Value → Prop} : @loadH P t a h ⟨K⟩ = @onSome _ (aggSize P t) ⟨fun s => @onCells (h.get a.block) ⟨fun vs _ => @loadK s vs a.off ⟨K⟩⟩⟩ := by
  unfold loadH
  cases aggSize P t with
  | none => rfl
  | some s => cases s <;> rfl
def storeK (s : Option Nat) (vs : List Value) (b o : Nat) (v : Value) (h : Heap) [K : Ct (Heap → Prop)] : Prop := match s with
  | none => @also (v.oneCell' = true ∧ o < vs.length) ⟨K.k (h.put b (.live (.cells (vs.set o v) .own)))⟩
  | some n => @also (v.cells.size = n ∧ v.cells.all (·.oneCell') = true ∧ o + n ≤ vs.length) ⟨K.k (h.put b (.live (.cells (vs.take o ++ v.cells.toList ++ vs.drop (o + n)) .own)))⟩
theorem storeK_n {vs b o v h} {K : Heap → Prop} : @storeK none vs b o v h ⟨K⟩ = @also (v.oneCell' = true ∧ o < vs.length) ⟨K (h.put b (.live (.cells (vs.set o v) .own)))⟩ := Eq.trans rfl rfl
theorem storeK_s {n vs b o v h} {K : Heap → Prop} : @storeK (some n) vs b o v h ⟨K⟩ = @also (v.cells.size = n ∧ v.cells.all (·.oneCell') = true ∧ o + n ≤ vs.length) ⟨K (h.put b (.live (.cells (vs.take o ++ v.cells.toList ++ vs.drop (o + n)) .own)))⟩ := Eq.trans rfl rfl
theorem store_k {P : Program} {t a v h} {K : Heap → Prop} : @storeH P t a v h ⟨K⟩ = @onSome _ (aggSize P t) ⟨fun s => @onCells (h.get a.block) ⟨fun vs o => @also (o = .own) ⟨@storeK s vs a.block a.off v h ⟨K⟩⟩⟩⟩ := by
  unfold storeH
  cases aggSize P t with
  | none => rfl
  | some s => cases s <;> rfl
def all2 (l : List Value) (p : Value → Bool) (n : Nat) : Bool := l.toArray.all p 0 n
theorem all_arr {l : List Value} {p : Value → Bool} {n : Nat} : l.toArray.all p 0 n = if n = l.length then l.all p else all2 l p n := by
  by_cases h : n = l.length
  · rw [if_pos h]; subst h; simp
  · rw [if_neg h]; rfl
theorem repl_zero {z} : repl 0 z = [] := Eq.trans rfl rfl
theorem repl_succ {n z} : repl (n + 1) z = z ++ repl n z := Eq.trans rfl rfl
theorem cells_agg {a : Array Value} : (Value.agg a).cells = a := Eq.trans rfl rfl
theorem repl_one {z} : repl 1 z = z ++ [] := Eq.trans rfl rfl
theorem repl_two {z} : repl 2 z = z ++ (z ++ []) := Eq.trans rfl rfl
end Ph
