import Derived.Tactics
import Derived.KernelRfl
import Derived.Below
import Derived.LoopN
set_option linter.unusedVariables false
namespace Ph
open Go
/-! ## Registers, heaps, the ways a piece of code ends -/
abbrev Regs := Nat → Value
/-- package-level tables of the seat's program, that stand in memory from the beginning: block, cells -/
def tabs : List (Nat × List Value) := []
/-- variables of the program that hold some number -/
def gints : List Nat := [0]
def upd (r : Regs) (d : Option Nat) (v : Value) : Regs :=
  match d with | some d => fun t => if t = d then v else r t | none => r
/-- what may be done with a block: it is only read (and may lie beside another one) | it is one's own, but locked | it is one's own -/
inductive Own where | ro | lock | own
/-- a loop that goes over a function: what its rounds need of it -/
structure LoopS where
  st : LoopState
  pend : Option Code
  regs : Regs
  n : Nat
  params : Array Tmp
  assign : Code
  body : Code
inductive Blk where
  | cells (vs : List Value) (o : Own)
  | map (es : List (Value × Value × Nat)) (clock : Nat) (o : Own)
  | iter (m : Option Nat) (since : Nat) (seen : Array Nat) (last : Nat) (o : Own)
  | loop (L : LoopS) (o : Own)
inductive Slot where | free | dead | live (b : Blk)
structure Heap where
  get : Nat → Slot
  next : Nat
def Heap.put (h : Heap) (id : Nat) (s : Slot) : Heap := ⟨fun i => if i = id then s else h.get i, h.next⟩
def Heap.alloc (h : Heap) (b : Blk) : Heap := ⟨fun i => if i = h.next then .live b else h.get i, h.next + 1⟩
inductive Ex | normal | exit (id : Nat) | ret
class Ct (τ : Type) where k : τ
def ev (r : Regs) : Operand → Value
  | .tmp t => r t | .const v => v | .global g => .pointer (some ⟨g, 0, none⟩) | .func f => .func (.func f) #[] #[]
/-! ## What the types say -/
def fieldOff (P : Program) (t f : Nat) : Option Nat :=
  match P.underlying t with
  | some (.struct fs) => match fs[f]? with | some f => if P.cellsOf f.type = 0 then none else some f.offset | none => none
  | _ => none
def elemSize (P : Program) (t : Nat) : Option Nat :=
  match P.underlying t with | some (.slice e) => if (P.info? e).isSome then some (P.cellsOf e) else none | _ => none
def isInt (P : Program) (t : Nat) : Option IntKind :=
  match P.underlying t with | some (.int k) => some k | _ => none
/-- none: one cell; some n: a struct or an array of n cells -/
def aggSize (P : Program) (t : Nat) : Option (Option Nat) :=
  match P.info? t, P.underlying t with
  | some i, some (.struct _) | some i, some (.array _ _) => some (some i.size)
  | some i, some _ => if i.size = 1 then some none else none
  | _, _ => none
/-- a field of a struct by value: where it begins, and how many cells (none: one, as itself) -/
def fieldPart (P : Program) (t f : Nat) : Option (Nat × Option Nat) :=
  match P.underlying t with
  | some (.struct fs) => match fs[f]? with | some f => (aggSize P f.type).map fun s => (f.offset, s) | none => none
  | _ => none
/-! ## Values taken apart, and what goes on behind -/
def onPtr (v : Value) [K : Ct (Addr → Prop)] : Prop := match v with | .pointer (some a) => K.k a | _ => False
def onBool (v : Value) [K : Ct (Bool → Prop)] : Prop := match v with | .bool a => K.k a | _ => False
def onInt (v : Value) [K : Ct (IntKind → Int → Prop)] : Prop := match v with | .int k a => K.k k a | _ => False
def onSlice (v : Value) [K : Ct (Addr → Nat → Nat → Prop)] : Prop := match v with | .slice (some a) n c => K.k a n c | _ => False
def onSome {α : Type} (v : Option α) [K : Ct (α → Prop)] : Prop := match v with | some a => K.k a | _ => False
def onCells (v : Slot) [K : Ct (List Value → Own → Prop)] : Prop := match v with | .live (.cells vs o) => K.k vs o | _ => False
def lett (v : Value) [K : Ct (Value → Prop)] : Prop := K.k v
def gate (v : Value) (want : Bool) [A : Ct Prop] [B : Ct Prop] : Prop := match v with | .bool b => if b = want then A.k else B.k | _ => False
def also (A : Prop) [B : Ct Prop] : Prop := A ∧ B.k
section
variable {α : Type} {A B : Prop} {b c : Bool}
theorem onPtr_ptr {a K} : @onPtr (.pointer (some a)) ⟨K⟩ = K a := Eq.trans rfl rfl
theorem onBool_b {a K} : @onBool (.bool a) ⟨K⟩ = K a := Eq.trans rfl rfl
theorem onInt_i {k a K} : @onInt (.int k a) ⟨K⟩ = K k a := Eq.trans rfl rfl
theorem onSlice_s {a n c K} : @onSlice (.slice (some a) n c) ⟨K⟩ = K a n c := Eq.trans rfl rfl
theorem onSome_s {a : α} {K} : @onSome α (some a) ⟨K⟩ = K a := Eq.trans rfl rfl
theorem onCells_c {vs o K} : @onCells (.live (.cells vs o)) ⟨K⟩ = K vs o := Eq.trans rfl rfl
theorem lett_eq {v K} : @lett v ⟨K⟩ = K v := Eq.trans rfl rfl
theorem gate_tt : @gate (.bool true) true ⟨A⟩ ⟨B⟩ = A := Eq.trans rfl rfl
theorem gate_tf : @gate (.bool true) false ⟨A⟩ ⟨B⟩ = B := Eq.trans rfl rfl
theorem gate_ff : @gate (.bool false) false ⟨A⟩ ⟨B⟩ = A := Eq.trans rfl rfl
theorem gate_ft : @gate (.bool false) true ⟨A⟩ ⟨B⟩ = B := Eq.trans rfl rfl
theorem gate_dt {p : Prop} [Decidable p] : @gate (.bool (decide p)) true ⟨A⟩ ⟨B⟩ = ((p → A) ∧ (¬ p → B)) := by by_cases h : p <;> simp [gate, h]
theorem gate_df {p : Prop} [Decidable p] : @gate (.bool (decide p)) false ⟨A⟩ ⟨B⟩ = ((¬ p → A) ∧ (p → B)) := by by_cases h : p <;> simp [gate, h]
/-- a guard: what it looks at was yielded, or wasn't (then the operation is passed by) -/
def gate3 (v : Value) (want : Bool) [A : Ct Prop] [B : Ct (Unit → Prop)] [C : Ct (Nat → Prop)] : Prop := match v with | .bool b => if b = want then A.k else B.k () | .tuple a => a = #[] ∧ C.k 0 | _ => False
theorem gate3_b {b want : Bool} {A : Prop} {B : Unit → Prop} {C : Nat → Prop} : @gate3 (.bool b) want ⟨A⟩ ⟨B⟩ ⟨C⟩ = @gate (.bool b) want ⟨A⟩ ⟨B ()⟩ := Eq.trans rfl rfl
theorem gate3_u {want : Bool} {A : Prop} {B : Unit → Prop} {C : Nat → Prop} : @gate3 (.tuple #[]) want ⟨A⟩ ⟨B⟩ ⟨C⟩ = C 0 := propext ⟨fun h => h.2, fun h => ⟨rfl, h⟩⟩
theorem gate_nt {p : Prop} [Decidable p] : @gate (.bool (!decide p)) true ⟨A⟩ ⟨B⟩ = ((¬ p → A) ∧ (p → B)) := by by_cases h : p <;> simp [gate, h]
theorem gate_nf {p : Prop} [Decidable p] : @gate (.bool (!decide p)) false ⟨A⟩ ⟨B⟩ = ((p → A) ∧ (¬ p → B)) := by by_cases h : p <;> simp [gate, h]
theorem also_eq : @also A ⟨B⟩ = (A ∧ B) := Eq.trans rfl rfl
end
def plainCell : Value → Bool
  | .bool _ | .int _ _ | .string _ | .pointer none | .map none | .nilFunc | .nilIface => true
  | .slice none 0 0 => true
  | _ => false
def plain1 : Value → Bool
  | .agg cs => cs.all plainCell
  | v => plainCell v
def plain : Value → Bool
  | .tuple a => a.toList.all plain1
  | .func (.func _) a b => a.size == 0 && b.size == 0
  | .agg cs => cs.all plainCell
  | v => plainCell v
theorem plain_of_plain1 {v : Value} (h : plain1 v = true) : plain v = true := by cases v <;> first | exact h | simp [plain1, plainCell] at h
/-! ## Operations on values -/
def isBool (P : Program) (t : Nat) : Bool := match P.underlying t with | some .bool => true | _ => false
def isPtr (P : Program) (t : Nat) : Bool := match P.underlying t with | some (.pointer _) => true | _ => false
def isSl (P : Program) (t : Nat) : Bool := match P.underlying t with | some (.slice _) => true | _ => false
def isStr (P : Program) (t : Nat) : Bool := match P.underlying t with | some .string => true | _ => false
def isMapT (P : Program) (t : Nat) : Bool := match P.underlying t with | some (.map _ _) => true | _ => false
/-! Structs and arrays of numbers, texts and truths, one cell each: compared; as keys. -/
def flatTy (P : Program) (t : Nat) : Option (List Nat) :=
  if P.stoodInHeld t || P.eqGuardType P.depth t then none else
  match P.underlying t with
  | some (.struct fs) => if (fs.toList.zipIdx.all fun p => p.1.name != "_" && P.plainKey p.1.type && p.1.offset == p.2) then some (fs.toList.map (·.type)) else none
  | some (.array n e) => if P.plainKey e && P.cellsOf e == 1 && (P.info? e).isSome then some (List.replicate n e) else none
  | _ => none
def cellFit (P : Program) (t : Nat) (v : Value) : Bool :=
  match P.underlying t, v with
  | some (.int _), .int _ _ | some .string, .string _ | some .bool, .bool _ => true
  | _, _ => false
def fitsL (P : Program) : List Nat → List Value → Bool
  | [], [] => true
  | t :: ts, v :: vs => cellFit P t v && fitsL P ts vs
  | _, _ => false
def sameC : Value → Value → Option Bool
  | .int j a, .int k b => if j = k then some (decide (a = b)) else none
  | .string a, .string b => some (decide (a = b))
  | .bool a, .bool b => some (decide (a = b))
  | _, _ => none
def sameL : List Value → List Value → Option Bool
  | [], [] => some true
  | a :: as, b :: bs => match sameC a b with
    | some true => sameL as bs
    | some false => some false
    | none => none
  | _, _ => none
def aggEq (P : Program) (t : Nat) (a b : Array Value) : Option Bool :=
  match flatTy P t with
  | some ts => if fitsL P ts a.toList && fitsL P ts b.toList then sameL a.toList b.toList else none
  | none => none
def bin (P : Program) (t : Nat) (op : BinOp) (x y : Value) : Option Value :=
  match op, x, y with
  | .add, .int k a, .int k' b => if k = k' then some (.int k (k.wrap (a + b))) else none
  | .sub, .int k a, .int k' b => if k = k' then some (.int k (k.wrap (a - b))) else none
  | .mul, .int k a, .int k' b => if k = k' then some (.int k (k.wrap (a * b))) else none
  | .quo, .int k a, .int k' b => if k = k' ∧ b ≠ 0 then some (.int k (k.wrap (a.tdiv b))) else none
  | .rem, .int k a, .int k' b => if k = k' ∧ b ≠ 0 then some (.int k (a.tmod b)) else none
  | .and, .int k a, .int k' b => if k = k' then some (.int k (k.wrap (BitVec.ofInt k.bits a &&& BitVec.ofInt k.bits b).toNat)) else none
  | .or, .int k a, .int k' b => if k = k' then some (.int k (k.wrap (BitVec.ofInt k.bits a ||| BitVec.ofInt k.bits b).toNat)) else none
  | .xor, .int k a, .int k' b => if k = k' then some (.int k (k.wrap (BitVec.ofInt k.bits a ^^^ BitVec.ofInt k.bits b).toNat)) else none
  | .andNot, .int k a, .int k' b => if k = k' then some (.int k (k.wrap (BitVec.ofInt k.bits a &&& ~~~ BitVec.ofInt k.bits b).toNat)) else none
  | .lss, .int k a, .int k' b => if k = k' then some (.bool (decide (a < b))) else none
  | .leq, .int k a, .int k' b => if k = k' then some (.bool (decide (a ≤ b))) else none
  | .gtr, .int k a, .int k' b => if k = k' then some (.bool (decide (a > b))) else none
  | .geq, .int k a, .int k' b => if k = k' then some (.bool (decide (a ≥ b))) else none
  | .eql, .int k a, .int k' b => if k = k' then some (.bool (decide (a = b))) else none
  | .neq, .int k a, .int k' b => if k = k' then some (.bool (decide (a ≠ b))) else none
  | .shl, .int k a, .int _ b => if 0 ≤ b then some (.int k (k.wrap (a * 2 ^ (min b.toNat k.bits)))) else none
  | .shr, .int k a, .int _ b => if 0 ≤ b then some (.int k (a.fdiv (2 ^ (min b.toNat k.bits)))) else none
  | .add, .string a, .string b => if a.size + b.size ≤ 9223372036854775807 then some (.string (a ++ b)) else none
  | .eql, .string a, .string b => some (.bool (decide (a.toList = b.toList)))
  | .neq, .string a, .string b => some (.bool (decide (a.toList ≠ b.toList)))
  | .lss, .string a, .string b => some (.bool (Op.bytesLess a.toList b.toList))
  | .gtr, .string a, .string b => some (.bool !(Op.bytesLess a.toList b.toList || decide (a.toList = b.toList)))
  | .eql, .bool a, .bool b => if isBool P t then some (.bool (a == b)) else none
  | .neq, .bool a, .bool b => if isBool P t then some (.bool (!(a == b))) else none
  | .eql, .pointer none, .pointer none => if isPtr P t then some (.bool true) else none
  | .neq, .pointer none, .pointer none => if isPtr P t then some (.bool false) else none
  | .eql, .pointer (some _), .pointer none => if isPtr P t then some (.bool false) else none
  | .neq, .pointer (some _), .pointer none => if isPtr P t then some (.bool true) else none
  | .eql, .agg a, .agg b => (aggEq P t a b).map .bool
  | .neq, .agg a, .agg b => (aggEq P t a b).map fun x => .bool !x
  | .eql, .map a, .map none => if isMapT P t then some (.bool a.isNone) else none
  | .neq, .map a, .map none => if isMapT P t then some (.bool !a.isNone) else none
  | .eql, .slice a _ _, .slice none 0 0 => if isSl P t then some (.bool a.isNone) else none
  | .neq, .slice a _ _, .slice none 0 0 => if isSl P t then some (.bool !a.isNone) else none
  | _, _, _ => none
def un (op : UnOp) (x : Value) : Option Value :=
  match op, x with
  | .neg, .int k n => some (.int k (k.wrap (0 - n)))
  | .not, .bool b => some (.bool !b)
  | .xor, .int k n => some (.int k (k.wrap (BitVec.ofInt k.bits (if k.signed then -1 else k.max) ^^^ BitVec.ofInt k.bits n).toNat))
  | _, _ => none
def byteOfV : Value → Option UInt8 | .int .u8 n => some (UInt8.ofNat n.toNat) | _ => none
def bytesVal (vs : List Value) : Option (List UInt8) := vs.mapM byteOfV
def lenv (P : Program) (t : Option Nat) (v : Value) : Option Value :=
  match t with
  | some t => (match v with
    | .slice _ n _ => if isSl P t then some (.int .i64 n) else none
    | .string s => if isStr P t then some (.int .i64 s.size) else none
    | _ => none)
  | none => none
def minmax (mx : Bool) (l : List Value) : Option Value :=
  match l with
  | [.int k a, .int _ b] => some (.int k (if mx then (if b > a then b else a) else (if b < a then b else a)))
  | _ => none
def intOr (v : Option Value) (d : Int) : Int := match v with | some (.int _ n) => n | _ => d
def boundOk (v : Option Value) : Bool := match v with | some (.int _ _) | none => true | _ => false
def partOf (cs : Array Value) (p : Nat × Option Nat) : Option Value :=
  match p.2 with | none => cs[p.1]? | some n => some (.agg (cs.extract p.1 (p.1 + n)))

def zeroOf (P : Program) (t : Nat) : Option (List Value) :=
  match P.info? t with
  | some i => (match i.zero with | some z => if z.cells.all plainCell && z.cells.size == i.size then some z.cells.toList else none | none => none)
  | none => none
/-- where the fields of a struct lie, and how many cells they have -/
def places (P : Program) (t : Nat) : Option (List (Nat × Nat)) :=
  match P.underlying t with
  | some (.struct fs) => if fs.all (fun f => (P.info? f.type).isSome) then some (fs.toList.map fun f => (f.offset, P.cellsOf f.type)) else none
  | some (.array n e) => if (P.info? e).isSome then some ((List.range n).map fun i => (i * P.cellsOf e, P.cellsOf e)) else none
  | _ => none
/-- an array's parts: how many, how many cells each, and whether one is a struct or an array itself -/
def arrPart (P : Program) (t : Nat) : Option (Nat × Nat × Option Nat) :=
  match P.underlying t with
  | some (.array n e) => if (P.info? e).isSome then (aggSize P e).map fun s => (n, P.cellsOf e, s) else none
  | _ => none
def splice (cs : List Value) (o : Nat) (vs : List Value) : List Value := cs.take o ++ vs ++ cs.drop (o + vs.length)
def fillL (pl : Nat → Option (Nat × Nat)) : List Value → List (Nat × Value) → Option (List Value)
  | cs, [] => some cs
  | cs, (i, v) :: rest =>
    match pl i with
    | none => none
    | some p => if v.cells.size = p.2 ∧ p.1 + v.cells.size ≤ cs.length then fillL pl (splice cs p.1 v.cells.toList) rest else none
def buildV (P : Program) (t : Nat) (parts : List (Nat × Value)) : Option (List Value) :=
  match places P t, zeroOf P t with
  | some pl, some z => fillL (fun i => pl[i]?) z parts
  | _, _ => none
/-- cells of a slice's literal -/
def elemZero (P : Program) (t : Nat) : Option (Nat × List Value) :=
  match P.underlying t with
  | some (.slice e) => (match zeroOf P e with | some z => some (P.cellsOf e, z) | none => none)
  | _ => none
def repl : Nat → List Value → List Value
  | 0, _ => []
  | n + 1, z => z ++ repl n z
/-! Maps: what the types say; where a key is. -/
def mapTy (P : Program) (t : Nat) : Option (Nat × Nat) := match P.underlying t with | some (.map k e) => some (k, e) | _ => none
/-- a number, a text or a truth, and the key's type is such a one -/
def keyTy (P : Program) (t : Nat) (k : Value) : Bool :=
  match P.underlying t, k with
  | some (.int _), .int _ _ | some .string, .string _ | some .bool, .bool _ => true
  | _, .agg cs => (match flatTy P t with | some ts => fitsL P ts cs.toList | none => false)
  | _, _ => false
def sameK : Value → Value → Option Bool
  | .int j a, .int k b => if j = k then some (decide (a = b)) else none
  | .string a, .string b => some (decide (a = b))
  | .bool a, .bool b => some (decide (a = b))
  | .agg a, .agg b => sameL a.toList b.toList
  | _, _ => none
def findM (k : Value) : List (Value × Value × Nat) → Nat → Option (Option (Nat × Value))
  | [], _ => some none
  | (x, v, _) :: es, i => match sameK k x with
    | some true => some (some (i, v))
    | some false => findM k es (i + 1)
    | none => none
def zeroVal (P : Program) (t : Nat) : Option Value := (P.info? t).bind fun i => match i.zero with | some v => if plain v = true then some v else none | none => none
def sliceLit (P : Program) (t len : Nat) (parts : List (Nat × Value)) : Option (Nat × List Value) :=
  match elemZero P t with
  | some (sz, z) => if len * sz ≤ 2 ^ 24 then (fillL (fun i => some (i * sz, sz)) (repl len z) parts).map fun cs => (sz, cs) else none
  | none => none
def elemBytes (P : Program) (t : Nat) : Option Nat :=
  match P.underlying t with | some (.slice e) => (P.info? e).map (·.bytes) | _ => none
end Ph
