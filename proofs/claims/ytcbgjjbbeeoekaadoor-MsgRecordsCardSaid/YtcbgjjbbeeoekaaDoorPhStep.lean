import Derived.Test.YtcbgjjbbeeoekaaDoorPhRel
import Derived.Deep.AppendSrc
import Derived.Deep.Quiet
import Derived.RangeFuncRecord
import Derived.TacticsIn
import Derived.LoopNIn
import Derived.OrdersIn
set_option linter.unusedVariables false
namespace Ph
open Go
abbrev Kt := Regs → Heap → Prop
abbrev Qt := Ex → Regs → Heap → Prop
/-! ## What a call, what a loop is, beside memory -/
/-- whatever function; in a round of a loop over a function, or not -/
def wr (ro : Option Nat) : Fence := { Fence.wide with round := ro }
/-- the marks that loops over functions leave among what is deferred -/
def Marks (lo : Nat) (ds : List Deferred) (W : World) : Prop := ds.Nodup ∧ ∀ d ∈ ds, ∃ q, d = { target := .collected q, args := #[] } ∧ lo ≤ q ∧ W.heap[q]? = some (.deferred (some []))
def RRel (n lo : Nat) (W : World) (ρ : Ren) (r : Regs) (a : Act) : Prop := Marks lo a.defers W ∧ a.tmps.size = n ∧ ∀ t, VRel ρ (r t) (a.tmps.getD t undef)
def Lf (n lo lim : Nat) (ρ : Ren) (h : Heap) (W : World) (K : Kt) (a' : Act) (W' : World) : Prop :=
  ∃ ρ' r' h', Conc ρ' h' W' ∧ RRel n lo W' ρ' r' a' ∧ Frame lim ρ h W ρ' h' W' ∧ K r' h'
def exq : Exit → Ex → Prop
  | .normal, .normal => True
  | .exit i, .exit j => i = j
  | .ret, .ret => True
  | _, _ => False
def Lq (n lo lim : Nat) (ρ : Ren) (h : Heap) (W : World) (Q : Qt) (e : Exit) (a' : Act) (W' : World) : Prop := ∃ x, exq e x ∧ Lf n lo lim ρ h W (Q x) a' W'
def okArg : Operand → Bool | .const v => plain v | .global _ => false | _ => true
def isDefer : Op → Bool | .defer _ => true | _ => false
def okOper (n : Nat) (o : Oper) : Bool := (match o.dst with | some d => decide (d < n) | none => true) && o.op.operands.all okArg && !isDefer o.op
/-- no loop over a function in it -/
def noRF : Code → Bool
  | .seq a b => noRF a && noRF b
  | .cond _ a b => noRF a && noRF b
  | .block _ c | .loop c | .scope c => noRF c
  | .rangeFunc .. => false
  | _ => true
def okCode (n : Nat) : Code → Bool
  | .region _ ops d => ops.all (okOper n) && (!d || Region.lexB .any ops)
  | .seq a b => okCode n a && okCode n b
  | .cond c a b => okArg c && okCode n a && okCode n b
  | .block _ c | .loop c | .scope c => okCode n c
  | .rangeFunc g ps a b => okArg g && okCode n a && okCode n b && noRF a && noRF b && ps.all (fun t => decide (t < n))
  | _ => true
def CodeH (P : Program) (n : Nat) (c : Code) (Q : Qt) (r : Regs) (h : Heap) : Prop :=
  ∀ ro lo ρ W a, (ro = none ∨ noRF c = true) → lo ≤ W.heap.size → Conc ρ h W → RRel n lo W ρ r a → Code.wpIn (wr ro) 0 P c (Lq n lo h.next ρ h W Q) a W
def Loop (P : Program) (c : Code) (r : Regs) (h : Heap) [Q : Ct Qt] : Prop := ∀ n, okCode n c = true → CodeH P n (.loop c) Q.k r h
/-- a loop that goes over a function -/
def RF (P : Program) (g : Operand) (ps : Array Tmp) (assign body : Code) (r : Regs) (h : Heap) [Q : Ct Qt] : Prop := ∀ n, okCode n (.rangeFunc g ps assign body) = true → CodeH P n (.rangeFunc g ps assign body) Q.k r h
def Post (ρ : Ren) (h : Heap) (W : World) (K : Value → Heap → Prop) (e : Ending) (W' : World) : Prop :=
  ∃ ρ' h' v v', e = .returned v' ∧ VRel ρ' v v' ∧ Conc ρ' h' W' ∧ Frame h.next ρ h W ρ' h' W' ∧ K v h'
def CallsH (P : Program) (f : FuncId) (args : Array Value) (h : Heap) [K : Ct (Value → Heap → Prop)] : Prop :=
  ∀ ρ W args', Conc ρ h W → ARel ρ args args' → Go.Calls P f args' W (Post ρ h W K.k)
def Blk.lock : Blk → Blk | .cells vs .own => .cells vs .lock | .map es c .own => .map es c .lock | .iter m s e l .own => .iter m s e l .lock | .loop L .own => .loop L .lock | b => b
def Slot.lock : Slot → Slot | .live b => .live b.lock | s => s
/-- the heap, nothing of which may be written -/
def Heap.ro (h : Heap) : Heap := ⟨fun i => (h.get i).lock, h.next⟩
/-- a call that leaves all as it was, and answers plainly -/
def PureCall (P : Program) (f : FuncId) (args : Array Value) (h : Heap) [K : Ct (Value → Prop)] : Prop :=
  ∃ v, plain v = true ∧ @CallsH P f args h.ro ⟨fun u _ => u = v⟩ ∧ K.k v
def RegionH (P : Program) (ops : Array Oper) (K : Kt) (r : Regs) (h : Heap) : Prop := ∀ n id, okCode n (.region id ops true) = true → CodeH P n (.region id ops true) (fun e r h => match e with | .normal => K r h | _ => False) r h
/-- a call of yield: a round of the loop that goes over the function -/
def YieldH (P : Program) (id : Nat) (args : Array Value) (h : Heap) [K : Ct (Value → Heap → Prop)] : Prop :=
  ∀ ρ W args' c, Conc ρ h W → ARel ρ args args' → ρ id = some c → ∃ f tmps assign body, (Instr.yield c.blk args').run P W = .ok (.round c.blk f tmps assign body) W ∧ RoundIn (wr none) 0 P c.blk f tmps assign body W (Post ρ h W K.k)
/-! ## Steps -/
def onAgg (v : Value) [K : Ct (Array Value → Prop)] : Prop := match v with | .agg a => K.k a | _ => False
def onTuple (v : Value) [K : Ct (Array Value → Prop)] : Prop := match v with | .tuple a => K.k a | _ => False
def onFunc (v : Value) [K : Ct (FuncId → Array Value → Array Value → Prop)] : Prop := match v with | .func (.func f) a b => K.k f a b | _ => False
/-- a function, or yield -/
def onFn (v : Value) [K : Ct (FuncId → Array Value → Array Value → Prop)] [Y : Ct (Nat → Prop)] : Prop := match v with | .func (.func f) a b => K.k f a b | .func (.yield id) _ _ => Y.k id | _ => False
def goodFunc (P : Program) (f : FuncId) : Bool := match P.funcs[f]? with | some fn => fn.body.isSome && !(fn.name == "runtime.NumGoroutine") | none => false
def sliceOfU8 (P : Program) (t : Nat) : Bool := match P.underlying t with | some (.slice e) => (match P.underlying e with | some (.int .u8) => P.cellsOf e == 1 | _ => false) | _ => false

def put (K : Kt) (r : Regs) (d : Option Nat) (v : Value) (h : Heap) : Prop := @lett v ⟨fun v => K (upd r d v) h⟩
def putN (K : Kt) (r : Regs) (d : Option Nat) (v : Value) (cs : List Value) (h : Heap) : Prop := @lett v ⟨fun v => K (upd r d v) (h.alloc (.cells cs .own))⟩
def conv (P : Program) (s d : Nat) (K : Kt) (r : Regs) (o : Option Nat) (x : Value) (h : Heap) : Prop :=
  match x with
  | .int _ n => @onSome _ (isInt P d) ⟨fun kd => @also ((P.underlying s).isSome = true) ⟨put K r o (.int kd (kd.wrap n)) h⟩⟩
  | .slice none 0 0 => @also (isStr P d = true ∧ sliceOfU8 P s = true) ⟨put K r o (.string ⟨#[]⟩) h⟩
  | .slice (some a) n _ => @also (isStr P d = true ∧ sliceOfU8 P s = true) ⟨@onCells (h.get a.block) ⟨fun vs _ => @also (a.off + n ≤ vs.length) ⟨@onSome _ (bytesVal ((vs.drop a.off).take n)) ⟨fun bs => put K r o (.string ⟨bs.toArray⟩) h⟩⟩⟩⟩
  | .string t => @gate (.bool (isStr P d)) true ⟨@also ((P.underlying s).isSome = true) ⟨put K r o (.string t) h⟩⟩ ⟨@also ((P.underlying s).isSome = true ∧ sliceOfU8 P d = true ∧ t.size ≤ 140737488355328) ⟨putN K r o (.slice (some ⟨h.next, 0, none⟩) t.size 1) (byteCells t) h⟩⟩
  | _ => False
def sliceH (P : Program) (t : Nat) (x : Value) (lo hi : Option Value) [K : Ct (Value → Prop)] : Prop :=
  match x with
  | .slice (some a) n st => @onSome _ (elemSize P t) ⟨fun sz => @also (st = sz ∧ boundOk lo = true ∧ boundOk hi = true) ⟨@also (0 ≤ intOr lo 0 ∧ intOr lo 0 ≤ intOr hi n ∧ intOr hi n ≤ n) ⟨K.k (.slice (some ⟨a.block, a.off + (intOr lo 0).toNat * sz, none⟩) (intOr hi n - intOr lo 0).toNat st)⟩⟩⟩
  | .slice none 0 0 => @onSome _ (elemSize P t) ⟨fun sz => @also (boundOk lo = true ∧ boundOk hi = true) ⟨@also (intOr lo 0 = 0 ∧ intOr hi 0 = 0) ⟨K.k (.slice none 0 0)⟩⟩⟩
  | .string s => @also (isStr P t = true ∧ boundOk lo = true ∧ boundOk hi = true) ⟨@also (0 ≤ intOr lo 0 ∧ intOr lo 0 ≤ intOr hi s.size ∧ intOr hi s.size ≤ s.size) ⟨K.k (.string (s.extract (intOr lo 0).toNat (intOr hi s.size).toNat))⟩⟩
  | _ => False
def indexH (P : Program) (t : Nat) (x i : Value) [K : Ct (Value → Prop)] : Prop :=
  match x with
  | .string s => @onInt i ⟨fun _ i => @also (isStr P t = true) ⟨@also (0 ≤ i ∧ i < s.size) ⟨K.k (.int .u8 (s.data.toList.getD i.toNat 0).toNat)⟩⟩⟩
  | .agg cs => @onInt i ⟨fun _ i => @onSome _ (arrPart P t) ⟨fun p => @also (0 ≤ i ∧ i < p.1) ⟨@onSome _ (partOf cs (i.toNat * p.2.1, p.2.2)) ⟨K.k⟩⟩⟩⟩
  | _ => False
def newsOf (P : Program) (t : Option Nat) (sz : Nat) (x : Value) (h : Heap) [K : Ct (Nat → List Value → Prop)] : Prop :=
  match x with
  | .slice none 0 0 => @also ((match t with | some t => isSl P t | none => false) = true) ⟨K.k 0 []⟩
  | .slice (some b) m _ => @also ((match t with | some t => isSl P t | none => false) = true) ⟨@onCells (h.get b.block) ⟨fun vs _ => @also (b.off + m * sz ≤ vs.length) ⟨K.k m ((vs.drop b.off).take (m * sz))⟩⟩⟩
  | .string s => @also ((match t with | some t => isStr P t | none => false) = true ∧ sz = 1) ⟨K.k s.size (byteCells s)⟩
  | _ => False
def appendK (by_ sz : Nat) (K : Kt) (r : Regs) (d : Option Nat) (s : Value) (h : Heap) (m : Nat) (news : List Value) : Prop :=
  match s with
  | .slice none 0 0 => @also (m * by_ ≤ 140737488355328 ∧ m ≤ 9223372036854775807) ⟨@gate (.bool (decide (m = 0))) true ⟨put K r d (.slice none 0 0) h⟩ ⟨putN K r d (.slice (some ⟨h.next, 0, none⟩) m sz) news h⟩⟩
  | .slice (some a) n st => @also (st = sz) ⟨@onCells (h.get a.block) ⟨fun vs o => @also (o = .own) ⟨@also (a.off + n * sz ≤ vs.length ∧ (n + m) * by_ ≤ 140737488355328 ∧ n + m ≤ 9223372036854775807) ⟨
      @lett (.slice (some ⟨h.next, 0, none⟩) (n + m) sz) ⟨fun v => K (upd r d v) ⟨fun i => if i = h.next then .live (.cells ((vs.drop a.off).take (n * sz) ++ news) .own) else if i = a.block then .dead else h.get i, h.next + 1⟩⟩⟩⟩⟩⟩
  | _ => False
def appendH (P : Program) (t0 t1 : Option Nat) (K : Kt) (r : Regs) (d : Option Nat) (s x : Value) (h : Heap) : Prop :=
  @onSome _ t0 ⟨fun t => @onSome _ (elemZero P t) ⟨fun ez => @onSome _ (elemBytes P t) ⟨fun by_ => @newsOf P t1 ez.1 x h ⟨fun m news => @also (news.all (·.oneCell') = true) ⟨appendK by_ ez.1 K r d s h m news⟩⟩⟩⟩⟩
/-- append of make: zeros behind what is nil -/
def makeZ (by_ : Nat) (z : List Value) (K : Kt) (r : Regs) (d : Option Nat) (s x : Value) (h : Heap) : Prop :=
  match s, x with
  | .slice none 0 0, .int _ k => @also (0 ≤ k ∧ k.toNat * by_ ≤ 140737488355328 ∧ k ≤ 9223372036854775807 ∧ 0 < z.length) ⟨@gate (.bool (decide (k = 0))) true ⟨put K r d (.slice none 0 0) h⟩ ⟨putN K r d (.slice (some ⟨h.next, 0, none⟩) k.toNat z.length) (repl k.toNat z) h⟩⟩
  | _, _ => False
def appendZH (P : Program) (t0 t1 : Option Nat) (o : Option IntKind) (K : Kt) (r : Regs) (d : Option Nat) (s x : Value) (h : Heap) : Prop :=
  match o with
  | none => appendH P t0 t1 K r d s x h
  | some _ => @onSome _ t0 ⟨fun t => @onSome _ (elemZero P t) ⟨fun ez => @onSome _ (elemBytes P t) ⟨fun by_ => makeZ by_ ez.2 K r d s x h⟩⟩⟩
def loadH (P : Program) (t : Nat) (a : Addr) (h : Heap) [K : Ct (Value → Prop)] : Prop :=
  @onSome _ (aggSize P t) ⟨fun s => @onCells (h.get a.block) ⟨fun vs _ => match s with
    | none => @onSome _ (vs[a.off]?) ⟨K.k⟩
    | some n => @also (a.off + n ≤ vs.length) ⟨K.k (.agg ((vs.drop a.off).take n).toArray)⟩⟩⟩
def storeH (P : Program) (t : Nat) (a : Addr) (v : Value) (h : Heap) [K : Ct (Heap → Prop)] : Prop :=
  @onSome _ (aggSize P t) ⟨fun s => @onCells (h.get a.block) ⟨fun vs o => @also (o = .own) ⟨match s with
    | none => @also (v.oneCell' = true ∧ a.off < vs.length) ⟨K.k (h.put a.block (.live (.cells (vs.set a.off v) .own)))⟩
    | some n => @also (v.cells.size = n ∧ v.cells.all (·.oneCell') = true ∧ a.off + n ≤ vs.length) ⟨K.k (h.put a.block (.live (.cells (vs.take a.off ++ v.cells.toList ++ vs.drop (a.off + n)) .own)))⟩⟩⟩⟩
def clearH (P : Program) (t : Option Nat) (x : Value) (h : Heap) [K : Ct (Heap → Prop)] : Prop :=
  match x with
  | .slice none _ _ => @onSome _ t ⟨fun t => @onSome _ (elemZero P t) ⟨fun _ => K.k h⟩⟩
  | .slice (some a) n st => @onSome _ t ⟨fun t => @onSome _ (elemZero P t) ⟨fun ez => @onCells (h.get a.block) ⟨fun vs o => @also (o = .own) ⟨@also (st = ez.1 ∧ a.off + n * st ≤ vs.length) ⟨K.k (h.put a.block (.live (.cells (vs.take a.off ++ repl n ez.2 ++ vs.drop (a.off + n * st)) .own)))⟩⟩⟩⟩⟩
  | _ => False
def onMap (v : Slot) [K : Ct (List (Value × Value × Nat) → Nat → Own → Prop)] : Prop := match v with | .live (.map es cl o) => K.k es cl o | _ => False
def lookupH (P : Program) (t : Nat) (x k : Value) (ok : Bool) (h : Heap) [K : Ct (Value → Prop)] : Prop :=
  @onSome _ (mapTy P t) ⟨fun ke => @also (keyTy P ke.1 k = true) ⟨@onSome _ (zeroVal P ke.2) ⟨fun z =>
    match x with
    | .map none => K.k (if ok = true then .tuple #[z, .bool false] else z)
    | .map (some id) => @onMap (h.get id) ⟨fun es _ _ => @onSome _ (findM k es 0) ⟨fun f => match f with
      | none => K.k (if ok = true then .tuple #[z, .bool false] else z)
      | some p => K.k (if ok = true then .tuple #[p.2, .bool true] else p.2)⟩⟩
    | _ => False⟩⟩⟩
def setM (es : List (Value × Value × Nat)) (cl : Nat) (k v : Value) : Option (Nat × Value) → List (Value × Value × Nat) × Nat
  | none => (es ++ [(k, v, cl)], cl + 1)
  | some p => (es.modify p.1 fun e => (k, v, e.2.2), cl)
def updateH (P : Program) (t : Nat) (x k v : Value) (h : Heap) [K : Ct (Heap → Prop)] : Prop :=
  @onSome _ (mapTy P t) ⟨fun ke => @also (keyTy P ke.1 k = true) ⟨match x with
    | .map (some id) => @onMap (h.get id) ⟨fun es cl o => @also (o = .own) ⟨@onSome _ (findM k es 0) ⟨fun f => K.k (h.put id (.live (.map (setM es cl k v f).1 (setM es cl k v f).2 .own)))⟩⟩⟩
    | _ => False⟩⟩
def deleteH (P : Program) (t : Option Nat) (x k : Value) (h : Heap) [K : Ct (Heap → Prop)] : Prop :=
  @onSome _ t ⟨fun t => @onSome _ (mapTy P t) ⟨fun ke => @also (keyTy P ke.1 k = true) ⟨match x with
    | .map none => K.k h
    | .map (some id) => @onMap (h.get id) ⟨fun es cl o => @also (o = .own) ⟨@onSome _ (findM k es 0) ⟨fun f => K.k (h.put id (.live (.map (match f with | none => es | some p => es.eraseIdx p.1) cl .own)))⟩⟩⟩
    | _ => False⟩⟩⟩
def onIter (v : Slot) [K : Ct (Option Nat → Nat → Array Nat → Nat → Own → Prop)] : Prop := match v with | .live (.iter m s e l o) => K.k m s e l o | _ => False
/-- a loop over a map begins -/
def rangeH (P : Program) (t : Nat) (x : Value) (h : Heap) [K : Ct (Blk → Prop)] : Prop :=
  @onSome _ (mapTy P t) ⟨fun _ => match x with
    | .map none => K.k (.iter none 0 #[] 0 .own)
    | .map (some id) => @onMap (h.get id) ⟨fun _ cl _ => K.k (.iter (some id) cl #[] cl .own)⟩
    | _ => False⟩
/-- its next step: whichever entry that wasn't seen yet; nothing was laid into the map since -/
def nextH (v : Value) (h : Heap) [K : Ct (Value → Heap → Prop)] : Prop :=
  @onPtr v ⟨fun a => @also (a.off = 0) ⟨@onIter (h.get a.block) ⟨fun m since seen last o => @also (o = .own) ⟨match m with
    | none => K.k (.tuple #[.bool false]) h
    | some id => @onMap (h.get id) ⟨fun es cl _ => @also ((∀ e ∈ es, e.2.2 < since) ∧ since ≤ last) ⟨((∀ e ∈ es, e.2.2 ∈ seen) → K.k (.tuple #[.bool false]) h) ∧
        ∀ e ∈ es, e.2.2 ∉ seen → K.k (.tuple #[.bool true, e.1, e.2.1]) (h.put a.block (.live (.iter (some id) since (seen.push e.2.2) cl .own)))⟩⟩⟩⟩⟩⟩
def entryH (v : Value) (h : Heap) [K : Ct (Value → Prop)] : Prop :=
  @onPtr v ⟨fun a => @also (a.off = 0) ⟨@onIter (h.get a.block) ⟨fun m _ seen last _ => @onSome _ m ⟨fun id => @onSome _ seen.back? ⟨fun st => @onMap (h.get id) ⟨fun es cl _ => @also (cl = last) ⟨@onSome _ (es.find? fun e => e.2.2 == st) ⟨fun e => K.k (.tuple #[e.1, e.2.1])⟩⟩⟩⟩⟩⟩⟩⟩
def lenH (P : Program) (t : Option Nat) (v : Value) (h : Heap) [K : Ct (Value → Prop)] : Prop :=
  match v with
  | .map none => @onSome _ t ⟨fun t => @onSome _ (mapTy P t) ⟨fun _ => K.k (.int .i64 0)⟩⟩
  | .map (some id) => @onSome _ t ⟨fun t => @onSome _ (mapTy P t) ⟨fun _ => @onMap (h.get id) ⟨fun es _ _ => K.k (.int .i64 es.length)⟩⟩⟩
  | v => @onSome _ (lenv P t v) ⟨K.k⟩
/-- what has no cells has room for none -/
def capV (P : Program) (t : Option Nat) (v : Value) : Option Value := match v, t with | .slice none _ _, some t => if isSl P t then some (.int .i64 0) else none | _, _ => none
def step (P : Program) (o : Oper) (K : Kt) (r : Regs) (h : Heap) : Prop :=
  match o with
  | ⟨d, .move x, _, _, _, _⟩ | ⟨d, .assign x, _, _, _, _⟩ => put K r d (ev r x) h
  | ⟨d, .pick c a b, _, _, _, _⟩ => @onBool (ev r c) ⟨fun c => put K r d (if c = true then ev r a else ev r b) h⟩
  | ⟨d, .nilCheck x, _, _, _, _⟩ => @onPtr (ev r x) ⟨fun a => put K r d (.pointer (some a)) h⟩
  | ⟨d, .binOp op t x y _, _, _, _, _⟩ => @onSome _ (bin P t op (ev r x) (ev r y)) ⟨fun v => put K r d v h⟩
  | ⟨d, .unOp op _ x, _, _, _, _⟩ => @onSome _ (un op (ev r x)) ⟨fun v => put K r d v h⟩
  | ⟨d, .fieldAddr t x f, _, _, _, _⟩ => @onPtr (ev r x) ⟨fun a => @onSome _ (fieldOff P t f) ⟨fun o => put K r d (.pointer (some ⟨a.block, a.off + o, none⟩)) h⟩⟩
  | ⟨d, .field t x f, _, _, _, _⟩ => @onAgg (ev r x) ⟨fun cs => @onSome _ (fieldPart P t f) ⟨fun p => @onSome _ (partOf cs p) ⟨fun v => put K r d v h⟩⟩⟩
  | ⟨d, .extract x i, _, _, _, _⟩ => @onTuple (ev r x) ⟨fun vs => @onSome _ vs[i]? ⟨fun v => put K r d v h⟩⟩
  | ⟨d, .indexAddr t x i, _, _, _, _⟩ => @onSlice (ev r x) ⟨fun a n st => @onSome _ (elemSize P t) ⟨fun sz => @onInt (ev r i) ⟨fun _ i => @also (st = sz) ⟨@also (0 ≤ i ∧ i < n) ⟨put K r d (.pointer (some ⟨a.block, a.off + i.toNat * sz, none⟩)) h⟩⟩⟩⟩⟩
  | ⟨d, .index t x i, _, _, _, _⟩ => @indexH P t (ev r x) (ev r i) ⟨fun v => put K r d v h⟩
  | ⟨d, .slice t x lo hi none, _, _, _, _⟩ => @sliceH P t (ev r x) (lo.map (ev r)) (hi.map (ev r)) ⟨fun v => put K r d v h⟩
  | ⟨d, .convert s t x, _, _, _, _⟩ => conv P s t K r d (ev r x) h
  | ⟨d, .build t parts, _, _, _, _⟩ => @onSome _ (buildV P t (parts.toList.map fun p => (p.1, ev r p.2))) ⟨fun cs => put K r d (.agg cs.toArray) h⟩
  | ⟨d, .buildSlice t len parts, _, _, _, _⟩ => @onSome _ (sliceLit P t len (parts.toList.map fun p => (p.1, ev r p.2))) ⟨fun sc => @also (sc.2.all (·.oneCell') = true) ⟨putN K r d (.slice (some ⟨h.next, 0, none⟩) len sc.1) sc.2 h⟩⟩
  | ⟨d, .makeSlice t l c, _, _, _, _⟩ => @onSome _ (elemZero P t) ⟨fun ez => @onSome _ (elemBytes P t) ⟨fun by_ => @onInt (ev r l) ⟨fun _ n => @onInt (ev r c) ⟨fun _ m => @also (0 ≤ n ∧ n ≤ m ∧ m ≤ 9223372036854775807 ∧ m.toNat * by_ ≤ 140737488355328) ⟨putN K r d (.slice (some ⟨h.next, 0, none⟩) n.toNat ez.1) (repl n.toNat ez.2) h⟩⟩⟩⟩⟩
  | ⟨d, .makeFunc (.func f) first cap, _, _, _, _⟩ => put K r d (.func (.func f) (first.map (ev r)) (cap.map (ev r))) h
  | ⟨d, .makeMap t none, _, _, _, _⟩ => @lett (.map (some h.next)) ⟨fun v => K (upd r d v) (h.alloc (.map [] 0 .own))⟩
  | ⟨d, .lookup t x k ok, _, _, _, _⟩ => @lookupH P t (ev r x) (ev r k) ok h ⟨fun v => put K r d v h⟩
  | ⟨d, .mapUpdate t x k v, _, _, _, _⟩ => @updateH P t (ev r x) (ev r k) (ev r v) h ⟨fun h' => K (upd r d undef) h'⟩
  | ⟨d, .range t x, _, _, _, _⟩ => @rangeH P t (ev r x) h ⟨fun b => @lett (.pointer (some ⟨h.next, 0, none⟩)) ⟨fun v => K (upd r d v) (h.alloc b)⟩⟩
  | ⟨d, .next it false, _, _, _, _⟩ => @nextH (ev r it) h ⟨fun v h' => put K r d v h'⟩
  | ⟨d, .entry it, _, _, _, _⟩ => @entryH (ev r it) h ⟨fun v => put K r d v h⟩
  | ⟨d, .alloc t, _, _, _, _⟩ => @onSome _ (zeroOf P t) ⟨fun z => putN K r d (.pointer (some ⟨h.next, 0, none⟩)) z h⟩
  | ⟨d, .box _ x, _, _, _, _⟩ => @also ((ev r x).cells.all (·.oneCell') = true) ⟨putN K r d (.pointer (some ⟨h.next, 0, none⟩)) (ev r x).cells.toList h⟩
  | ⟨d, .load t x, _, _, _, _⟩ => @onPtr (ev r x) ⟨fun a => @loadH P t a h ⟨fun v => put K r d v h⟩⟩
  | ⟨d, .store t x v, _, _, _, _⟩ => @onPtr (ev r x) ⟨fun a => @storeH P t a (ev r v) h ⟨fun h' => K (upd r d undef) h'⟩⟩
  | ⟨d, .call { callee := .builtin .len, args := args, argTypes := ts }, _, _, _, _⟩ => @lenH P ts[0]? (ev r (args.getD 0 (.tmp 0))) h ⟨fun v => @also (args.size = 1) ⟨put K r d v h⟩⟩
  | ⟨d, .call { callee := .builtin .cap, args := args, argTypes := ts }, _, _, _, _⟩ => @onSome _ (capV P ts[0]? (ev r (args.getD 0 (.tmp 0)))) ⟨fun v => @also (args.size = 1) ⟨put K r d v h⟩⟩
  | ⟨d, .call { callee := .builtin .min, args := args, argTypes := _ }, _, _, _, _⟩ => @onSome _ (minmax false (args.toList.map (ev r))) ⟨fun v => put K r d v h⟩
  | ⟨d, .call { callee := .builtin .max, args := args, argTypes := _ }, _, _, _, _⟩ => @onSome _ (minmax true (args.toList.map (ev r))) ⟨fun v => put K r d v h⟩
  | ⟨d, .call { callee := .builtin .append, args := args, argTypes := ts }, _, _, _, _⟩ => @also (args.size = 2 ∧ ts.size = 2) ⟨appendZH P ts[0]? ts[1]? (ts[1]?.bind (isInt P)) K r d (ev r (args.getD 0 (.tmp 0))) (ev r (args.getD 1 (.tmp 0))) h⟩
  | ⟨d, .call { callee := .builtin .clear, args := args, argTypes := ts }, _, _, _, _⟩ => @also (args.size = 1) ⟨@clearH P ts[0]? (ev r (args.getD 0 (.tmp 0))) h ⟨fun h' => put K r d (.tuple #[]) h'⟩⟩
  | ⟨d, .call { callee := .builtin .delete, args := args, argTypes := ts }, _, _, _, _⟩ => @also (args.size = 2) ⟨@deleteH P ts[0]? (ev r (args.getD 0 (.tmp 0))) (ev r (args.getD 1 (.tmp 0))) h ⟨fun h' => put K r d (.tuple #[]) h'⟩⟩
  | ⟨d, .call { callee := .value f, args := args, argTypes := _ }, _, _, _, _⟩ => @onFunc (ev r f) ⟨fun f first cap => @also (goodFunc P f = true) ⟨@CallsH P f (first ++ args.map (ev r) ++ cap) h ⟨fun v h' => put K r d v h'⟩⟩⟩
  | _ => False
/-- a step that isn't in a region that draws its order: what is called may be yield -/
def stepY (P : Program) (o : Oper) (K : Kt) (r : Regs) (h : Heap) : Prop :=
  match o with
  | ⟨d, .call { callee := .value (.tmp t), args := args, argTypes := _ }, _, _, _, _⟩ => @onFn (r t) ⟨fun f first cap => @also (goodFunc P f = true) ⟨@CallsH P f (first ++ args.map (ev r) ++ cap) h ⟨fun v h' => put K r d v h'⟩⟩⟩ ⟨fun id => @YieldH P id (args.map (ev r)) h ⟨fun v h' => put K r d v h'⟩⟩
  | o => step P o K r h
def rlOp (P : Program) (o : Oper) : Bool :=
  match o.op with
  | .move _ | .assign _ | .pick .. | .nilCheck _ | .binOp .. | .unOp .. | .fieldAddr .. | .field .. | .extract .. | .indexAddr .. | .index .. | .build .. | .load .. | .lookup .. => true
  | .slice _ _ _ _ none => true
  | .makeFunc (.func _) _ _ => true
  | .convert _ d _ => !(sliceOfU8 P d)
  | .call { callee := .builtin .len, .. } | .call { callee := .builtin .cap, .. } | .call { callee := .builtin .min, .. } | .call { callee := .builtin .max, .. } => true
  | _ => false
def callOp (o : Oper) : Bool := match o.op with | .call { callee := .value _, .. } => true | _ => false
def stepQ (P : Program) (o : Oper) (K : Kt) (r : Regs) (h : Heap) : Prop :=
  match o with
  | ⟨d, .call { callee := .value f, args := args, argTypes := _ }, _, _, _, _⟩ => @onFunc (ev r f) ⟨fun f first cap => @also (goodFunc P f = true) ⟨@PureCall P f (first ++ args.map (ev r) ++ cap) h ⟨fun v => put K r d v h⟩⟩⟩
  | o => if rlOp P o = true then step P o K r h else False
def gdst (ops : Array Oper) (j : Nat) : Option Nat := (ops[j]?).bind (·.dst)
def rd (r : Regs) (d : Option Nat) : Value := match d with | some d => r d | none => undef
def otmp : Operand → Option Nat | .tmp t => some t | _ => none
def vcOps (P : Program) (ops : Array Oper) : List Oper → Kt → Regs → Heap → Prop
  | [], K, r, h => K r h
  | o :: rest, K, r, h =>
    match o.guard with
    | none => stepY P o (vcOps P ops rest K) r h
    | some (j, want) => @gate3 (rd r (gdst ops j)) want ⟨stepY P o (vcOps P ops rest K) (upd r (gdst ops j) (.bool want)) h⟩ ⟨fun _ => vcOps P ops rest K (upd (upd r (gdst ops j) (.bool !want)) o.dst undef) h⟩ ⟨fun _ => vcOps P ops rest K (upd r o.dst undef) h⟩
def vcQ (P : Program) (ops : Array Oper) : List Oper → Kt → Regs → Heap → Prop
  | [], K, r, h => K r h
  | o :: rest, K, r, h =>
    match o.guard with
    | none => stepQ P o (vcQ P ops rest K) r h
    | some (j, want) => @gate3 (rd r (gdst ops j)) want ⟨stepQ P o (vcQ P ops rest K) (upd r (gdst ops j) (.bool want)) h⟩ ⟨fun _ => vcQ P ops rest K (upd (upd r (gdst ops j) (.bool !want)) o.dst undef) h⟩ ⟨fun _ => vcQ P ops rest K (upd r o.dst undef) h⟩
def qList (P : Program) : List Oper → Bool
  | [] => true
  | o :: l => (rlOp P o || callOp o) && qList P l
def Ex.on (e : Ex) (Q : Qt) (N : Kt) (r : Regs) (h : Heap) : Prop := match e with | .normal => N r h | e => Q e r h
def Ex.blk (e : Ex) (Q : Qt) (id : Nat) (r : Regs) (h : Heap) : Prop := match e with | .exit i => if i = id then Q .normal r h else Q (.exit i) r h | e => Q e r h
def inP (i : Nat) : List Nat → Bool
  | [] => false
  | j :: l => decide (i = j) || inP i l
/-- a region that draws its order, and is met quietly: all that is in it reads or answers plainly -/
def Draw (P : Program) (pl : List Nat) (id : Nat) (l : List Oper) (r : Regs) (h : Heap) [K : Ct Kt] : Prop := if (qList P l && !inP id pl) = true then vcQ P l.toArray l K.k r h else RegionH P l.toArray K.k r h
/-- 'pl': regions that are not met quietly, whatever is in them -/
def vc (P : Program) (pl : List Nat) : Code → Qt → Regs → Heap → Prop
  | .skip, Q, r, h | .label _, Q, r, h => Q .normal r h
  | .region _ ops false, Q, r, h => vcOps P ops ops.toList (Q .normal) r h
  | .region id ops true, Q, r, h => if (qList P ops.toList && !inP id pl) = true then vcQ P ops ops.toList (Q .normal) r h else RegionH P ops (Q .normal) r h
  | .seq a b, Q, r, h => vc P pl a (fun e r h => e.on Q (vc P pl b Q) r h) r h
  | .cond c a b, Q, r, h => @gate (ev r c) true ⟨vc P pl a Q (upd r (otmp c) (.bool true)) h⟩ ⟨vc P pl b Q (upd r (otmp c) (.bool false)) h⟩
  | .block id c, Q, r, h => vc P pl c (fun e r h => e.blk Q id r h) r h
  | .loop c, Q, r, h => @Loop P c r h ⟨Q⟩
  | .rangeFunc g ps a b, Q, r, h => @RF P g ps a b r h ⟨Q⟩
  | .exit id, Q, r, h => Q (.exit id) r h
  | .ret, Q, r, h => Q .ret r h
  | _, _, _, _ => False
end Ph
