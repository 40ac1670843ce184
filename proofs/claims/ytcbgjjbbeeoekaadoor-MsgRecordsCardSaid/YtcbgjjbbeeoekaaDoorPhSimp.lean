import Derived.Test.YtcbgjjbbeeoekaaDoorPhVc
set_option linter.unusedVariables false
namespace Ph
open Go
/-! what goes on behind, out of simp's sight -/
def convC (P : Program) (s d : Nat) (r : Regs) (o : Option Nat) (x : Value) (h : Heap) [K : Ct Kt] : Prop := conv P s d K.k r o x h
def appC (P : Program) (t0 t1 : Option Nat) (o : Option IntKind) (r : Regs) (d : Option Nat) (s x : Value) (h : Heap) [K : Ct Kt] : Prop := appendZH P t0 t1 o K.k r d s x h
def appKC (by_ sz : Nat) (r : Regs) (d : Option Nat) (s : Value) (h : Heap) (m : Nat) (news : List Value) [K : Ct Kt] : Prop := appendK by_ sz K.k r d s h m news
def stepQ2 (P : Program) (o : Oper) (r : Regs) (h : Heap) [K : Ct Kt] : Prop := stepQ P o K.k r h
section
variable {P : Program} {d : Option Nat} {ty : Nat} {pos : String} {af : Array Edge} {g : Option (Nat × Bool)} {K : Kt} {r : Regs} {h : Heap}
theorem s_move {x} : step P ⟨d, .move x, ty, pos, af, g⟩ K r h = put K r d (ev r x) h := Eq.trans rfl rfl
theorem s_assign {x} : step P ⟨d, .assign x, ty, pos, af, g⟩ K r h = put K r d (ev r x) h := Eq.trans rfl rfl
theorem s_pick {c a b} : step P ⟨d, .pick c a b, ty, pos, af, g⟩ K r h = @onBool (ev r c) ⟨fun c => put K r d (if c = true then ev r a else ev r b) h⟩ := Eq.trans rfl rfl
theorem s_nil {x} : step P ⟨d, .nilCheck x, ty, pos, af, g⟩ K r h = @onPtr (ev r x) ⟨fun a => put K r d (.pointer (some a)) h⟩ := Eq.trans rfl rfl
theorem s_bin {op t x y u} : step P ⟨d, .binOp op t x y u, ty, pos, af, g⟩ K r h = @onSome _ (bin P t op (ev r x) (ev r y)) ⟨fun v => put K r d v h⟩ := Eq.trans rfl rfl
theorem s_un {op t x} : step P ⟨d, .unOp op t x, ty, pos, af, g⟩ K r h = @onSome _ (un op (ev r x)) ⟨fun v => put K r d v h⟩ := Eq.trans rfl rfl
theorem s_fa {t x f} : step P ⟨d, .fieldAddr t x f, ty, pos, af, g⟩ K r h = @onPtr (ev r x) ⟨fun a => @onSome _ (fieldOff P t f) ⟨fun o => put K r d (.pointer (some ⟨a.block, a.off + o, none⟩)) h⟩⟩ := Eq.trans rfl rfl
theorem s_field {t x f} : step P ⟨d, .field t x f, ty, pos, af, g⟩ K r h = @onAgg (ev r x) ⟨fun cs => @onSome _ (fieldPart P t f) ⟨fun p => @onSome _ (partOf cs p) ⟨fun v => put K r d v h⟩⟩⟩ := Eq.trans rfl rfl
theorem s_ext {x i} : step P ⟨d, .extract x i, ty, pos, af, g⟩ K r h = @onTuple (ev r x) ⟨fun vs => @onSome _ vs[i]? ⟨fun v => put K r d v h⟩⟩ := Eq.trans rfl rfl
theorem s_ia {t x i} : step P ⟨d, .indexAddr t x i, ty, pos, af, g⟩ K r h = @onSlice (ev r x) ⟨fun a n st => @onSome _ (elemSize P t) ⟨fun sz => @onInt (ev r i) ⟨fun _ i => @also (st = sz) ⟨@also (0 ≤ i ∧ i < n) ⟨put K r d (.pointer (some ⟨a.block, a.off + i.toNat * sz, none⟩)) h⟩⟩⟩⟩⟩ := Eq.trans rfl rfl
theorem s_ix {t x i} : step P ⟨d, .index t x i, ty, pos, af, g⟩ K r h = @indexH P t (ev r x) (ev r i) ⟨fun v => put K r d v h⟩ := Eq.trans rfl rfl
theorem s_slice {t x lo hi} : step P ⟨d, .slice t x lo hi none, ty, pos, af, g⟩ K r h = @sliceH P t (ev r x) (lo.map (ev r)) (hi.map (ev r)) ⟨fun v => put K r d v h⟩ := Eq.trans rfl rfl
theorem s_conv {s t x} : step P ⟨d, .convert s t x, ty, pos, af, g⟩ K r h = @convC P s t r d (ev r x) h ⟨K⟩ := Eq.trans rfl rfl
theorem s_build {t parts} : step P ⟨d, .build t parts, ty, pos, af, g⟩ K r h = @onSome _ (buildV P t (parts.toList.map fun p => (p.1, ev r p.2))) ⟨fun cs => put K r d (.agg cs.toArray) h⟩ := Eq.trans rfl rfl
theorem s_bs {t len parts} : step P ⟨d, .buildSlice t len parts, ty, pos, af, g⟩ K r h = @onSome _ (sliceLit P t len (parts.toList.map fun p => (p.1, ev r p.2))) ⟨fun sc => @also (sc.2.all (·.oneCell') = true) ⟨putN K r d (.slice (some ⟨h.next, 0, none⟩) len sc.1) sc.2 h⟩⟩ := Eq.trans rfl rfl
theorem s_mk {t l c} : step P ⟨d, .makeSlice t l c, ty, pos, af, g⟩ K r h = @onSome _ (elemZero P t) ⟨fun ez => @onSome _ (elemBytes P t) ⟨fun by_ => @onInt (ev r l) ⟨fun _ n => @onInt (ev r c) ⟨fun _ m => @also (0 ≤ n ∧ n ≤ m ∧ m ≤ 9223372036854775807 ∧ m.toNat * by_ ≤ 140737488355328) ⟨putN K r d (.slice (some ⟨h.next, 0, none⟩) n.toNat ez.1) (repl n.toNat ez.2) h⟩⟩⟩⟩⟩ := Eq.trans rfl rfl
theorem s_mf {f first cap} : step P ⟨d, .makeFunc (.func f) first cap, ty, pos, af, g⟩ K r h = put K r d (.func (.func f) (first.map (ev r)) (cap.map (ev r))) h := Eq.trans rfl rfl
theorem s_alloc {t} : step P ⟨d, .alloc t, ty, pos, af, g⟩ K r h = @onSome _ (zeroOf P t) ⟨fun z => putN K r d (.pointer (some ⟨h.next, 0, none⟩)) z h⟩ := Eq.trans rfl rfl
theorem s_box {t x} : step P ⟨d, .box t x, ty, pos, af, g⟩ K r h = @also ((ev r x).cells.all (·.oneCell') = true) ⟨putN K r d (.pointer (some ⟨h.next, 0, none⟩)) (ev r x).cells.toList h⟩ := Eq.trans rfl rfl
theorem s_load {t x} : step P ⟨d, .load t x, ty, pos, af, g⟩ K r h = @onPtr (ev r x) ⟨fun a => @loadH P t a h ⟨fun v => put K r d v h⟩⟩ := Eq.trans rfl rfl
theorem s_store {t x v} : step P ⟨d, .store t x v, ty, pos, af, g⟩ K r h = @onPtr (ev r x) ⟨fun a => @storeH P t a (ev r v) h ⟨fun h' => K (upd r d undef) h'⟩⟩ := Eq.trans rfl rfl
theorem s_clear {args ts} : step P ⟨d, .call { callee := .builtin .clear, args := args, argTypes := ts }, ty, pos, af, g⟩ K r h = @also (args.size = 1) ⟨@clearH P ts[0]? (ev r (args.getD 0 (.tmp 0))) h ⟨fun h' => put K r d (.tuple #[]) h'⟩⟩ := Eq.trans rfl rfl
theorem clear_nil {t n st h} {K : Heap → Prop} : @clearH P t (.slice none n st) h ⟨K⟩ = @onSome _ t ⟨fun t => @onSome _ (elemZero P t) ⟨fun _ => K h⟩⟩ := Eq.trans rfl rfl
theorem clear_sl {t a n st h} {K : Heap → Prop} : @clearH P t (.slice (some a) n st) h ⟨K⟩ = @onSome _ t ⟨fun t => @onSome _ (elemZero P t) ⟨fun ez => @onCells (h.get a.block) ⟨fun vs o => @also (o = .own) ⟨@also (st = ez.1 ∧ a.off + n * st ≤ vs.length) ⟨K (h.put a.block (.live (.cells (vs.take a.off ++ repl n ez.2 ++ vs.drop (a.off + n * st)) .own)))⟩⟩⟩⟩⟩ := Eq.trans rfl rfl
theorem s_mm {t} : step P ⟨d, .makeMap t none, ty, pos, af, g⟩ K r h = @lett (.map (some h.next)) ⟨fun v => K (upd r d v) (h.alloc (.map [] 0 .own))⟩ := Eq.trans rfl rfl
theorem s_lk {t x k ok} : step P ⟨d, .lookup t x k ok, ty, pos, af, g⟩ K r h = @lookupH P t (ev r x) (ev r k) ok h ⟨fun v => put K r d v h⟩ := Eq.trans rfl rfl
theorem s_mu {t x k v} : step P ⟨d, .mapUpdate t x k v, ty, pos, af, g⟩ K r h = @updateH P t (ev r x) (ev r k) (ev r v) h ⟨fun h' => K (upd r d undef) h'⟩ := Eq.trans rfl rfl
theorem s_del {args ts} : step P ⟨d, .call { callee := .builtin .delete, args := args, argTypes := ts }, ty, pos, af, g⟩ K r h = @also (args.size = 2) ⟨@deleteH P ts[0]? (ev r (args.getD 0 (.tmp 0))) (ev r (args.getD 1 (.tmp 0))) h ⟨fun h' => put K r d (.tuple #[]) h'⟩⟩ := Eq.trans rfl rfl
theorem s_rg {t x} : step P ⟨d, .range t x, ty, pos, af, g⟩ K r h = @rangeH P t (ev r x) h ⟨fun b => @lett (.pointer (some ⟨h.next, 0, none⟩)) ⟨fun v => K (upd r d v) (h.alloc b)⟩⟩ := Eq.trans rfl rfl
theorem s_nx {it} : step P ⟨d, .next it false, ty, pos, af, g⟩ K r h = @nextH (ev r it) h ⟨fun v h' => put K r d v h'⟩ := Eq.trans rfl rfl
theorem s_en {it} : step P ⟨d, .entry it, ty, pos, af, g⟩ K r h = @entryH (ev r it) h ⟨fun v => put K r d v h⟩ := Eq.trans rfl rfl
theorem y_rg {t x} : stepY P ⟨d, .range t x, ty, pos, af, g⟩ K r h = step P ⟨d, .range t x, ty, pos, af, g⟩ K r h := Eq.trans rfl rfl
theorem y_nx {it b} : stepY P ⟨d, .next it b, ty, pos, af, g⟩ K r h = step P ⟨d, .next it b, ty, pos, af, g⟩ K r h := Eq.trans rfl rfl
theorem y_en {it} : stepY P ⟨d, .entry it, ty, pos, af, g⟩ K r h = step P ⟨d, .entry it, ty, pos, af, g⟩ K r h := Eq.trans rfl rfl
theorem l_rg {t x l} : qList P (⟨d, .range t x, ty, pos, af, g⟩ :: l) = false := Eq.trans rfl rfl
theorem l_nx {it b l} : qList P (⟨d, .next it b, ty, pos, af, g⟩ :: l) = false := Eq.trans rfl rfl
theorem l_en {it l} : qList P (⟨d, .entry it, ty, pos, af, g⟩ :: l) = false := Eq.trans rfl rfl
theorem onIter_i {m s e l o K} : @onIter (.live (.iter m s e l o)) ⟨K⟩ = K m s e l o := Eq.trans rfl rfl
theorem rg_n {t h} {K : Blk → Prop} : @rangeH P t (.map none) h ⟨K⟩ = @onSome _ (mapTy P t) ⟨fun _ => K (.iter none 0 #[] 0 .own)⟩ := Eq.trans rfl rfl
theorem rg_m {t id h} {K : Blk → Prop} : @rangeH P t (.map (some id)) h ⟨K⟩ = @onSome _ (mapTy P t) ⟨fun _ => @onMap (h.get id) ⟨fun _ cl _ => K (.iter (some id) cl #[] cl .own)⟩⟩ := Eq.trans rfl rfl
theorem nx_p {a h} {K : Value → Heap → Prop} : @nextH (.pointer (some a)) h ⟨K⟩ = @also (a.off = 0) ⟨@onIter (h.get a.block) ⟨fun m since seen last o => @also (o = .own) ⟨match m with
    | none => K (.tuple #[.bool false]) h
    | some id => @onMap (h.get id) ⟨fun es cl _ => @also ((∀ e ∈ es, e.2.2 < since) ∧ since ≤ last) ⟨((∀ e ∈ es, e.2.2 ∈ seen) → K (.tuple #[.bool false]) h) ∧
        ∀ e ∈ es, e.2.2 ∉ seen → K (.tuple #[.bool true, e.1, e.2.1]) (h.put a.block (.live (.iter (some id) since (seen.push e.2.2) cl .own)))⟩⟩⟩⟩⟩ := Eq.trans rfl rfl
theorem en_p {a h} {K : Value → Prop} : @entryH (.pointer (some a)) h ⟨K⟩ = @also (a.off = 0) ⟨@onIter (h.get a.block) ⟨fun m _ seen last _ => @onSome _ m ⟨fun id => @onSome _ seen.back? ⟨fun st => @onMap (h.get id) ⟨fun es cl _ => @also (cl = last) ⟨@onSome _ (es.find? fun e => e.2.2 == st) ⟨fun e => K (.tuple #[e.1, e.2.1])⟩⟩⟩⟩⟩⟩⟩ := Eq.trans rfl rfl
theorem y_mm {t} : stepY P ⟨d, .makeMap t none, ty, pos, af, g⟩ K r h = step P ⟨d, .makeMap t none, ty, pos, af, g⟩ K r h := Eq.trans rfl rfl
theorem y_lk {t x k ok} : stepY P ⟨d, .lookup t x k ok, ty, pos, af, g⟩ K r h = step P ⟨d, .lookup t x k ok, ty, pos, af, g⟩ K r h := Eq.trans rfl rfl
theorem y_mu {t x k v} : stepY P ⟨d, .mapUpdate t x k v, ty, pos, af, g⟩ K r h = step P ⟨d, .mapUpdate t x k v, ty, pos, af, g⟩ K r h := Eq.trans rfl rfl
theorem y_del {args ts} : stepY P ⟨d, .call { callee := .builtin .delete, args := args, argTypes := ts }, ty, pos, af, g⟩ K r h = step P ⟨d, .call { callee := .builtin .delete, args := args, argTypes := ts }, ty, pos, af, g⟩ K r h := Eq.trans rfl rfl
theorem q_lk {t x k ok} : stepQ P ⟨d, .lookup t x k ok, ty, pos, af, g⟩ K r h = step P ⟨d, .lookup t x k ok, ty, pos, af, g⟩ K r h := Eq.trans rfl rfl
theorem l_lk {t x k ok l} : qList P (⟨d, .lookup t x k ok, ty, pos, af, g⟩ :: l) = qList P l := Eq.trans rfl rfl
theorem l_mm {t x l} : qList P (⟨d, .makeMap t x, ty, pos, af, g⟩ :: l) = false := Eq.trans rfl rfl
theorem l_mu {t x k v l} : qList P (⟨d, .mapUpdate t x k v, ty, pos, af, g⟩ :: l) = false := Eq.trans rfl rfl
theorem l_del {args ts l} : qList P (⟨d, .call { callee := .builtin .delete, args := args, argTypes := ts }, ty, pos, af, g⟩ :: l) = false := Eq.trans rfl rfl
theorem onMap_m {es cl o K} : @onMap (.live (.map es cl o)) ⟨K⟩ = K es cl o := Eq.trans rfl rfl
theorem lk_n {t k ok h} {K : Value → Prop} : @lookupH P t (.map none) k ok h ⟨K⟩ = @onSome _ (mapTy P t) ⟨fun ke => @also (keyTy P ke.1 k = true) ⟨@onSome _ (zeroVal P ke.2) ⟨fun z => K (if ok = true then .tuple #[z, .bool false] else z)⟩⟩⟩ := Eq.trans rfl rfl
theorem lk_m {t id k ok h} {K : Value → Prop} : @lookupH P t (.map (some id)) k ok h ⟨K⟩ = @onSome _ (mapTy P t) ⟨fun ke => @also (keyTy P ke.1 k = true) ⟨@onSome _ (zeroVal P ke.2) ⟨fun z => @onMap (h.get id) ⟨fun es _ _ => @onSome _ (findM k es 0) ⟨fun f => match f with
      | none => K (if ok = true then .tuple #[z, .bool false] else z)
      | some p => K (if ok = true then .tuple #[p.2, .bool true] else p.2)⟩⟩⟩⟩⟩ := Eq.trans rfl rfl
theorem up_m {t id k v h} {K : Heap → Prop} : @updateH P t (.map (some id)) k v h ⟨K⟩ = @onSome _ (mapTy P t) ⟨fun ke => @also (keyTy P ke.1 k = true) ⟨@onMap (h.get id) ⟨fun es cl o => @also (o = .own) ⟨@onSome _ (findM k es 0) ⟨fun f => K (h.put id (.live (.map (setM es cl k v f).1 (setM es cl k v f).2 .own)))⟩⟩⟩⟩⟩ := Eq.trans rfl rfl
theorem setM_n {es cl k v} : setM es cl k v none = (es ++ [(k, v, cl)], cl + 1) := Eq.trans rfl rfl
theorem setM_s {es cl k v p} : setM es cl k v (some p) = (es.modify p.1 fun e => (k, v, e.2.2), cl) := Eq.trans rfl rfl
theorem del_n {t k h} {K : Heap → Prop} : @deleteH P (some t) (.map none) k h ⟨K⟩ = @onSome _ (mapTy P t) ⟨fun ke => @also (keyTy P ke.1 k = true) ⟨K h⟩⟩ := Eq.trans rfl rfl
theorem del_m {t id k h} {K : Heap → Prop} : @deleteH P (some t) (.map (some id)) k h ⟨K⟩ = @onSome _ (mapTy P t) ⟨fun ke => @also (keyTy P ke.1 k = true) ⟨@onMap (h.get id) ⟨fun es cl o => @also (o = .own) ⟨@onSome _ (findM k es 0) ⟨fun f => K (h.put id (.live (.map (match f with | none => es | some p => es.eraseIdx p.1) cl .own)))⟩⟩⟩⟩⟩ := Eq.trans rfl rfl
theorem kt_s {t s} : keyTy P t (.string s) = isStr P t := by
  unfold keyTy isStr
  cases P.underlying t with
  | none => rfl
  | some d => cases d <;> rfl
theorem kt_i {t k a} : keyTy P t (.int k a) = (isInt P t).isSome := by
  unfold keyTy isInt
  cases P.underlying t with
  | none => rfl
  | some d => cases d <;> rfl
theorem s_len {args ts} : step P ⟨d, .call { callee := .builtin .len, args := args, argTypes := ts }, ty, pos, af, g⟩ K r h = @lenH P ts[0]? (ev r (args.getD 0 (.tmp 0))) h ⟨fun v => @also (args.size = 1) ⟨put K r d v h⟩⟩ := Eq.trans rfl rfl
theorem s_cap {args ts} : step P ⟨d, .call { callee := .builtin .cap, args := args, argTypes := ts }, ty, pos, af, g⟩ K r h = @onSome _ (capV P ts[0]? (ev r (args.getD 0 (.tmp 0)))) ⟨fun v => @also (args.size = 1) ⟨put K r d v h⟩⟩ := Eq.trans rfl rfl
theorem cap_n {t n c} : capV P (some t) (.slice none n c) = (if isSl P t then some (.int .i64 0) else none) := Eq.trans rfl rfl
theorem s_min {args ts} : step P ⟨d, .call { callee := .builtin .min, args := args, argTypes := ts }, ty, pos, af, g⟩ K r h = @onSome _ (minmax false (args.toList.map (ev r))) ⟨fun v => put K r d v h⟩ := Eq.trans rfl rfl
theorem s_max {args ts} : step P ⟨d, .call { callee := .builtin .max, args := args, argTypes := ts }, ty, pos, af, g⟩ K r h = @onSome _ (minmax true (args.toList.map (ev r))) ⟨fun v => put K r d v h⟩ := Eq.trans rfl rfl
theorem s_app {args ts} : step P ⟨d, .call { callee := .builtin .append, args := args, argTypes := ts }, ty, pos, af, g⟩ K r h = @also (args.size = 2 ∧ ts.size = 2) ⟨@appC P ts[0]? ts[1]? (ts[1]?.bind (isInt P)) r d (ev r (args.getD 0 (.tmp 0))) (ev r (args.getD 1 (.tmp 0))) h ⟨K⟩⟩ := Eq.trans rfl rfl
theorem s_call {f args ts} : step P ⟨d, .call { callee := .value f, args := args, argTypes := ts }, ty, pos, af, g⟩ K r h = @onFunc (ev r f) ⟨fun f first cap => @also (goodFunc P f = true) ⟨@CallsH P f (first ++ args.map (ev r) ++ cap) h ⟨fun v h' => put K r d v h'⟩⟩⟩ := Eq.trans rfl rfl
-- what isn't in a region that draws its order
theorem y_move {x} : stepY P ⟨d, .move x, ty, pos, af, g⟩ K r h = step P ⟨d, .move x, ty, pos, af, g⟩ K r h := Eq.trans rfl rfl
theorem y_assign {x} : stepY P ⟨d, .assign x, ty, pos, af, g⟩ K r h = step P ⟨d, .assign x, ty, pos, af, g⟩ K r h := Eq.trans rfl rfl
theorem y_pick {c a b} : stepY P ⟨d, .pick c a b, ty, pos, af, g⟩ K r h = step P ⟨d, .pick c a b, ty, pos, af, g⟩ K r h := Eq.trans rfl rfl
theorem y_nil {x} : stepY P ⟨d, .nilCheck x, ty, pos, af, g⟩ K r h = step P ⟨d, .nilCheck x, ty, pos, af, g⟩ K r h := Eq.trans rfl rfl
theorem y_bin {op t x y u} : stepY P ⟨d, .binOp op t x y u, ty, pos, af, g⟩ K r h = step P ⟨d, .binOp op t x y u, ty, pos, af, g⟩ K r h := Eq.trans rfl rfl
theorem y_un {op t x} : stepY P ⟨d, .unOp op t x, ty, pos, af, g⟩ K r h = step P ⟨d, .unOp op t x, ty, pos, af, g⟩ K r h := Eq.trans rfl rfl
theorem y_fa {t x f} : stepY P ⟨d, .fieldAddr t x f, ty, pos, af, g⟩ K r h = step P ⟨d, .fieldAddr t x f, ty, pos, af, g⟩ K r h := Eq.trans rfl rfl
theorem y_field {t x f} : stepY P ⟨d, .field t x f, ty, pos, af, g⟩ K r h = step P ⟨d, .field t x f, ty, pos, af, g⟩ K r h := Eq.trans rfl rfl
theorem y_ext {x i} : stepY P ⟨d, .extract x i, ty, pos, af, g⟩ K r h = step P ⟨d, .extract x i, ty, pos, af, g⟩ K r h := Eq.trans rfl rfl
theorem y_ia {t x i} : stepY P ⟨d, .indexAddr t x i, ty, pos, af, g⟩ K r h = step P ⟨d, .indexAddr t x i, ty, pos, af, g⟩ K r h := Eq.trans rfl rfl
theorem y_ix {t x i} : stepY P ⟨d, .index t x i, ty, pos, af, g⟩ K r h = step P ⟨d, .index t x i, ty, pos, af, g⟩ K r h := Eq.trans rfl rfl
theorem y_slice {t x lo hi} : stepY P ⟨d, .slice t x lo hi none, ty, pos, af, g⟩ K r h = step P ⟨d, .slice t x lo hi none, ty, pos, af, g⟩ K r h := Eq.trans rfl rfl
theorem y_build {t parts} : stepY P ⟨d, .build t parts, ty, pos, af, g⟩ K r h = step P ⟨d, .build t parts, ty, pos, af, g⟩ K r h := Eq.trans rfl rfl
theorem y_mf {f first cap} : stepY P ⟨d, .makeFunc (.func f) first cap, ty, pos, af, g⟩ K r h = step P ⟨d, .makeFunc (.func f) first cap, ty, pos, af, g⟩ K r h := Eq.trans rfl rfl
theorem y_load {t x} : stepY P ⟨d, .load t x, ty, pos, af, g⟩ K r h = step P ⟨d, .load t x, ty, pos, af, g⟩ K r h := Eq.trans rfl rfl
theorem y_len {args ts} : stepY P ⟨d, .call { callee := .builtin .len, args := args, argTypes := ts }, ty, pos, af, g⟩ K r h = step P ⟨d, .call { callee := .builtin .len, args := args, argTypes := ts }, ty, pos, af, g⟩ K r h := Eq.trans rfl rfl
theorem y_cap {args ts} : stepY P ⟨d, .call { callee := .builtin .cap, args := args, argTypes := ts }, ty, pos, af, g⟩ K r h = step P ⟨d, .call { callee := .builtin .cap, args := args, argTypes := ts }, ty, pos, af, g⟩ K r h := Eq.trans rfl rfl
theorem y_min {args ts} : stepY P ⟨d, .call { callee := .builtin .min, args := args, argTypes := ts }, ty, pos, af, g⟩ K r h = step P ⟨d, .call { callee := .builtin .min, args := args, argTypes := ts }, ty, pos, af, g⟩ K r h := Eq.trans rfl rfl
theorem y_max {args ts} : stepY P ⟨d, .call { callee := .builtin .max, args := args, argTypes := ts }, ty, pos, af, g⟩ K r h = step P ⟨d, .call { callee := .builtin .max, args := args, argTypes := ts }, ty, pos, af, g⟩ K r h := Eq.trans rfl rfl
theorem y_conv {s t x} : stepY P ⟨d, .convert s t x, ty, pos, af, g⟩ K r h = step P ⟨d, .convert s t x, ty, pos, af, g⟩ K r h := Eq.trans rfl rfl
theorem y_bs {t len parts} : stepY P ⟨d, .buildSlice t len parts, ty, pos, af, g⟩ K r h = step P ⟨d, .buildSlice t len parts, ty, pos, af, g⟩ K r h := Eq.trans rfl rfl
theorem y_mk {t l c} : stepY P ⟨d, .makeSlice t l c, ty, pos, af, g⟩ K r h = step P ⟨d, .makeSlice t l c, ty, pos, af, g⟩ K r h := Eq.trans rfl rfl
theorem y_alloc {t} : stepY P ⟨d, .alloc t, ty, pos, af, g⟩ K r h = step P ⟨d, .alloc t, ty, pos, af, g⟩ K r h := Eq.trans rfl rfl
theorem y_box {t x} : stepY P ⟨d, .box t x, ty, pos, af, g⟩ K r h = step P ⟨d, .box t x, ty, pos, af, g⟩ K r h := Eq.trans rfl rfl
theorem y_store {t x v} : stepY P ⟨d, .store t x v, ty, pos, af, g⟩ K r h = step P ⟨d, .store t x v, ty, pos, af, g⟩ K r h := Eq.trans rfl rfl
theorem y_clear {args ts} : stepY P ⟨d, .call { callee := .builtin .clear, args := args, argTypes := ts }, ty, pos, af, g⟩ K r h = step P ⟨d, .call { callee := .builtin .clear, args := args, argTypes := ts }, ty, pos, af, g⟩ K r h := Eq.trans rfl rfl
theorem y_app {args ts} : stepY P ⟨d, .call { callee := .builtin .append, args := args, argTypes := ts }, ty, pos, af, g⟩ K r h = step P ⟨d, .call { callee := .builtin .append, args := args, argTypes := ts }, ty, pos, af, g⟩ K r h := Eq.trans rfl rfl
theorem y_callf {f args ts} : stepY P ⟨d, .call { callee := .value (.func f), args := args, argTypes := ts }, ty, pos, af, g⟩ K r h = step P ⟨d, .call { callee := .value (.func f), args := args, argTypes := ts }, ty, pos, af, g⟩ K r h := Eq.trans rfl rfl
theorem y_callt {t args ts} : stepY P ⟨d, .call { callee := .value (.tmp t), args := args, argTypes := ts }, ty, pos, af, g⟩ K r h = @onFn (r t) ⟨fun f first cap => @also (goodFunc P f = true) ⟨@CallsH P f (first ++ args.map (ev r) ++ cap) h ⟨fun v h' => put K r d v h'⟩⟩⟩ ⟨fun id => @YieldH P id (args.map (ev r)) h ⟨fun v h' => put K r d v h'⟩⟩ := Eq.trans rfl rfl
-- in a region that draws its order
theorem q_call {f args ts} : stepQ P ⟨d, .call { callee := .value f, args := args, argTypes := ts }, ty, pos, af, g⟩ K r h = @onFunc (ev r f) ⟨fun f first cap => @also (goodFunc P f = true) ⟨@PureCall P f (first ++ args.map (ev r) ++ cap) h ⟨fun v => put K r d v h⟩⟩⟩ := Eq.trans rfl rfl
theorem q_move {x} : stepQ P ⟨d, .move x, ty, pos, af, g⟩ K r h = step P ⟨d, .move x, ty, pos, af, g⟩ K r h := Eq.trans rfl rfl
theorem q_assign {x} : stepQ P ⟨d, .assign x, ty, pos, af, g⟩ K r h = step P ⟨d, .assign x, ty, pos, af, g⟩ K r h := Eq.trans rfl rfl
theorem q_pick {c a b} : stepQ P ⟨d, .pick c a b, ty, pos, af, g⟩ K r h = step P ⟨d, .pick c a b, ty, pos, af, g⟩ K r h := Eq.trans rfl rfl
theorem q_nil {x} : stepQ P ⟨d, .nilCheck x, ty, pos, af, g⟩ K r h = step P ⟨d, .nilCheck x, ty, pos, af, g⟩ K r h := Eq.trans rfl rfl
theorem q_bin {op t x y u} : stepQ P ⟨d, .binOp op t x y u, ty, pos, af, g⟩ K r h = step P ⟨d, .binOp op t x y u, ty, pos, af, g⟩ K r h := Eq.trans rfl rfl
theorem q_un {op t x} : stepQ P ⟨d, .unOp op t x, ty, pos, af, g⟩ K r h = step P ⟨d, .unOp op t x, ty, pos, af, g⟩ K r h := Eq.trans rfl rfl
theorem q_fa {t x f} : stepQ P ⟨d, .fieldAddr t x f, ty, pos, af, g⟩ K r h = step P ⟨d, .fieldAddr t x f, ty, pos, af, g⟩ K r h := Eq.trans rfl rfl
theorem q_field {t x f} : stepQ P ⟨d, .field t x f, ty, pos, af, g⟩ K r h = step P ⟨d, .field t x f, ty, pos, af, g⟩ K r h := Eq.trans rfl rfl
theorem q_ext {x i} : stepQ P ⟨d, .extract x i, ty, pos, af, g⟩ K r h = step P ⟨d, .extract x i, ty, pos, af, g⟩ K r h := Eq.trans rfl rfl
theorem q_ia {t x i} : stepQ P ⟨d, .indexAddr t x i, ty, pos, af, g⟩ K r h = step P ⟨d, .indexAddr t x i, ty, pos, af, g⟩ K r h := Eq.trans rfl rfl
theorem q_ix {t x i} : stepQ P ⟨d, .index t x i, ty, pos, af, g⟩ K r h = step P ⟨d, .index t x i, ty, pos, af, g⟩ K r h := Eq.trans rfl rfl
theorem q_slice {t x lo hi} : stepQ P ⟨d, .slice t x lo hi none, ty, pos, af, g⟩ K r h = step P ⟨d, .slice t x lo hi none, ty, pos, af, g⟩ K r h := Eq.trans rfl rfl
theorem q_conv {s t x} : stepQ P ⟨d, .convert s t x, ty, pos, af, g⟩ K r h = @gate (.bool (sliceOfU8 P t)) false ⟨step P ⟨d, .convert s t x, ty, pos, af, g⟩ K r h⟩ ⟨@stepQ2 P ⟨d, .convert s t x, ty, pos, af, g⟩ r h ⟨K⟩⟩ := by
  cases hq : sliceOfU8 P t
  · rw [gate_ff]; simp [stepQ, rlOp, hq]
  · rw [gate_tf]; rfl
theorem q_build {t parts} : stepQ P ⟨d, .build t parts, ty, pos, af, g⟩ K r h = step P ⟨d, .build t parts, ty, pos, af, g⟩ K r h := Eq.trans rfl rfl
theorem q_mf {f first cap} : stepQ P ⟨d, .makeFunc (.func f) first cap, ty, pos, af, g⟩ K r h = step P ⟨d, .makeFunc (.func f) first cap, ty, pos, af, g⟩ K r h := Eq.trans rfl rfl
theorem q_load {t x} : stepQ P ⟨d, .load t x, ty, pos, af, g⟩ K r h = step P ⟨d, .load t x, ty, pos, af, g⟩ K r h := Eq.trans rfl rfl
theorem q_len {args ts} : stepQ P ⟨d, .call { callee := .builtin .len, args := args, argTypes := ts }, ty, pos, af, g⟩ K r h = step P ⟨d, .call { callee := .builtin .len, args := args, argTypes := ts }, ty, pos, af, g⟩ K r h := Eq.trans rfl rfl
theorem q_cap {args ts} : stepQ P ⟨d, .call { callee := .builtin .cap, args := args, argTypes := ts }, ty, pos, af, g⟩ K r h = step P ⟨d, .call { callee := .builtin .cap, args := args, argTypes := ts }, ty, pos, af, g⟩ K r h := Eq.trans rfl rfl
theorem q_min {args ts} : stepQ P ⟨d, .call { callee := .builtin .min, args := args, argTypes := ts }, ty, pos, af, g⟩ K r h = step P ⟨d, .call { callee := .builtin .min, args := args, argTypes := ts }, ty, pos, af, g⟩ K r h := Eq.trans rfl rfl
theorem q_max {args ts} : stepQ P ⟨d, .call { callee := .builtin .max, args := args, argTypes := ts }, ty, pos, af, g⟩ K r h = step P ⟨d, .call { callee := .builtin .max, args := args, argTypes := ts }, ty, pos, af, g⟩ K r h := Eq.trans rfl rfl
variable {l : List Oper}
theorem l_nil : qList P [] = true := Eq.trans rfl rfl
theorem l_move {x} : qList P (⟨d, .move x, ty, pos, af, g⟩ :: l) = qList P l := Eq.trans rfl rfl
theorem l_assign {x} : qList P (⟨d, .assign x, ty, pos, af, g⟩ :: l) = qList P l := Eq.trans rfl rfl
theorem l_pick {c a b} : qList P (⟨d, .pick c a b, ty, pos, af, g⟩ :: l) = qList P l := Eq.trans rfl rfl
theorem l_nilc {x} : qList P (⟨d, .nilCheck x, ty, pos, af, g⟩ :: l) = qList P l := Eq.trans rfl rfl
theorem l_bin {op t x y u} : qList P (⟨d, .binOp op t x y u, ty, pos, af, g⟩ :: l) = qList P l := Eq.trans rfl rfl
theorem l_un {op t x} : qList P (⟨d, .unOp op t x, ty, pos, af, g⟩ :: l) = qList P l := Eq.trans rfl rfl
theorem l_fa {t x f} : qList P (⟨d, .fieldAddr t x f, ty, pos, af, g⟩ :: l) = qList P l := Eq.trans rfl rfl
theorem l_field {t x f} : qList P (⟨d, .field t x f, ty, pos, af, g⟩ :: l) = qList P l := Eq.trans rfl rfl
theorem l_ext {x i} : qList P (⟨d, .extract x i, ty, pos, af, g⟩ :: l) = qList P l := Eq.trans rfl rfl
theorem l_ia {t x i} : qList P (⟨d, .indexAddr t x i, ty, pos, af, g⟩ :: l) = qList P l := Eq.trans rfl rfl
theorem l_ix {t x i} : qList P (⟨d, .index t x i, ty, pos, af, g⟩ :: l) = qList P l := Eq.trans rfl rfl
theorem l_slice {t x lo hi} : qList P (⟨d, .slice t x lo hi none, ty, pos, af, g⟩ :: l) = qList P l := Eq.trans rfl rfl
theorem l_conv {s t x} : qList P (⟨d, .convert s t x, ty, pos, af, g⟩ :: l) = (!sliceOfU8 P t && qList P l) := by simp [qList, rlOp, callOp]
theorem l_build {t parts} : qList P (⟨d, .build t parts, ty, pos, af, g⟩ :: l) = qList P l := Eq.trans rfl rfl
theorem l_mf {f first cap} : qList P (⟨d, .makeFunc (.func f) first cap, ty, pos, af, g⟩ :: l) = qList P l := Eq.trans rfl rfl
theorem l_load {t x} : qList P (⟨d, .load t x, ty, pos, af, g⟩ :: l) = qList P l := Eq.trans rfl rfl
theorem l_len {args ts} : qList P (⟨d, .call { callee := .builtin .len, args := args, argTypes := ts }, ty, pos, af, g⟩ :: l) = qList P l := Eq.trans rfl rfl
theorem l_cap {args ts} : qList P (⟨d, .call { callee := .builtin .cap, args := args, argTypes := ts }, ty, pos, af, g⟩ :: l) = qList P l := Eq.trans rfl rfl
theorem l_min {args ts} : qList P (⟨d, .call { callee := .builtin .min, args := args, argTypes := ts }, ty, pos, af, g⟩ :: l) = qList P l := Eq.trans rfl rfl
theorem l_max {args ts} : qList P (⟨d, .call { callee := .builtin .max, args := args, argTypes := ts }, ty, pos, af, g⟩ :: l) = qList P l := Eq.trans rfl rfl
theorem l_bs {t len parts} : qList P (⟨d, .buildSlice t len parts, ty, pos, af, g⟩ :: l) = false := Eq.trans rfl rfl
theorem l_mk {t x y} : qList P (⟨d, .makeSlice t x y, ty, pos, af, g⟩ :: l) = false := Eq.trans rfl rfl
theorem l_alloc {t} : qList P (⟨d, .alloc t, ty, pos, af, g⟩ :: l) = false := Eq.trans rfl rfl
theorem l_box {t x} : qList P (⟨d, .box t x, ty, pos, af, g⟩ :: l) = false := Eq.trans rfl rfl
theorem l_store {t x v} : qList P (⟨d, .store t x v, ty, pos, af, g⟩ :: l) = false := Eq.trans rfl rfl
theorem l_clear {args ts} : qList P (⟨d, .call { callee := .builtin .clear, args := args, argTypes := ts }, ty, pos, af, g⟩ :: l) = false := Eq.trans rfl rfl
theorem l_app {args ts} : qList P (⟨d, .call { callee := .builtin .append, args := args, argTypes := ts }, ty, pos, af, g⟩ :: l) = false := Eq.trans rfl rfl
theorem l_call {f args ts} : qList P (⟨d, .call { callee := .value f, args := args, argTypes := ts }, ty, pos, af, g⟩ :: l) = qList P l := Eq.trans rfl rfl
end
theorem put_eq {K : Kt} {r d v h} : put K r d v h = @lett v ⟨fun v => K (upd r d v) h⟩ := Eq.trans rfl rfl
theorem putN_eq {K : Kt} {r d v cs h} : putN K r d v cs h = @lett v ⟨fun v => K (upd r d v) (h.alloc (.cells cs .own))⟩ := Eq.trans rfl rfl
theorem onAgg_a {a K} : @onAgg (.agg a) ⟨K⟩ = K a := Eq.trans rfl rfl
theorem onTuple_t {a K} : @onTuple (.tuple a) ⟨K⟩ = K a := Eq.trans rfl rfl
theorem onFn_f {f a b} {K : FuncId → Array Value → Array Value → Prop} {Y : Nat → Prop} : @onFn (.func (.func f) a b) ⟨K⟩ ⟨Y⟩ = K f a b := Eq.trans rfl rfl
theorem onFn_y {id a b} {K : FuncId → Array Value → Array Value → Prop} {Y : Nat → Prop} : @onFn (.func (.yield id) a b) ⟨K⟩ ⟨Y⟩ = Y id := Eq.trans rfl rfl
theorem onFunc_f {f a b K} : @onFunc (.func (.func f) a b) ⟨K⟩ = K f a b := Eq.trans rfl rfl
section
variable {P : Program} {K : Kt} {r : Regs} {d : Option Nat} {h : Heap} {s t : Nat}
theorem c_int {k n} : @convC P s t r d (.int k n) h ⟨K⟩ = @onSome _ (isInt P t) ⟨fun kd => @also ((P.underlying s).isSome = true) ⟨put K r d (.int kd (kd.wrap n)) h⟩⟩ := Eq.trans rfl rfl
theorem c_nil : @convC P s t r d (.slice none 0 0) h ⟨K⟩ = @also (isStr P t = true ∧ sliceOfU8 P s = true) ⟨put K r d (.string ⟨#[]⟩) h⟩ := Eq.trans rfl rfl
theorem c_sl {a n c} : @convC P s t r d (.slice (some a) n c) h ⟨K⟩ = @also (isStr P t = true ∧ sliceOfU8 P s = true) ⟨@onCells (h.get a.block) ⟨fun vs _ => @also (a.off + n ≤ vs.length) ⟨@onSome _ (bytesVal ((vs.drop a.off).take n)) ⟨fun bs => put K r d (.string ⟨bs.toArray⟩) h⟩⟩⟩⟩ := by
  cases n <;> cases c <;> rfl
theorem c_str {b} : @convC P s t r d (.string b) h ⟨K⟩ = @gate (.bool (isStr P t)) true ⟨@also ((P.underlying s).isSome = true) ⟨put K r d (.string b) h⟩⟩ ⟨@also ((P.underlying s).isSome = true ∧ sliceOfU8 P t = true ∧ b.size ≤ 140737488355328) ⟨putN K r d (.slice (some ⟨h.next, 0, none⟩) b.size 1) (byteCells b) h⟩⟩ := Eq.trans rfl rfl
theorem sl_sl {a n st lo hi} {K : Value → Prop} : @sliceH P t (.slice (some a) n st) lo hi ⟨K⟩ = @onSome _ (elemSize P t) ⟨fun sz => @also (st = sz ∧ boundOk lo = true ∧ boundOk hi = true) ⟨@also (0 ≤ intOr lo 0 ∧ intOr lo 0 ≤ intOr hi n ∧ intOr hi n ≤ n) ⟨@lett (.slice (some ⟨a.block, a.off + (intOr lo 0).toNat * sz, none⟩) (intOr hi n - intOr lo 0).toNat st) ⟨K⟩⟩⟩⟩ := by
  cases n <;> cases st <;> rfl
theorem sl_nil {lo hi} {K : Value → Prop} : @sliceH P t (.slice none 0 0) lo hi ⟨K⟩ = @onSome _ (elemSize P t) ⟨fun sz => @also (boundOk lo = true ∧ boundOk hi = true) ⟨@also (intOr lo 0 = 0 ∧ intOr hi 0 = 0) ⟨K (.slice none 0 0)⟩⟩⟩ := Eq.trans rfl rfl
theorem sl_str {s lo hi} {K : Value → Prop} : @sliceH P t (.string s) lo hi ⟨K⟩ = @also (isStr P t = true ∧ boundOk lo = true ∧ boundOk hi = true) ⟨@also (0 ≤ intOr lo 0 ∧ intOr lo 0 ≤ intOr hi s.size ∧ intOr hi s.size ≤ s.size) ⟨@lett (.string (s.extract (intOr lo 0).toNat (intOr hi s.size).toNat)) ⟨K⟩⟩⟩ := Eq.trans rfl rfl
theorem ix_agg {cs i} {K : Value → Prop} : @indexH P t (.agg cs) i ⟨K⟩ = @onInt i ⟨fun _ i => @onSome _ (arrPart P t) ⟨fun p => @also (0 ≤ i ∧ i < p.1) ⟨@onSome _ (partOf cs (i.toNat * p.2.1, p.2.2)) ⟨K⟩⟩⟩⟩ := Eq.trans rfl rfl
theorem ix_str {s i} {K : Value → Prop} : @indexH P t (.string s) i ⟨K⟩ = @onInt i ⟨fun _ i => @also (isStr P t = true) ⟨@also (0 ≤ i ∧ i < s.size) ⟨K (.int .u8 (s.data.toList.getD i.toNat 0).toNat)⟩⟩⟩ := Eq.trans rfl rfl
theorem load_eq {a} {K : Value → Prop} : @loadH P t a h ⟨K⟩ = @onSome _ (aggSize P t) ⟨fun s => @onCells (h.get a.block) ⟨fun vs _ => match s with
    | none => @onSome _ (vs[a.off]?) ⟨K⟩
    | some n => @also (a.off + n ≤ vs.length) ⟨K (.agg ((vs.drop a.off).take n).toArray)⟩⟩⟩ := Eq.trans rfl rfl
theorem load_one {a} {K : Value → Prop} (ha : aggSize P t = some none) : @loadH P t a h ⟨K⟩ = @onCells (h.get a.block) ⟨fun vs _ => @onSome _ (vs[a.off]?) ⟨K⟩⟩ := by unfold loadH; rw [ha]; rfl
theorem load_agg {a n} {K : Value → Prop} (ha : aggSize P t = some (some n)) : @loadH P t a h ⟨K⟩ = @onCells (h.get a.block) ⟨fun vs _ => @also (a.off + n ≤ vs.length) ⟨@lett (.agg ((vs.drop a.off).take n).toArray) ⟨K⟩⟩⟩ := by unfold loadH; rw [ha]; rfl
theorem store_one {a v} {K : Heap → Prop} (ha : aggSize P t = some none) : @storeH P t a v h ⟨K⟩ = @onCells (h.get a.block) ⟨fun vs o => @also (o = .own) ⟨@also (v.oneCell' = true ∧ a.off < vs.length) ⟨K (h.put a.block (.live (.cells (vs.set a.off v) .own)))⟩⟩⟩ := by unfold storeH; rw [ha]; rfl
theorem store_agg {a v n} {K : Heap → Prop} (ha : aggSize P t = some (some n)) : @storeH P t a v h ⟨K⟩ = @onCells (h.get a.block) ⟨fun vs o => @also (o = .own) ⟨@also (v.cells.size = n ∧ v.cells.all (·.oneCell') = true ∧ a.off + n ≤ vs.length) ⟨K (h.put a.block (.live (.cells (vs.take a.off ++ v.cells.toList ++ vs.drop (a.off + n)) .own)))⟩⟩⟩ := by unfold storeH; rw [ha]; rfl
theorem n_nil {t1 sz} {K : Nat → List Value → Prop} : @newsOf P (some t1) sz (.slice none 0 0) h ⟨K⟩ = @also (isSl P t1 = true) ⟨K 0 []⟩ := Eq.trans rfl rfl
theorem n_sl {t1 sz b m st} {K : Nat → List Value → Prop} : @newsOf P (some t1) sz (.slice (some b) m st) h ⟨K⟩ = @also (isSl P t1 = true) ⟨@onCells (h.get b.block) ⟨fun vs _ => @also (b.off + m * sz ≤ vs.length) ⟨K m ((vs.drop b.off).take (m * sz))⟩⟩⟩ := by
  cases m <;> cases st <;> rfl
theorem n_str {t1 sz s} {K : Nat → List Value → Prop} : @newsOf P (some t1) sz (.string s) h ⟨K⟩ = @also (isStr P t1 = true ∧ sz = 1) ⟨K s.size (byteCells s)⟩ := Eq.trans rfl rfl
theorem app_eqZ {t t1 k kd} {n : Int} : @appC P (some t) (some t1) (some k) r d (.slice none 0 0) (.int kd n) h ⟨K⟩ = @onSome _ (elemZero P t) ⟨fun ez => @onSome _ (elemBytes P t) ⟨fun by_ => @also (0 ≤ n ∧ n.toNat * by_ ≤ 140737488355328 ∧ n ≤ 9223372036854775807 ∧ 0 < ez.2.length) ⟨@gate (.bool (decide (n = 0))) true ⟨put K r d (.slice none 0 0) h⟩ ⟨putN K r d (.slice (some ⟨h.next, 0, none⟩) n.toNat ez.2.length) (repl n.toNat ez.2) h⟩⟩⟩⟩ := Eq.trans rfl rfl
theorem app_eq {t t1 s x} : @appC P (some t) (some t1) none r d s x h ⟨K⟩ = @onSome _ (elemZero P t) ⟨fun ez => @onSome _ (elemBytes P t) ⟨fun by_ => @newsOf P (some t1) ez.1 x h ⟨fun m news => @also (news.all (·.oneCell') = true) ⟨@appKC by_ ez.1 r d s h m news ⟨K⟩⟩⟩⟩⟩ := Eq.trans rfl rfl
theorem k_nil {by_ sz m news} : @appKC by_ sz r d (.slice none 0 0) h m news ⟨K⟩ = @also (m * by_ ≤ 140737488355328 ∧ m ≤ 9223372036854775807) ⟨@gate (.bool (decide (m = 0))) true ⟨put K r d (.slice none 0 0) h⟩ ⟨putN K r d (.slice (some ⟨h.next, 0, none⟩) m sz) news h⟩⟩ := Eq.trans rfl rfl
theorem k_sl {by_ sz a n st m news} : @appKC by_ sz r d (.slice (some a) n st) h m news ⟨K⟩ = @also (st = sz) ⟨@onCells (h.get a.block) ⟨fun vs o => @also (o = .own) ⟨@also (a.off + n * sz ≤ vs.length ∧ (n + m) * by_ ≤ 140737488355328 ∧ n + m ≤ 9223372036854775807) ⟨
      @lett (.slice (some ⟨h.next, 0, none⟩) (n + m) sz) ⟨fun v => K (upd r d v) (appHeap h a ((vs.drop a.off).take (n * sz) ++ news))⟩⟩⟩⟩⟩ := by
  cases n <;> cases st <;> rfl
theorem len_sl {a n c h} {K : Value → Prop} : @lenH P (some t) (.slice a n c) h ⟨K⟩ = @onSome _ (if isSl P t then some (.int .i64 n) else none) ⟨K⟩ := Eq.trans rfl rfl
theorem len_str {s h} {K : Value → Prop} : @lenH P (some t) (.string s) h ⟨K⟩ = @onSome _ (if isStr P t then some (.int .i64 s.size) else none) ⟨K⟩ := Eq.trans rfl rfl
theorem len_mn {h} {K : Value → Prop} : @lenH P (some t) (.map none) h ⟨K⟩ = @onSome _ (mapTy P t) ⟨fun _ => K (.int .i64 0)⟩ := Eq.trans rfl rfl
theorem len_m {id h} {K : Value → Prop} : @lenH P (some t) (.map (some id)) h ⟨K⟩ = @onSome _ (mapTy P t) ⟨fun _ => @onMap (h.get id) ⟨fun es _ _ => K (.int .i64 es.length)⟩⟩ := Eq.trans rfl rfl
end
/-! ## Code -/
theorem o_nil {P ops K r h} : vcOps P ops [] K r h = K r h := Eq.trans rfl rfl
theorem o_plain {P ops d op ty pos af rest K r h} : vcOps P ops (⟨d, op, ty, pos, af, none⟩ :: rest) K r h = stepY P ⟨d, op, ty, pos, af, none⟩ (vcOps P ops rest K) r h := Eq.trans rfl rfl
theorem o_gate {P ops d op ty pos af rest K r h j want} : vcOps P ops (⟨d, op, ty, pos, af, some (j, want)⟩ :: rest) K r h = @gate3 (rd r (gdst ops j)) want ⟨stepY P ⟨d, op, ty, pos, af, some (j, want)⟩ (vcOps P ops rest K) (upd r (gdst ops j) (.bool want)) h⟩ ⟨fun _ => vcOps P ops rest K (upd (upd r (gdst ops j) (.bool !want)) d undef) h⟩ ⟨fun _ => vcOps P ops rest K (upd r d undef) h⟩ := Eq.trans rfl rfl
theorem v_nil {P ops K r h} : vcQ P ops [] K r h = K r h := Eq.trans rfl rfl
theorem v_plain {P ops d op ty pos af rest K r h} : vcQ P ops (⟨d, op, ty, pos, af, none⟩ :: rest) K r h = stepQ P ⟨d, op, ty, pos, af, none⟩ (vcQ P ops rest K) r h := Eq.trans rfl rfl
theorem v_gate {P ops d op ty pos af rest K r h j want} : vcQ P ops (⟨d, op, ty, pos, af, some (j, want)⟩ :: rest) K r h = @gate3 (rd r (gdst ops j)) want ⟨stepQ P ⟨d, op, ty, pos, af, some (j, want)⟩ (vcQ P ops rest K) (upd r (gdst ops j) (.bool want)) h⟩ ⟨fun _ => vcQ P ops rest K (upd (upd r (gdst ops j) (.bool !want)) d undef) h⟩ ⟨fun _ => vcQ P ops rest K (upd r d undef) h⟩ := Eq.trans rfl rfl
section
variable {P : Program} {pl : List Nat} {Q : Qt} {N : Kt} {r : Regs} {h : Heap}
theorem vc_skip : vc P pl .skip Q r h = Q .normal r h := Eq.trans rfl rfl
theorem vc_region {id} {l : List Oper} : vc P pl (.region id l.toArray false) Q r h = vcOps P l.toArray l (Q .normal) r h := Eq.trans rfl rfl
theorem vc_drawn {id} {l : List Oper} : vc P pl (.region id l.toArray true) Q r h = @Draw P pl id l r h ⟨Q .normal⟩ := Eq.trans rfl rfl
def Draw2 (P : Program) (pl : List Nat) (id : Nat) (l : List Oper) (r : Regs) (h : Heap) [K : Ct Kt] : Prop := @Draw P pl id l r h K
theorem draw_q {id} {l : List Oper} {K : Kt} : @Draw P pl id l r h ⟨K⟩ = if (qList P l && !inP id pl) = true then vcQ P l.toArray l K r h else @Draw2 P pl id l r h ⟨K⟩ := by
  by_cases c : (qList P l && !inP id pl) = true
  · rw [if_pos c]
    show (if _ then _ else _) = _
    rw [if_pos c]
    rfl
  · rw [if_neg c]; rfl
theorem in_nil {i} : inP i [] = false := Eq.trans rfl rfl
theorem in_cons {i j l} : inP i (j :: l) = (decide (i = j) || inP i l) := Eq.trans rfl rfl
theorem vc_seq {a b} : vc P pl (.seq a b) Q r h = vc P pl a (fun e r h => e.on Q (vc P pl b Q) r h) r h := Eq.trans rfl rfl
theorem vc_cond {c a b} : vc P pl (.cond c a b) Q r h = @gate (ev r c) true ⟨vc P pl a Q (upd r (otmp c) (.bool true)) h⟩ ⟨vc P pl b Q (upd r (otmp c) (.bool false)) h⟩ := Eq.trans rfl rfl
theorem vc_block {id c} : vc P pl (.block id c) Q r h = vc P pl c (fun e r h => e.blk Q id r h) r h := Eq.trans rfl rfl
theorem vc_loop {c} : vc P pl (.loop c) Q r h = @Loop P c r h ⟨Q⟩ := Eq.trans rfl rfl
theorem vc_rf {g ps a b} : vc P pl (.rangeFunc g ps a b) Q r h = @RF P g ps a b r h ⟨Q⟩ := Eq.trans rfl rfl
theorem vc_exit {id} : vc P pl (.exit id) Q r h = Q (.exit id) r h := Eq.trans rfl rfl
theorem vc_ret : vc P pl .ret Q r h = Q .ret r h := Eq.trans rfl rfl
theorem on_normal : Ex.normal.on Q N r h = N r h := Eq.trans rfl rfl
theorem on_ret : Ex.ret.on Q N r h = Q .ret r h := Eq.trans rfl rfl
theorem on_exit {i} : (Ex.exit i).on Q N r h = Q (.exit i) r h := Eq.trans rfl rfl
theorem blk_normal {id} : Ex.normal.blk Q id r h = Q .normal r h := Eq.trans rfl rfl
theorem blk_ret {id} : Ex.ret.blk Q id r h = Q .ret r h := Eq.trans rfl rfl
theorem blk_exit {i id} : (Ex.exit i).blk Q id r h = if i = id then Q .normal r h else Q (.exit i) r h := Eq.trans rfl rfl
end
theorem upd_some {r d v t} : upd r (some d) v t = if t = d then v else r t := Eq.trans rfl rfl
theorem upd_none {r v} : upd r none v = r := Eq.trans rfl rfl
theorem ev_tmp {r t} : ev r (.tmp t) = r t := Eq.trans rfl rfl
theorem ev_const {r v} : ev r (.const v) = v := Eq.trans rfl rfl
theorem ev_func {r f} : ev r (.func f) = .func (.func f) #[] #[] := Eq.trans rfl rfl
theorem rd_some {r d} : rd r (some d) = r d := Eq.trans rfl rfl
theorem gdst_eq {l : List Oper} {j} : gdst l.toArray j = (l[j]?).bind (·.dst) := by simp [gdst]
theorem otmp_t {t} : otmp (.tmp t) = some t := Eq.trans rfl rfl
theorem otmp_c {t} : otmp (.const t) = none := Eq.trans rfl rfl
theorem get_put {h : Heap} {id s i} : (h.put id s).get i = if i = id then s else h.get i := Eq.trans rfl rfl
theorem get_alloc {h : Heap} {b i} : (h.alloc b).get i = if i = h.next then .live b else h.get i := Eq.trans rfl rfl
theorem put_put {h : Heap} {id a b} : (h.put id a).put id b = h.put id b := by
  unfold Heap.put
  congr 1
  funext i
  by_cases e : i = id <;> simp [e]
theorem nx_l {n m : Nat} : (n = n + m) = (m = 0) := propext (by omega)
theorem nx_r {n m : Nat} : (n + m = n) = (m = 0) := propext (by omega)
theorem nx_lt {n m : Nat} : (n < n + m) = (0 < m) := propext (by omega)
theorem io_none {d} : intOr none d = d := Eq.trans rfl rfl
theorem io_some {k n d} : intOr (some (.int k n)) d = n := Eq.trans rfl rfl
theorem bo_none : boundOk none = true := Eq.trans rfl rfl
theorem bo_some {k n} : boundOk (some (.int k n)) = true := Eq.trans rfl rfl
theorem slot_neg {c : Prop} [Decidable c] {a b : Slot} (h : ¬ c) : (if c then a else b) = b := if_neg h
theorem slot_pos {c : Prop} [Decidable c] {a b : Slot} (h : c) : (if c then a else b) = a := if_pos h
theorem next_put {h : Heap} {id s} : (h.put id s).next = h.next := Eq.trans rfl rfl
theorem next_alloc {h : Heap} {b} : (h.alloc b).next = h.next + 1 := Eq.trans rfl rfl
theorem get_app {h : Heap} {a cs i} : (appHeap h a cs).get i = if i = h.next then .live (.cells cs .own) else if i = a.block then .dead else h.get i := Eq.trans rfl rfl
theorem next_app {h : Heap} {a cs} : (appHeap h a cs).next = h.next + 1 := Eq.trans rfl rfl
theorem get_ro {h : Heap} {i} : h.ro.get i = (h.get i).lock := Eq.trans rfl rfl
theorem next_ro {h : Heap} : h.ro.next = h.next := Eq.trans rfl rfl
theorem lock_live' {b} : (Slot.live b).lock = .live b.lock := Eq.trans rfl rfl
def Own.lk : Own → Own | .own => .lock | o => o
theorem lock_cells {vs o} : (Blk.cells vs o).lock = .cells vs o.lk := by cases o <;> rfl
theorem lk_own : Own.own.lk = .lock := rfl
theorem lk_ro : Own.ro.lk = .ro := rfl
theorem lk_lock : Own.lock.lk = .lock := rfl
theorem lk_lk {o : Own} : o.lk.lk = o.lk := by cases o <;> rfl
theorem lock_lock (s : Slot) : s.lock.lock = s.lock := by cases s with | live b => cases b <;> rename_i o <;> cases o <;> rfl | _ => rfl
theorem init_a {args t} : initR args t = args.getD t undef := Eq.trans rfl rfl
theorem resV0 {r} : resV [] r = .tuple #[] := Eq.trans rfl rfl
theorem resV1 {t r} : resV [t] r = r t := Eq.trans rfl rfl
theorem resV2 {t u l r} : resV (t :: u :: l) r = .tuple ((t :: u :: l).map r).toArray := Eq.trans rfl rfl
theorem res_nil {P : Program} {r h} {K : List Value → Prop} : resL P [] r h K = K [] := Eq.trans rfl rfl
theorem res_tmp {P : Program} {r h t l} {K : List Value → Prop} : resL P (.tmp t :: l) r h K = resL P l r h fun vs => K (r t :: vs) := Eq.trans rfl rfl
theorem res_cell {P : Program} {r h t ty l} {K : List Value → Prop} : resL P (.cell t ty :: l) r h K = @onPtr (r t) ⟨fun a => @loadH P ty a h ⟨fun v => resL P l r h fun vs => K (v :: vs)⟩⟩ := Eq.trans rfl rfl
theorem tup_one {v} : tup [v] = v := Eq.trans rfl rfl
theorem tup_two {v u l} : tup (v :: u :: l) = .tuple (v :: u :: l).toArray := Eq.trans rfl rfl
theorem tup_nil : tup [] = .tuple #[] := Eq.trans rfl rfl
theorem body_some {n o ta ps rt nf nt rs c nr ou fi el li me tn} : (⟨n, o, ta, ps, rt, nf, nt, rs, some c, nr, ou, fi, el, li, me, tn⟩ : Func).body = some c := rfl
end Ph
