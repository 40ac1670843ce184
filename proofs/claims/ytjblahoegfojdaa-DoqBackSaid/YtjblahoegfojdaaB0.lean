-- written by xprint.py, a program of this claim's work (wip/xprint), which runs the kit's printer with hooks
import Derived.Test.YtjblahoegfojdaaProg
import Derived.Below
import Derived.Deep.Draws
import Derived.Deep.AppendLies
import Derived.Maps.AppendAt
import Derived.OwnWalk
import Derived.Laws.BytesArg
import Derived.Laws.MakeOwn
import Derived.Laws.OwnMore
import Derived.Deep.OwnRows
import Derived.Tactics
import Derived.Lib.ConvBytes
import Derived.Laws.Slices
import Derived.WalkKit
import Derived.KernelRfl
import Derived.RowKit3
import Derived.Deep.LoopGhost
import Derived.Deep.QuietTactic
import Derived.BigQuiet
import Derived.WideLaws
import Derived.Deep.DeepCutAuto
import Derived.Deep.CutBlock
import Derived.Deep.RegionHeld3
import Derived.Laws.Rows
import Derived.Lib.AppendStr
import Derived.ArgAppend
import Derived.Laws.IdiomCopy
import Derived.OrdersHeld
import Derived.Laws.BitsLemmas
import Derived.RowKit
import Derived.Test.YtjblahoegfojdaaWWords
import Derived.Test.YtjblahoegfojdaaWLast
import Derived.Test.YtjblahoegfojdaaWQPut
import Derived.Test.YtjblahoegfojdaaWApart
import Derived.Test.YtjblahoegfojdaaWArr
import Derived.Test.YtjblahoegfojdaaWZeros
import Derived.Test.YtjblahoegfojdaaWFoot
import Derived.Test.YtjblahoegfojdaaWKept
import Derived.Test.YtjblahoegfojdaaWShare
import Derived.Test.YtjblahoegfojdaaWN
import Derived.Test.YtjblahoegfojdaaWFootNe
import Derived.Test.YtjblahoegfojdaaWAt
import Derived.Test.YtjblahoegfojdaaWRepsOne
import Derived.Test.YtjblahoegfojdaaWGuard
import Derived.Test.YtjblahoegfojdaaWNEv
import Derived.Test.YtjblahoegfojdaaWMore
namespace Go.Proofs.Ytjblahoegfojdaa.B
open Go.RowKit Go.Proofs.YtjblahoegfojdaaW.PrintWords Go.Proofs.YtjblahoegfojdaaW.PrintLast Go.Proofs.YtjblahoegfojdaaW.PrintMore
attribute [local go_sem] max2_int min2_int max_two min_two max_three min_three max_four min_four   -- for this text's walks alone
set_option linter.unusedVariables false
set_option linter.unusedSimpArgs false



def errW : Option Int → Value
  | none => .nilIface
  | some c => .iface 0 (.int .i64 c)
theorem errW_none : errW none = .nilIface := rfl
theorem errW_some (c : Int) : errW (some c) = .iface 0 (.int .i64 c) := rfl

theorem info5 : (Try.prog.info? 5).map (fun i => (i.zero, i.size, i.bytes)) = some (some (.int .u8 0), 1, 1) := by kernel_rfl
theorem info9 : (Try.prog.info? 9).map (fun i => (i.zero, i.size, i.bytes)) = some (some (.string ⟨#[]⟩), 1, 16) := by kernel_rfl
-- the values' own types


theorem C_of_reads {w : World} {A : Option Addr} {n : Nat} {xs : List Int} (h : ReadsInt w .u8 A n xs) : (Kd.int .u8).C w A n xs := by
  refine ⟨h.1, h.2.1, fun hp => ?_⟩
  obtain ⟨ad, ha, hc⟩ := h.2.2 hp
  refine ⟨ad, ha, fun j p hj => ⟨[.int .u8 p], rfl, rfl, fun i u hu => ?_⟩⟩
  obtain ⟨hl, hp'⟩ := List.getElem?_eq_some_iff.1 hj
  cases i with
  | zero =>
    have e : u = .int .u8 p := by simpa using hu.symm
    subst e
    have h2 := hc j (by have := h.1; omega)
    rw [List.getD_eq_getElem?_getD, hj] at h2
    show w.cell? (ad.add (j * 1 + 0)) = _
    rw [Nat.mul_one, Nat.add_zero]; exact h2
  | succ i => simp at hu
/-- '[]byte(s)': a row that is read; to what follows it is no row of one's own. -/
theorem conv_event {P : Program} {ops : Array Oper} {rest : List Oper} {o : Oper} {a : Act} {Q : Exit → Act → World → Prop} {W : World} {N : Tmp} (e src dst : TypeId) (x : Operand) (hgd : o.guard = none) (hd : o.dst = some N) (ho : o.op = .convert src dst x)
    (hs : P.underlying src = some .string) (hdt : P.underlying dst = some (.slice e)) (he : P.underlying e = some (.int .u8)) (s : ByteArray) (xs : List Int) (hxs : xs = bytesOf s) (hx : a.eval x = .string s) (hsz : s.size ≤ 9223372036854775807)
    (h : ∀ (Az : Option Addr) (cz : Nat) (v : Value) (w1 : World), (Kd.int .u8).C w1 Az xs.length xs → xs.length ≤ cz → (Kd.int .u8).R e w1 W.heap.size (fun _ => True) v ([] : List Int) → Below W.heap.size W w1 → wpList P ops Q rest (a.put (some N) (.slice Az xs.length cz)) w1) :
    wpList P ops Q (o :: rest) a W := by
  refine wpList_plain hgd fun K hK => ?_
  have hr := print_bytes (P := P) src dst e hs hdt he s W
  have hl : xs.length = s.size := by rw [hxs, bytesOf_length]
  have hc : (Kd.int .u8).C (Lib.bytesWorld W e s) (some ⟨W.heap.size, 0, none⟩) xs.length xs := by rw [hl, hxs]; exact C_of_reads (bytes_reads W e s hsz)
  have hk := hK _ _ (h (some ⟨W.heap.size, 0, none⟩) (grownCap W s.size 0 e) (.slice none 0 0) _ hc (by rw [hl]; exact grownCap_ge W s.size 0 e) (Kd.R_nil _ _ _ _ _) (bytes_below (Below.refl _ _) (Nat.le_refl _) e s))
  unfold Oper.wp execOp
  simp only [ho, hx, hr, Sem.run_bind, Sem.run_pure, Result.andThen_ok]
  rw [hl, ← hd] at hk
  exact hk
theorem freeze_heap (w : World) (g k : Nat) (cs : Array Value) (e : TypeId) (hg : w.heap[g]? = some (.cells cs e (0, 0))) (j : Nat) :
    (w.freeze ⟨g, k, none⟩ 1).heap[j]? = if j = g then some (.cells cs e (k, k + 1)) else w.heap[j]? := by
  unfold World.freeze
  rw [if_neg (by decide)]
  show (w.heap.modify g _)[j]? = _
  rw [Array.getElem?_modify]
  by_cases h : g = j
  · subst h; rw [if_pos rfl, if_pos rfl, hg]; rfl
  · rw [if_neg h, if_neg (Ne.symm h)]
theorem freeze_cell (w : World) (g k : Nat) (cs : Array Value) (e : TypeId) (hg : w.heap[g]? = some (.cells cs e (0, 0))) (p : Addr) :
    (w.freeze ⟨g, k, none⟩ 1).cell? p = w.cell? p := by
  unfold World.cell?
  rw [freeze_heap w g k cs e hg]
  by_cases h : p.block = g
  · rw [if_pos h, h, hg]
  · rw [if_neg h]
/-- '[]byte("..")': the literal's row, marked. -/
theorem conv_mark {P : Program} {w0 w : World} {base t e : Nat} {ok : Nat → Prop} {v : Value} {xs : List Int} (ht : P.underlying t = some (.slice e)) (he : P.underlying e = some (.int .u8))
    (h : (Kd.int .u8).R e w base ok v xs) (hn : 0 < xs.length) (HB : Below base w0 w) :
    ∃ w' A c, v = .slice A xs.length c ∧ (convert t t v).run P w = .ok v w' ∧ (Kd.int .u8).C w' A xs.length xs ∧ Below base w0 w' := by
  obtain ⟨hok, inner, hown, hr⟩ := h
  have hR : (Kd.int .u8).R e w base ok v xs := ⟨hok, inner, hown, hr⟩
  rcases hown.2 with ⟨rfl, h0⟩ | ⟨g, cap, cur, rfl, hbg, hg, hnc, hcm, hcs, htake⟩
  · omega
  have hsh : w.shape? g = some (e, cur.size) := by unfold World.shape?; rw [hg]
  refine ⟨w.freeze ⟨g, cur.size, none⟩ 1, some ⟨g, 0, none⟩, cap, rfl, ?_, ?_, ?_⟩
  · simp [convert, run_underlying ht, run_underlying he, markStringish, hsh, Result.andThen]
  · have hc := (Kd.R_reads' hR).2.2
    obtain ⟨h1, h2, h3⟩ := hc
    refine ⟨h1, h2, fun hp => ?_⟩
    obtain ⟨ad, ha, hh⟩ := h3 hp
    refine ⟨ad, ha, fun j p hj => ?_⟩
    obtain ⟨c, hl, hk, hi⟩ := hh j p hj
    exact ⟨c, hl, hk, fun i u hu => (freeze_cell w g _ cur e hg _).trans (hi i u hu)⟩
  · refine ⟨HB.os, HB.tape, HB.output, ?_, fun k hk => ?_⟩
    · have : (w.freeze ⟨g, cur.size, none⟩ 1).heap.size = w.heap.size := by
        unfold World.freeze; rw [if_neg (by decide)]; show (w.heap.modify g _).size = _; simp
      rw [this]; exact HB.size
    · rw [freeze_heap w g _ cur e hg, if_neg (by omega)]; exact HB.block k hk

section
variable {P : Program} (w : World)
/-- A string appended to a row of one's own: where the new row lies. -/
theorem append_string_at (base : Nat) (t u ty e : TypeId) (i : TypeInfo) (ht : P.underlying t = some (.slice e)) (hu : P.underlying u = some .string) (hi : P.info? e = some i) (hz : i.zero = some (.int .u8 0))
    (hsize : i.size = 1) (hby : i.bytes = 1) (v : Value) (n : Nat) (xs : List Value) (hown : w.ownsRow base e 1 v n xs) (s : ByteArray)
    (h63 : n + s.size ≤ maxLen) (hbytes : n + s.size ≤ 140737488355328) (hbase : base ≤ w.heap.size) :
    ∃ v' w', (Builtin.append_ #[t, u] ty #[v, .string s]).run P w = .ok v' w' ∧ w'.ownsRow base e 1 v' (n + s.size) (xs ++ Lib.strCells s) ∧ w.grownBy w' v.ownBlock ∧
      (v'.ownBlock = v.ownBlock ∨ ∃ b, v'.ownBlock = some b ∧ w.heap.size ≤ b) := by
  obtain ⟨v', w', hr, h2, h3, h4⟩ := Lib.run_append_own_string (P := P) w base t u ty e i ht hu hi hz hsize hby v n xs hown s h63 hbytes hbase
  refine ⟨v', w', hr, h2, h3, ?_⟩
  have hxl := hown.1
  rcases hown.2 with ⟨rfl, rfl⟩ | ⟨g, cap, cur, rfl, hbg, hg, hnc, hcm, hcs, htake⟩
  · by_cases hm : s.size = 0
    · rw [h4.2 ⟨rfl, hm⟩]; exact .inl rfl
    · have hr2 := run_append_nil_string (P := P) w t u ty e i (.int .u8 0) ht hu hi hz s (by omega) (by omega) (by rw [hby]; omega)
      rw [hr2] at hr
      injection hr with e1 e2
      subst e1
      exact .inr ⟨_, rfl, Nat.le_refl _⟩
  · by_cases hroom : n + s.size ≤ cap
    · have hr2 := Lib.run_append_room_string (P := P) w t u ty e i ht hu hi hsize g n cap cur hg s hroom (by omega)
      rw [hr2] at hr
      injection hr with e1 e2
      subst e1
      exact .inl rfl
    · have holds : ∀ j u, xs[j]? = some u → w.cell? ((⟨g, 0, none⟩ : Addr).add j) = some u := hown.cells (g := g) rfl
      have hr2 := Lib.run_append_grow_string (P := P) w t u ty e i (.int .u8 0) ht hu hi hz ⟨g, 0, none⟩ n cap xs (by rw [hsize]; simpa using hxl) holds s (by omega) (by simp only [maxLen] at h63; omega) (by rw [hby]; exact growslice_fits (by omega) (by omega))
      rw [hr2] at hr
      injection hr with e1 e2
      subst e1
      exact .inr ⟨_, rfl, Nat.le_refl _⟩
end
section
variable {P : Program} (w : World)
/-- A string appended to a row of one's own that was cut from the front. -/
theorem q_append_str (base : Nat) (t u ty e : TypeId) (i : TypeInfo) (ht : P.underlying t = some (.slice e)) (hu : P.underlying u = some .string) (hi : P.info? e = some i) (hz : i.zero = some (.int .u8 0))
    (hsize : i.size = 1) (hby : i.bytes = 1) (v : Value) (n : Nat) (xs : List Value) (hown : QRow w base e 1 v n xs) (s : ByteArray)
    (h63 : n + s.size ≤ maxLen) (hbytes : n + s.size ≤ 140737488355328) (hbase : base ≤ w.heap.size) :
    ∃ v' w', (Builtin.append_ #[t, u] ty #[v, .string s]).run P w = .ok v' w' ∧ QRow w' base e 1 v' (n + s.size) (xs ++ Lib.strCells s) ∧ w.grownBy w' v.ownBlock ∧
      (v'.ownBlock = v.ownBlock ∨ ∃ b, v'.ownBlock = some b ∧ w.heap.size ≤ b) := by
  have hxl : xs.length = n := by simpa using hown.1
  have hsmall : n + s.size ≤ 9223372036854775807 := by simp only [maxLen] at h63; omega
  have hlen : (xs ++ Lib.strCells s).length = (n + s.size) * 1 := by rw [List.length_append, hxl, Lib.strCells_length, Nat.mul_one]
  have grows : ∀ (b : Addr) (cap : Nat), cap < n + s.size → (∀ j u, xs[j]? = some u → w.cell? (b.add j) = some u) → v = .slice (some b) n cap →
      ∃ v' w', (Builtin.append_ #[t, u] ty #[v, .string s]).run P w = .ok v' w' ∧ QRow w' base e 1 v' (n + s.size) (xs ++ Lib.strCells s) ∧ w.grownBy w' v.ownBlock ∧
      (v'.ownBlock = v.ownBlock ∨ ∃ b, v'.ownBlock = some b ∧ w.heap.size ≤ b) := by
    intro b cap hcap hcells hv
    have hr := Lib.run_append_grow_string (P := P) w t u ty e i (.int .u8 0) ht hu hi hz b n cap xs (by rw [hsize, Nat.mul_one]; exact hxl) hcells s hcap (by omega) (by rw [hby]; exact growslice_fits (by omega) (by omega))
    refine ⟨_, _, by rw [hv]; exact hr, q_of_own ⟨hlen, .inr ⟨w.heap.size, _, _, rfl, hbase, heap_alloc_new w.drew _, grownCap_ge w _ cap e, grownCap_le_maxLen w _ cap e h63, ?_, ?_⟩⟩, ⟨rfl, rfl, rfl, by simp, fun k hk _ => heap_alloc_old w.drew _ hk⟩, .inr ⟨w.heap.size, rfl, Nat.le_refl _⟩⟩
    · have hz1 : (Value.int IntKind.u8 0).cells.size = 1 := rfl
      have hge := grownCap_ge w (n + s.size) cap e
      simp only [Array.size_append, List.size_toArray, size_zeroCells, hz1, hxl, Lib.strCells_length]
      omega
    · simp only [Array.toList_append, List.append_assoc]
      rw [← List.append_assoc, ← hlen]
      exact List.take_left
  rcases hown.2 with ⟨h0, A, hv, hA⟩ | ⟨g, off, cap, cur, hv, hbg, hg, hnc, hcm, hcs, htake⟩
  · cases A with
    | none =>
      subst h0
      have ho : w.ownsRow base e 1 v 0 xs := ⟨hown.1, .inl ⟨hv, rfl⟩⟩
      obtain ⟨v', w', hr, ho', hg, hat⟩ := append_string_at (P := P) w base t u ty e i ht hu hi hz hsize hby v 0 xs ho s h63 hbytes hbase
      exact ⟨v', w', hr, q_of_own ho', hg, hat⟩
    | some a =>
      subst h0
      have hx0 : xs = [] := List.eq_nil_of_length_eq_zero hxl
      subst hx0
      by_cases hm : s.size = 0
      · have hn : Lib.strCells s = [] := List.eq_nil_of_length_eq_zero (by rw [Lib.strCells_length]; exact hm)
        have hf := Lib.run_firstCells_string (P := P) w 1 s
        rw [hm, hn] at hf
        refine ⟨.slice (some a) 0 0, w, ?_, ?_, ⟨rfl, rfl, rfl, Nat.le_refl _, fun _ _ _ => rfl⟩, .inl (by rw [hv])⟩
        · rw [hv]
          simp [Builtin.append_, run_underlying ht, run_underlying hu, sizeOf, typeInfo, hi, hsize, Builtin.lenOf, hm, hf, storeCells]
        · rw [hm, hn]; exact ⟨rfl, .inl ⟨rfl, some a, rfl, hA⟩⟩
      · exact grows a 0 (by omega) (fun j u hj => by simp at hj) hv
  · by_cases hroom : n + s.size ≤ cap
    · have hsz : cur.size = off + cap := by simpa using hcs
      have hf := Lib.run_firstCells_string (P := P) w 1 s
      have hst := run_storeCells_at P g (off + n) e (Lib.strCells s) 0 cur w hg (by rw [Lib.strCells_length]; omega) (Lib.strCells_oneCell s)
      simp only [Nat.add_zero, Lib.strCells_length] at hst
      have htk : (cur.toList.drop off).take n = xs := by simpa using htake
      refine ⟨.slice (some ⟨g, off * 1, none⟩) (n + s.size) cap, w.setRow g (cur.toList.take (off + n) ++ Lib.strCells s ++ cur.toList.drop (off + n + s.size)).toArray, ?_, ⟨hlen, .inr ⟨g, off, cap, _, rfl, hbg, setRow_heap w g cur _ e _ hg, hroom, hcm, ?_, ?_⟩⟩, ⟨rfl, rfl, rfl, by simp, fun k _ hk => setRow_other w g k _ (fun e => hk (by rw [hv]; simp [Value.ownBlock, e]))⟩, .inl (by rw [hv]; rfl)⟩
      · rw [hv, Nat.mul_one]
        simp [Builtin.append_, run_underlying ht, run_underlying hu, sizeOf, typeInfo, hi, hsize, Builtin.lenOf, hroom, hf, Addr.add_lit, hst]
      · simp only [List.size_toArray, List.length_append, List.length_take, List.length_drop, Array.length_toList, Lib.strCells_length]
        omega
      · rw [Nat.mul_one, Nat.mul_one, List.append_assoc, List.drop_append_of_le_length (by rw [List.length_take, Array.length_toList]; omega), List.drop_take, show off + n - off = n from by omega, htk, ← List.append_assoc, List.take_append_of_le_length (by rw [hlen]; omega), List.take_of_length_le (by rw [hlen]; omega)]
    · exact grows ⟨g, off * 1, none⟩ cap (by omega) (fun j u hj => by
        have hsz : cur.size = off + cap := by simpa using hcs
        have htk : (cur.toList.drop off).take n = xs := by simpa using htake
        have hjl : j < n := by have := (List.getElem?_eq_some_iff.1 hj).1; omega
        rw [Nat.mul_one, Addr.add_lit]
        unfold World.cell?
        rw [hg]
        rw [← htk, List.getElem?_take_of_lt hjl, List.getElem?_drop, Array.getElem?_toList] at hj
        exact hj) hv
end
section
variable {P : Program} {ops : Array Oper} {rest : List Oper} {o : Oper} {a : Act} {Q : Exit → Act → World → Prop} {K : Act → World → Prop}
theorem str_app {w0 W : World} (base : Nat) (t u ty e : TypeId)
    (ht : P.underlying t = some (.slice e)) (hu : P.underlying u = some .string) (hinfo : (P.info? e).map (fun i => (i.zero, i.size, i.bytes)) = some (some (.int .u8 0), 1, 1))
    (v : Value) (xs : List Int) (y : ByteArray) (ok : Nat → Prop) (hfresh : ∀ k, W.heap.size ≤ k → ok k)
    (HO : (Kd.int .u8).R e W base ok v xs) (HB : Below base w0 W) (hbase : base ≤ W.heap.size) (hl : xs.length + y.size ≤ 140737488355328) :
    ∃ v1 w1, (Builtin.append_ #[t, u] ty #[v, .string y]).run P W = .ok v1 w1 ∧ (Kd.int .u8).R e w1 base ok v1 (xs ++ bytesOf y) ∧ Below base w0 w1 ∧ W.grownBy w1 v.ownBlock ∧ (v1.ownBlock = v.ownBlock ∨ ∃ b, v1.ownBlock = some b ∧ W.heap.size ≤ b) := by
  obtain ⟨i0, hi, hzz⟩ := Option.map_eq_some_iff.1 hinfo
  simp only [Prod.mk.injEq] at hzz
  obtain ⟨hz0, hz1, hz2⟩ := hzz
  have hown := Kd.own_of_R (h1 := fun _ => rfl) (show Kd.R (Kd.scalar (Value.int .u8) (fun _ => rfl)) e W base ok v xs from HO)
  obtain ⟨v1, w1, hr, hown1, hg, hat⟩ := append_string_at (P := P) W base t u ty e i0 ht hu hi hz0 hz1 hz2 v xs.length _ hown y (by simp only [maxLen]; omega) hl hbase
  have hl2 : (xs ++ bytesOf y).length = xs.length + y.size := by rw [List.length_append, bytesOf_length]
  have hc : encs (Value.int .u8) (xs ++ bytesOf y) = encs (Value.int .u8) xs ++ Lib.strCells y := by
    rw [encs_append]
    congr 1
    simp [encs, bytesOf, Lib.strCells]
  refine ⟨v1, w1, hr, ?_, HB.grown hg hbase (own_base hown), hg, hat⟩
  refine Kd.R_of_own (h1 := fun _ => rfl) (by rw [hl2, hc]; exact hown1) ?_
  intro k hk
  rcases hat with hat | ⟨b, hb, hle⟩
  · exact HO.1 k (hat ▸ hk)
  · rw [hb] at hk
    injection hk with hk
    exact hfresh k (by omega)
theorem str_append {w0 W : World} (base : Nat) (hgd : o.guard = none) (s x : Operand) (t u e : TypeId)
    (ho : o.op = .call { callee := .builtin .append, args := #[s, x], argTypes := #[t, u] })
    (ht : P.underlying t = some (.slice e)) (hu : P.underlying u = some .string) (hinfo : (P.info? e).map (fun i => (i.zero, i.size, i.bytes)) = some (some (.int .u8 0), 1, 1))
    (v : Value) (xs : List Int) (y : ByteArray) (ok : Nat → Prop) (hs : a.eval s = v) (hx : a.eval x = .string y) (hfresh : ∀ k, W.heap.size ≤ k → ok k)
    (HO : (Kd.int .u8).R e W base ok v xs) (HB : Below base w0 W) (hbase : base ≤ W.heap.size) (hl : xs.length + y.size ≤ 140737488355328)
    (h : ∀ v1 w1, (Kd.int .u8).R e w1 base ok v1 (xs ++ bytesOf y) → Below base w0 w1 → W.grownBy w1 v.ownBlock → (v1.ownBlock = v.ownBlock ∨ ∃ b, v1.ownBlock = some b ∧ W.heap.size ≤ b) → wpList P ops Q rest (a.put o.dst v1) w1) :
    wpList P ops Q (o :: rest) a W := by
  obtain ⟨v1, w1, hr, h1, h2, h3, h4⟩ := str_app (P := P) base t u o.type e ht hu hinfo v xs y ok hfresh HO HB hbase hl
  refine wpList_plain hgd fun K hK => ?_
  unfold Oper.wp execOp
  simp only [ho, resolve, invoke, builtin, Sem.run_bind, Sem.run_pure, Result.andThen_ok, List.map_toArray, List.map_cons, List.map_nil, hs, hx, hr]
  exact hK _ _ (h v1 w1 h1 h2 h3 h4)
theorem str_append_step {w0 W : World} (base : Nat) (hw : Region.wanted o (yielded ops a.tmps) = true) (s x : Operand) (t u e : TypeId)
    (ho : o.op = .call { callee := .builtin .append, args := #[s, x], argTypes := #[t, u] })
    (ht : P.underlying t = some (.slice e)) (hu : P.underlying u = some .string) (hinfo : (P.info? e).map (fun i => (i.zero, i.size, i.bytes)) = some (some (.int .u8 0), 1, 1))
    (v : Value) (xs : List Int) (y : ByteArray) (ok : Nat → Prop) (hs : a.eval s = v) (hx : a.eval x = .string y) (hfresh : ∀ k, W.heap.size ≤ k → ok k)
    (HO : (Kd.int .u8).R e W base ok v xs) (HB : Below base w0 W) (hbase : base ≤ W.heap.size) (hl : xs.length + y.size ≤ 140737488355328)
    (h : ∀ v1 w1, (Kd.int .u8).R e w1 base ok v1 (xs ++ bytesOf y) → Below base w0 w1 → W.grownBy w1 v.ownBlock → (v1.ownBlock = v.ownBlock ∨ ∃ b, v1.ownBlock = some b ∧ W.heap.size ≤ b) → K (a.put o.dst v1) w1) :
    if Region.wanted o (yielded ops a.tmps) = true then Oper.wp P o a W K Q else K (a.put o.dst undef) W := by
  obtain ⟨v1, w1, hr, h1, h2, h3, h4⟩ := str_app (P := P) base t u o.type e ht hu hinfo v xs y ok hfresh HO HB hbase hl
  rw [if_pos hw]
  unfold Oper.wp execOp
  simp only [ho, resolve, invoke, builtin, Sem.run_bind, Sem.run_pure, Result.andThen_ok, List.map_toArray, List.map_cons, List.map_nil, hs, hx, hr]
  exact h v1 w1 h1 h2 h3 h4
theorem strQ_app {w0 W : World} (base : Nat) (t u ty e : TypeId)
    (ht : P.underlying t = some (.slice e)) (hu : P.underlying u = some .string) (hinfo : (P.info? e).map (fun i => (i.zero, i.size, i.bytes)) = some (some (.int .u8 0), 1, 1))
    (v : Value) (xs : List Int) (y : ByteArray) (ok : Nat → Prop) (hfresh : ∀ k, W.heap.size ≤ k → ok k)
    (HO : (Kd.int .u8).Q e W base ok v xs) (HB : Below base w0 W) (hbase : base ≤ W.heap.size) (hl : xs.length + y.size ≤ 140737488355328) :
    ∃ v1 w1, (Builtin.append_ #[t, u] ty #[v, .string y]).run P W = .ok v1 w1 ∧ (Kd.int .u8).Q e w1 base ok v1 (xs ++ bytesOf y) ∧ Below base w0 w1 ∧ W.grownBy w1 v.ownBlock ∧ (v1.ownBlock = v.ownBlock ∨ ∃ b, v1.ownBlock = some b ∧ W.heap.size ≤ b) := by
  obtain ⟨i0, hi, hzz⟩ := Option.map_eq_some_iff.1 hinfo
  simp only [Prod.mk.injEq] at hzz
  obtain ⟨hz0, hz1, hz2⟩ := hzz
  obtain ⟨hok0, inner, hown, hrep⟩ := HO
  have hin : inner = encs (Value.int .u8) xs := by
    apply List.ext_getElem?
    intro j
    rcases Nat.lt_or_ge j xs.length with hj | hj
    · have h2 : (inner.drop (j * 1)).take 1 = [Value.int .u8 xs[j]] := hrep.2 j _ (List.getElem?_eq_getElem hj)
      have hl : j < inner.length := by have := hrep.1; simp [Kd.int, Kd.scalar] at this; omega
      rw [Nat.mul_one, List.drop_eq_getElem_cons hl, show (1 : Nat) = 0 + 1 from rfl, List.take_succ_cons, List.take_zero] at h2
      injection h2 with h2 _
      rw [List.getElem?_eq_getElem hl, h2]
      simp [encs, hj]
    · have hl : inner.length ≤ j := by have := hrep.1; simp [Kd.int, Kd.scalar] at this; omega
      rw [List.getElem?_eq_none hl, List.getElem?_eq_none (by simp [encs]; exact hj)]
  subst hin
  obtain ⟨v1, w1, hr, hown1, hg, hat⟩ := q_append_str (P := P) W base t u ty e i0 ht hu hi hz0 hz1 hz2 v xs.length _ hown y (by simp only [maxLen]; omega) hl hbase
  have hl2 : (xs ++ bytesOf y).length = xs.length + y.size := by rw [List.length_append, bytesOf_length]
  have hc : encs (Value.int .u8) (xs ++ bytesOf y) = encs (Value.int .u8) xs ++ Lib.strCells y := by
    rw [encs_append]
    congr 1
    simp [encs, bytesOf, Lib.strCells]
  refine ⟨v1, w1, hr, ⟨?_, encs (Value.int .u8) (xs ++ bytesOf y), by rw [hl2, hc]; exact hown1, Kd.reps_scalar _⟩, HB.grown hg hbase (fun k hk => (q_typed hown k hk).1), hg, hat⟩
  intro k hk
  rcases hat with hat | ⟨b, hb, hle⟩
  · exact hok0 k (hat ▸ hk)
  · rw [hb] at hk
    injection hk with hk
    exact hfresh k (by omega)
theorem str_appendQ {w0 W : World} (base : Nat) (hgd : o.guard = none) (s x : Operand) (t u e : TypeId)
    (ho : o.op = .call { callee := .builtin .append, args := #[s, x], argTypes := #[t, u] })
    (ht : P.underlying t = some (.slice e)) (hu : P.underlying u = some .string) (hinfo : (P.info? e).map (fun i => (i.zero, i.size, i.bytes)) = some (some (.int .u8 0), 1, 1))
    (v : Value) (xs : List Int) (y : ByteArray) (ok : Nat → Prop) (hs : a.eval s = v) (hx : a.eval x = .string y) (hfresh : ∀ k, W.heap.size ≤ k → ok k)
    (HO : (Kd.int .u8).Q e W base ok v xs) (HB : Below base w0 W) (hbase : base ≤ W.heap.size) (hl : xs.length + y.size ≤ 140737488355328)
    (h : ∀ v1 w1, (Kd.int .u8).Q e w1 base ok v1 (xs ++ bytesOf y) → Below base w0 w1 → W.grownBy w1 v.ownBlock → (v1.ownBlock = v.ownBlock ∨ ∃ b, v1.ownBlock = some b ∧ W.heap.size ≤ b) → wpList P ops Q rest (a.put o.dst v1) w1) :
    wpList P ops Q (o :: rest) a W := by
  obtain ⟨v1, w1, hr, h1, h2, h3, h4⟩ := strQ_app (P := P) base t u o.type e ht hu hinfo v xs y ok hfresh HO HB hbase hl
  refine wpList_plain hgd fun K hK => ?_
  unfold Oper.wp execOp
  simp only [ho, resolve, invoke, builtin, Sem.run_bind, Sem.run_pure, Result.andThen_ok, List.map_toArray, List.map_cons, List.map_nil, hs, hx, hr]
  exact hK _ _ (h v1 w1 h1 h2 h3 h4)
theorem str_appendQ_step {w0 W : World} (base : Nat) (hw : Region.wanted o (yielded ops a.tmps) = true) (s x : Operand) (t u e : TypeId)
    (ho : o.op = .call { callee := .builtin .append, args := #[s, x], argTypes := #[t, u] })
    (ht : P.underlying t = some (.slice e)) (hu : P.underlying u = some .string) (hinfo : (P.info? e).map (fun i => (i.zero, i.size, i.bytes)) = some (some (.int .u8 0), 1, 1))
    (v : Value) (xs : List Int) (y : ByteArray) (ok : Nat → Prop) (hs : a.eval s = v) (hx : a.eval x = .string y) (hfresh : ∀ k, W.heap.size ≤ k → ok k)
    (HO : (Kd.int .u8).Q e W base ok v xs) (HB : Below base w0 W) (hbase : base ≤ W.heap.size) (hl : xs.length + y.size ≤ 140737488355328)
    (h : ∀ v1 w1, (Kd.int .u8).Q e w1 base ok v1 (xs ++ bytesOf y) → Below base w0 w1 → W.grownBy w1 v.ownBlock → (v1.ownBlock = v.ownBlock ∨ ∃ b, v1.ownBlock = some b ∧ W.heap.size ≤ b) → K (a.put o.dst v1) w1) :
    if Region.wanted o (yielded ops a.tmps) = true then Oper.wp P o a W K Q else K (a.put o.dst undef) W := by
  obtain ⟨v1, w1, hr, h1, h2, h3, h4⟩ := strQ_app (P := P) base t u o.type e ht hu hinfo v xs y ok hfresh HO HB hbase hl
  rw [if_pos hw]
  unfold Oper.wp execOp
  simp only [ho, resolve, invoke, builtin, Sem.run_bind, Sem.run_pure, Result.andThen_ok, List.map_toArray, List.map_cons, List.map_nil, hs, hx, hr]
  exact h v1 w1 h1 h2 h3 h4
end

end Go.Proofs.Ytjblahoegfojdaa.B
