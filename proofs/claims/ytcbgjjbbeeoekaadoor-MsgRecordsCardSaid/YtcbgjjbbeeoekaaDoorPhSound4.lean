import Derived.Test.YtcbgjjbbeeoekaaDoorPhSound3
import Derived.Room.AppendOwn
set_option linter.unusedVariables false
namespace Ph
open Go
section
variable {P : Program} {ρ : Ren} {h : Heap} {W : World}
/-! ## append -/
theorem isSl_inv {t : Nat} (h : isSl P t = true) : ∃ e, P.underlying t = some (.slice e) := by unfold isSl at h; split at h <;> first | exact ⟨_, by assumption⟩ | cases h
theorem isStr_inv {t : Nat} (h : isStr P t = true) : P.underlying t = some .string := by unfold isStr at h; split at h <;> first | assumption | cases h
theorem byteCells_plain (s : ByteArray) : ∀ u ∈ byteCells s, plain u = true := by
  intro u hu; unfold byteCells at hu; obtain ⟨_, _, rfl⟩ := List.mem_map.1 hu; rfl
theorem ARel.of_plains {l : List Value} (h : ∀ u ∈ l, plain u = true) : ARel ρ l.toArray l.toArray := ⟨rfl, fun i x y hx hy => by
  rw [hx] at hy; cases hy
  exact .same _ (h x (List.mem_of_getElem? (by simpa using hx)))⟩
theorem news_sound {t1 : Nat} {sz : Nat} {x x' : Value} {K : Nat → List Value → Prop} (hC : Conc ρ h W) (hx : VRel ρ x x') (hs : @newsOf P (some t1) sz x h ⟨fun m news => @also (news.all (·.oneCell') = true) ⟨K m news⟩⟩) :
    ∃ m news ys, Src P sz t1 x' m ys W ∧ ARel ρ news.toArray ys.toArray ∧ K m news := by
  unfold newsOf at hs
  split at hs
  · obtain ⟨h1, h2, hK⟩ := hs
    obtain ⟨e, hk⟩ := isSl_inv h1
    obtain ⟨_, _, rfl⟩ := hx.nilslice_inv
    exact ⟨0, [], [], Src.ofNil W hk 0, by simp [ARel], hK⟩
  · rename_i b m st
    obtain ⟨h1, hs⟩ := hs
    obtain ⟨e, hk⟩ := isSl_inv h1
    cases hg : h.get b.block with
    | free => simp [onCells, hg] at hs
    | dead => simp [onCells, hg] at hs
    | live bl =>
      cases bl with
      | map _ _ _ => simp [onCells, hg] at hs
      | iter _ _ _ _ _ => simp [onCells, hg] at hs
      | loop _ _ => simp [onCells, hg] at hs
      | cells vs o =>
        simp only [onCells, hg] at hs
        obtain ⟨h2, h3, hK⟩ := hs
        rcases hx.slice_inv with ⟨c, cap, a1, a2, rfl, a4, a5⟩ | ⟨rfl, c, a', a1, rfl⟩
        · obtain ⟨ys, y1, y2, y3⟩ := cells_list (hC.at_ _ _ _ a1 hg) b.off (m * sz) h2
          refine ⟨m, _, ys, Src.ofSlice W hk _ m cap ys y1 y2 ?_, y3, hK⟩
          have := ARel.oneCells y3 (by simpa using h3)
          intro u hu; exact this u (by simpa using hu)
        · refine ⟨0, _, [], Src.ofSlice W hk a' 0 0 [] (by simp) (by simp) (by simp), by simp [ARel], hK⟩
  · rename_i s
    obtain ⟨⟨h1, rfl⟩, h2, hK⟩ := hs
    cases hx.string_inv
    exact ⟨s.size, byteCells s, byteCells s, Src.ofString W (isStr_inv h1) s, ARel.of_plains (byteCells_plain s), hK⟩
  · exact hs.elim
theorem elemZero_inv {t : Nat} {ez : Nat × List Value} (h : elemZero P t = some ez) : ∃ e i v, P.underlying t = some (.slice e) ∧ P.info? e = some i ∧ i.zero = some v ∧ ez = (i.size, v.cells.toList) ∧ v.cells.all plainCell = true ∧ v.cells.size = i.size := by
  unfold elemZero at h
  split at h
  · rename_i e hu
    cases hz : zeroOf P e with
    | none => simp [hz] at h
    | some z =>
      simp only [hz, Option.some.injEq] at h
      obtain ⟨i, v, hi, hv, rfl, hp, hsz⟩ := zero_inv hz
      have hcs : P.cellsOf e = i.size := by simp [Program.cellsOf, hi]
      exact ⟨e, i, v, hu, hi, hv, by rw [← h, hcs], hp, by rw [hsz, hcs]⟩
  · cases h
theorem elemBytes_inv {t e : Nat} {i : TypeInfo} {b : Nat} (hu : P.underlying t = some (.slice e)) (hi : P.info? e = some i) (h : elemBytes P t = some b) : i.bytes = b := by
  simpa [elemBytes, hu, hi] using h
theorem size_zc (z : Array Value) (k : Nat) : (Builtin.zeroCells z k).size = k * z.size := by simp [Builtin.zeroCells]
theorem nofreeze (n : Nat) : ∀ i, i < n → ¬ (((0 : Nat), (0 : Nat)).1 ≤ i ∧ i < ((0 : Nat), (0 : Nat)).2) := fun i _ h => by simp at h
/-- what an append has to show at its end -/
def AppPost (ρ : Ren) (h : Heap) (W : World) (h' : Heap) (v v' : Value) (W' : World) : Prop := ∃ ρ', Conc ρ' h' W' ∧ Frame h.next ρ h W ρ' h' W' ∧ VRel ρ' v v' ∧ (∀ id c, ρ id = some c → ρ' id = some c)
theorem append_new {t tx ty e : Nat} {i : TypeInfo} {z : Value} (hC : Conc ρ h W) (hu : P.underlying t = some (.slice e)) (hi : P.info? e = some i) (hz : i.zero = some z) (hzs : z.cells.size = i.size)
    {x' : Value} {m : Nat} {news ys : List Value} (hs : Src P i.size tx x' m ys W) (hr : ARel ρ news.toArray ys.toArray) (hm : 0 < m) (hb : m * i.bytes ≤ 140737488355328) (h63 : m ≤ 9223372036854775807) :
    ∃ v' W', (Builtin.append_ #[t, tx] ty #[.slice none 0 0, x']).run P W = .ok v' W' ∧ AppPost ρ h W (h.alloc (.cells news .own)) (.slice (some ⟨h.next, 0, none⟩) m i.size) v' W' := by
  have hg := run_append_grow_src (P := P) W t tx ty e i z hu hi hz none 0 0 [] (run_firstCells_none W.drew i.size 0 0 0) x' m ys hs (by omega) (by omega) (by rw [Nat.zero_add]; exact growslice_fits (by omega) hb)
  simp only [Nat.zero_add, List.nil_append] at hg
  refine ⟨_, _, hg, ?_⟩
  have hge := grownCap_ge W m 0 e
  obtain ⟨a1, a2⟩ := alloc_sound (hC.drew (W.drawn + 1)) news ys.toArray (Builtin.zeroCells z.cells (grownCap W m 0 e - m)) hr e (0, 0) (nofreeze _)
  refine ⟨_, a1, (Frame.drew W _).trans a2, .slice _ _ _ _ _ _ (add_self _ _ _) hge ?_, Ren.add_le (hC.free _ (hC.next _ (Nat.le_refl _)))⟩
  simp only [Array.size_append, List.size_toArray, size_zc, hs.newsLen, hzs, Nat.zero_add]
  obtain ⟨q, hq⟩ : ∃ q, grownCap W m 0 e = m + q := ⟨grownCap W m 0 e - m, by omega⟩
  rw [hq, Nat.add_sub_cancel_left, Nat.add_mul]; exact Nat.le_refl _
def appHeap (h : Heap) (a : Addr) (cs : List Value) : Heap := ⟨fun i => if i = h.next then .live (.cells cs .own) else if i = a.block then .dead else h.get i, h.next + 1⟩
theorem append_grow {t tx ty e : Nat} {i : TypeInfo} {z : Value} (hC : Conc ρ h W) (hu : P.underlying t = some (.slice e)) (hi : P.info? e = some i) (hz : i.zero = some z) (hzs : z.cells.size = i.size)
    {x' : Value} {m : Nat} {news ys : List Value} (hs : Src P i.size tx x' m ys W) (hr : ARel ρ news.toArray ys.toArray) {a : Addr} {c : CB} (hc : ρ a.block = some c) (ho : h.mods a.block)
    (A : Option Addr) (n cap : Nat) (olds os : List Value) (hol : olds.length = n * i.size) (hor : ARel ρ olds.toArray os.toArray) (hold : (Builtin.firstCells i.size n (.slice A n cap)).run P W.drew = .ok os.toArray W.drew)
    (hgt : cap < n + m) (hb : (n + m) * i.bytes ≤ 140737488355328) (h63 : n + m ≤ 9223372036854775807) :
    ∃ v' W', (Builtin.append_ #[t, tx] ty #[.slice A n cap, x']).run P W = .ok v' W' ∧ AppPost ρ h W (appHeap h a (olds ++ news)) (.slice (some ⟨h.next, 0, none⟩) (n + m) i.size) v' W' := by
  have hg := run_append_grow_src (P := P) W t tx ty e i z hu hi hz A n cap os hold x' m ys hs hgt (by omega) (growslice_fits (by omega) hb)
  refine ⟨_, _, hg, ?_⟩
  have hge := grownCap_ge W (n + m) cap e
  have hn := hC.free _ (hC.next h.next (Nat.le_refl _))
  have h1 : olds.length = os.length := by simpa using hor.1
  have h2 : news.length = ys.length := by simpa using hr.1
  have hsz : ((os ++ ys).toArray ++ Builtin.zeroCells z.cells (grownCap W (n + m) cap e - (n + m))).size = grownCap W (n + m) cap e * i.size := by
    simp only [Array.size_append, List.size_toArray, List.length_append, size_zc, hs.newsLen, hzs, ← h1, hol]
    obtain ⟨q, hq⟩ : ∃ q, grownCap W (n + m) cap e = n + m + q := ⟨grownCap W (n + m) cap e - (n + m), by omega⟩
    rw [hq, Nat.add_sub_cancel_left, Nat.add_mul, Nat.add_mul]
  obtain ⟨a1, a2⟩ := hC.reown (W' := W.drew.alloc (.cells ((os ++ ys).toArray ++ Builtin.zeroCells z.cells (grownCap W (n + m) cap e - (n + m))) e)) a.block c hc ho (.cells (olds ++ news) .own) ⟨W.heap.size, 0, grownCap W (n + m) cap e * i.size⟩
    (fun k hk _ => by show (W.heap.push _)[k]? = _; rw [push_get, if_neg (by omega)]) (by show _ ≤ (W.heap.push _).size; simp) rfl rfl rfl (Nat.le_succ _) (.inr (Nat.le_refl _)) (by show _ < (W.heap.push _).size; simp)
    ⟨_, e, (0, 0), (by show (W.heap.push _)[W.heap.size]? = _; rw [push_get, if_pos rfl]), hsz, by
      simp only [List.length_append, h1, h2, ← hsz, Array.size_append, List.size_toArray]; omega, fun k v hv => by
      have hk : k < (os ++ ys).length := by have := (List.getElem?_eq_some_iff.1 hv).1; simp at this ⊢; omega
      refine ⟨(os ++ ys)[k], by simp only [Nat.zero_add]; rw [Array.getElem?_append_left (by simpa using hk)]; simp only [List.getElem?_toArray]; exact List.getElem?_eq_getElem hk, VRel.mono (Ren.add_le hn) ?_⟩
      by_cases e1 : k < olds.length
      · rw [List.getElem?_append_left e1] at hv
        refine hor.2 k v _ (by simpa using hv) ?_
        simp only [List.getElem?_toArray]; rw [List.getElem_append_left (by omega)]; exact List.getElem?_eq_getElem _
      · rw [List.getElem?_append_right (by omega)] at hv
        refine hr.2 (k - olds.length) v _ (by simpa using hv) ?_
        simp only [List.getElem?_toArray]; rw [List.getElem_append_right (by omega)]; simp only [h1]; exact List.getElem?_eq_getElem _, nofreeze _⟩ h.next (Nat.le_refl _)
  exact ⟨_, a1, a2, .slice _ _ _ _ _ _ (add_self _ _ _) hge (by simp), Ren.add_le hn⟩
theorem append_room {t tx ty e : Nat} {i : TypeInfo} (hC : Conc ρ h W) (hu : P.underlying t = some (.slice e)) (hi : P.info? e = some i)
    {x' : Value} {m : Nat} {news ys : List Value} (hs : Src P i.size tx x' m ys W) (hr : ARel ρ news.toArray ys.toArray) {a : Addr} {c : CB} (hc : ρ a.block = some c) {vs : List Value} (hg : h.get a.block = .live (.cells vs .own))
    (n cap : Nat) (hl : a.off + n * i.size ≤ vs.length) (hcap : c.sh + a.off + cap * i.size ≤ c.sz) (hroom : n + m ≤ cap) :
    ∃ v' W', (Builtin.append_ #[t, tx] ty #[.slice (some ⟨c.blk, c.sh + a.off, none⟩) n cap, x']).run P W = .ok v' W' ∧ AppPost ρ h W (appHeap h a ((vs.drop a.off).take (n * i.size) ++ news)) (.slice (some ⟨h.next, 0, none⟩) (n + m) i.size) v' W' := by
  obtain ⟨cs, e0, fr, g1, g2, g3, g4, g5⟩ := (hC.at_ _ _ _ hc hg).own_at
  have hmul : n * i.size + m * i.size ≤ cap * i.size := by rw [← Nat.add_mul]; exact Nat.mul_le_mul_right _ hroom
  have hyl : ys.length = m * i.size := hs.newsLen
  have hnl : news.length = ys.length := by simpa using hr.1
  have hg' := run_append_room_src (P := P) W t tx ty e i hu hi c.blk (c.sh + a.off) n cap x' m ys hs hroom (fun j hj => by
      have hj' : c.sh + a.off + n * i.size + j < cs.size := by omega
      simp [World.cell?, g1, hj']) (fun j hj => by
      have := g5 (c.sh + a.off + n * i.size + j) (by omega)
      simp only [World.frozen?, g1]
      cases hd : (decide (fr.1 ≤ c.sh + a.off + n * i.size + j) && decide (c.sh + a.off + n * i.size + j < fr.2)) with
      | false => rfl
      | true => simp only [Bool.and_eq_true, decide_eq_true_eq] at hd; exact absurd hd this)
  refine ⟨_, _, hg', ?_⟩
  have hn := hC.free _ (hC.next h.next (Nat.le_refl _))
  obtain ⟨cs', s1, s2, s3, s4, s5, s6, s7, s8⟩ := setCells_heap c.blk e0 fr ys (c.sh + a.off + n * i.size) W cs g1
  obtain ⟨a1, a2⟩ := hC.reown (W' := W.setCells c.blk (c.sh + a.off + n * i.size) ys) a.block c hc ⟨_, hg, rfl⟩ (.cells ((vs.drop a.off).take (n * i.size) ++ news) .own) ⟨c.blk, c.sh + a.off, c.sz⟩
    (fun k _ hk => s4 k hk) (Nat.le_of_eq s5.symm) s6 s7 s8 (Nat.le_of_eq (setCells_drawn ..).symm) (.inl rfl) (by show c.blk < _; rw [s5]; exact hC.lt a.block c hc)
    ⟨cs', e0, fr, s1, s2.trans g2, by simp; omega, fun k v hv => by
      have hk : k < n * i.size + news.length := by have := (List.getElem?_eq_some_iff.1 hv).1; simp at this; omega
      have hlen : ((vs.drop a.off).take (n * i.size)).length = n * i.size := by simp; omega
      simp only
      rw [s3 _ (by omega)]
      by_cases e1 : k < n * i.size
      · rw [if_neg (by omega)]
        rw [List.getElem?_append_left (by omega), List.getElem?_take_of_lt e1, List.getElem?_drop] at hv
        obtain ⟨v', b1, b2⟩ := g4 _ v hv
        exact ⟨v', by rw [Nat.add_assoc]; exact b1, b2.mono (Ren.add_le hn)⟩
      · rw [if_pos (by omega)]
        rw [List.getElem?_append_right (by omega), hlen] at hv
        have hky : k - n * i.size < ys.length := by omega
        refine ⟨ys[k - n * i.size], by rw [show c.sh + a.off + k - (c.sh + a.off + n * i.size) = k - n * i.size by omega]; exact List.getElem?_eq_getElem hky, (hr.2 _ v _ (by simpa using hv) (by simp)).mono (Ren.add_le hn)⟩,
      fun k hk => g5 k (by omega)⟩ h.next (Nat.le_refl _)
  exact ⟨_, a1, a2, .slice _ _ _ _ _ _ (add_self _ _ _) hroom (by simpa using hcap), Ren.add_le hn⟩
end
end Ph
