import Derived.Test.YthghohhaagkbnaaPhList
import Derived.Shelf.SlSortCmp.NoneTotal
set_option linter.unusedVariables false
namespace Ph
open Go
/-! ## slices.SortFunc: the shelf's contract, over abstract heaps -/
section
variable {P : Program} {ρ : Ren} {h : Heap} {W : World}
/-- what a call that may write nothing leaves behind: draws, and new blocks -/
theorem grown_of {W W' : World} (hb : Bel W.heap.size W W') : ∃ q os, W' = Sort.grow (W.drewN q) os := by
  refine ⟨W'.drawn - W.drawn, W'.heap.extract W.heap.size W'.heap.size, ?_⟩
  have hd := hb.2
  have e1 : W'.heap = W.heap ++ W'.heap.extract W.heap.size W'.heap.size := by
    apply Array.ext_getElem?
    intro k
    rw [Array.getElem?_append]
    by_cases hk : k < W.heap.size
    · rw [if_pos hk]; exact hb.1.block k hk
    · rw [if_neg hk, Array.getElem?_extract]
      by_cases h2 : k < W'.heap.size
      · rw [if_pos (by omega)]; congr 1; omega
      · rw [if_neg (by omega), Array.getElem?_eq_none (by omega)]
  have e2 : W'.drawn = W.drawn + (W'.drawn - W.drawn) := by omega
  obtain ⟨o1, o2, o3, o4, o5⟩ := hb.1
  cases W' with
  | mk hp tp dr os out =>
    simp only [Sort.grow, World.drewN] at *
    subst o1 o2 o3
    rw [← e1, ← e2]
theorem call_grown {g : FuncId} {args args' : Array Value} {n : Int} (hc : @CallsH P g args h.ro ⟨fun v _ => v = .int .i64 n⟩) (hC : Conc ρ h W) (ha : ARel ρ args args') :
    Calls P g args' W fun e W' => e = .returned (.int .i64 n) ∧ ∃ q os, W' = Sort.grow (W.drewN q) os :=
  (hc ρ W args' hC.ro ha).mono fun e W' ⟨ρ', h', v, v', h1, h2, h3, h4, h5⟩ => by
    subst h5
    rw [h1, h2.int_inv]
    exact ⟨rfl, grown_of h4.to_below⟩
/-- a block of one's own forgotten: whatever stands in it -/
theorem Conc.forget (hC : Conc ρ h W) {q : Nat} {c : CB} (hc : ρ q = some c) (ho : h.owns q) {W2 : World} (hk : ∀ k, k < W.heap.size → k ≠ c.blk → W2.heap[k]? = W.heap[k]?) (hsz : W.heap.size ≤ W2.heap.size) : Conc ρ (h.put q .dead) W2 := by
  have hlive : ∀ i, (h.put q .dead).lives i → i ≠ q ∧ h.lives i := fun i ⟨x, hx⟩ => by
    by_cases e : i = q
    · simp [Heap.put, e] at hx
    · simp only [Heap.put, e, if_false] at hx; exact ⟨e, x, hx⟩
  have hown : ∀ i, (h.put q .dead).owns i → h.owns i := fun i ⟨x, hx, hx'⟩ => by
    by_cases e : i = q
    · simp [Heap.put, e] at hx
    · simp only [Heap.put, e, if_false] at hx; exact ⟨x, hx, hx'⟩
  refine ⟨fun i ci x hci hx => ?_, fun i j ci cj hij hci hcj hoi hlj => hC.apart i j ci cj hij hci hcj (hown i hoi) (hlive j hlj).2, fun i hi => ?_, fun i hi => ?_, fun i ci hci => Nat.lt_of_lt_of_le (hC.lt i ci hci) hsz, hC.tab.keep hsz (fun k hk1 hno => hk k hk1 fun e => hno q c hc ho e.symm) fun i ci hci hoi => .inr ⟨i, ci, hci, hown i hoi, rfl⟩⟩
  · have e : i ≠ q := (hlive i ⟨x, hx⟩).1
    simp only [Heap.put, e, if_false] at hx
    exact (hC.at_ i ci x hci hx).mono (fun _ _ h => h) (hk _ (hC.lt i ci hci) fun e' => hC.apart q i c ci (fun h => e h.symm) hc hci ho ⟨x, hx⟩ e'.symm)
  · by_cases e : i = q
    · simp [Heap.put, e] at hi
    · simp only [Heap.put, e, if_false] at hi; exact hC.free i hi
  · have e : i ≠ q := fun e => by subst e; obtain ⟨b, hb, _⟩ := ho; rw [hC.next i hi] at hb; cases hb
    simp only [Heap.put, e, if_false]; exact hC.next i hi
/-- new blocks, that nobody speaks of -/
theorem grow_bel (W : World) (os : Array Obj) : Bel W.heap.size W (Sort.grow W os) :=
  ⟨⟨rfl, rfl, rfl, by simp, fun k hk => Sort.heap_grow_old W os hk⟩, Nat.le_refl _⟩
variable {A : Type} {E : Enc A}
theorem flat_get {l : List A} {t : Nat} (hk : 0 < E.k) (ht : t < l.length * E.k) : ∃ x, l[t / E.k]? = some x ∧ (E.flat l)[t]? = (E.enc x)[t % E.k]? := by
  have hi : t / E.k < l.length := (Nat.div_lt_iff_lt_mul hk).2 ht
  refine ⟨l[t / E.k], List.getElem?_eq_getElem hi, ?_⟩
  rw [← flat_at (List.getElem?_eq_getElem hi), List.getElem?_take_of_lt (Nat.mod_lt _ hk), List.getElem?_drop]
  congr 1
  have := Nat.div_add_mod t E.k
  rw [Nat.mul_comm] at this
  exact this.symm
end
/-- things, as they stand in memory -/
def SEl {A : Type} (E : Enc A) (ρ : Ren) : Type := {p : A × List Value // ARel ρ (E.enc p.1).toArray p.2.toArray}
section
variable {P : Program} {A : Type} {E : Enc A}
theorem sorted_enough {cf : A → A → Int} (hO : Sort.SWO (Proofs.ltOf cf)) (ρ : Ren) : Sort.SWO (Proofs.ltOf fun (x y : SEl E ρ) => cf x.1.1 y.1.1) :=
  ⟨fun x => hO.irrefl x.1.1, fun x y z => hO.trans x.1.1 y.1.1 z.1.1, fun x y z => hO.ntrans x.1.1 y.1.1 z.1.1⟩
theorem SortFunc_ph {σ : Shelf.Ren} (L : Proofs.SlLaysF0.n6 P σ) (aE : ∀ w, (isAgg (σ.t 24)).run P w = .ok true w) (zE : ∀ w, (Go.sizeOf (σ.t 24)).run P w = .ok E.k w) (hk0 : 0 < E.k)
    {cf : A → A → Int} (hO : Sort.SWO (Proofs.ltOf cf)) {g : FuncId} (hg : goodFunc P g = true) (hcmp : ∀ x y H, @CallsH P g #[.agg (E.enc x).toArray, .agg (E.enc y).toArray] (Heap.ro H) ⟨fun v _ => v = .int .i64 (cf x y)⟩)
    (h : Heap) (q off : Nat) (vs : List Value) (l : List A) (hq : h.get q = .live (.cells vs .own)) (hR : RowV E vs off l) (hl : 0 < l.length) (hsz : l.length < 4611686018427387904) :
    @CallsH P (σ.f 6) #[.slice (some ⟨q, off, none⟩) l.length E.k, .func (.func g) #[] #[]] h ⟨fun v H => v = .tuple #[] ∧ ∃ l' vs', l'.Perm l ∧ l'.Pairwise (fun x y => ¬ cf y x < 0) ∧ H = h.put q (.live (.cells vs' .own)) ∧ RowV E vs' off l' ∧ vs'.length = vs.length⟩ := by
  intro ρ W args' hC ha
  have hown : h.owns q := ⟨_, hq, rfl⟩
  -- the arguments
  obtain ⟨n1, hargs⟩ := ha
  have hs2 : args'.size = 2 := by rw [← n1]; rfl
  have a0 := hargs 0 _ args'[0] rfl (Array.getElem?_eq_getElem (by omega))
  have a1 := hargs 1 _ args'[1] rfl (Array.getElem?_eq_getElem (by omega))
  obtain ⟨ys, us, e1, r1, r2⟩ := a1.func_inv
  have ey : ys = #[] := Array.eq_empty_of_size_eq_zero r1.1.symm
  have eu : us = #[] := Array.eq_empty_of_size_eq_zero r2.1.symm
  subst ey eu
  obtain ⟨c, cap, hc, _, e0, hn, hcap⟩ := a0.slice_inv.resolve_right (fun hz => by have := hz.1; omega)
  have eargs : args' = #[.slice (some ⟨c.blk, c.sh + off, none⟩) l.length cap, .func (.func g) #[] #[]] := by
    apply Array.ext
    · simpa using hs2
    · intro i hi1 hi2
      have : i = 0 ∨ i = 1 := by simp at hi2; omega
      rcases this with rfl | rfl
      · exact e0
      · exact e1
  subst eargs
  clear n1 hargs hs2 a0 a1 e0 e1 r1 r2
  obtain ⟨cs, e, fr, g1, g2, g3, g4, g5⟩ := hC.at_ q c _ hc hq
  have hR1 := hR.1
  -- each thing, as it stands
  have hel : ∀ i x, l[i]? = some x → ARel ρ (E.enc x).toArray ((cs.toList.drop (c.sh + off + i * E.k)).take E.k).toArray := fun i x hx => by
    have hbd := (hR.at hx).2
    refine ⟨by simp [E.len]; omega, fun j y z hy hz => ?_⟩
    have hj : j < E.k := by have := (Array.getElem?_eq_some_iff.1 hy).1; simpa [E.len] using this
    have hv := hR.cell hx hj
    simp only [List.getElem?_toArray] at hy hz
    rw [List.getElem?_take_of_lt hj, List.getElem?_drop, Array.getElem?_toList] at hz
    rw [hy] at hv
    obtain ⟨v', h1, h2⟩ := g4 _ _ hv
    rw [show c.sh + off + i * E.k + j = c.sh + (off + i * E.k + j) by omega, h1] at hz
    cases hz
    exact h2
  let el : Fin l.length → SEl E ρ := fun i => ⟨(l[i], (cs.toList.drop (c.sh + off + i * E.k)).take E.k), hel i _ (List.getElem?_eq_getElem i.2)⟩
  obtain ⟨d, hd⟩ : ∃ d : Array (SEl E ρ), d = Array.ofFn el := ⟨_, rfl⟩
  have hds : d.size = l.length := by rw [hd]; simp
  haveI : Inhabited (SEl E ρ) := ⟨el ⟨0, hl⟩⟩
  have hdi : ∀ i (hi : i < l.length), d[i]! = el ⟨i, hi⟩ := fun i hi => by
    rw [getElem!_pos d i (by omega)]; simp [hd]
  obtain ⟨enc, henc⟩ : ∃ enc : SEl E ρ → List Value, enc = fun x => x.1.2 := ⟨_, rfl⟩
  have hk : ∀ x, (enc x).length = E.k := fun x => by
    have := x.2.1
    rw [henc]; simpa [E.len] using this.symm
  have h1 : ∀ x, ∀ v ∈ enc x, v.oneCell' = true := fun x v hv => by
    rw [henc] at hv
    obtain ⟨i, hi, rfl⟩ := List.getElem_of_mem hv
    replace hi : i < x.1.2.length := hi
    have hlen : (E.enc x.1.1).length = x.1.2.length := by simpa using x.2.1
    have hi' : i < (E.enc x.1.1).length := by omega
    have := x.2.2 i (E.enc x.1.1)[i] x.1.2[i] (by simp [hi']) (by simp [hi])
    rw [this.oneCell]
    exact List.all_eq_true.1 (E.one x.1.1) _ (List.getElem_mem _)
  have hblk := hC.lt q c hc
  have hHold : Sort.HoldsK enc E.k W c.blk (c.sh + off) d := fun j hj => by
    rw [Sort.size_flatK, hds] at hj
    rw [Sort.get_flatK _ _ _ _ (by rw [hds]; exact hj)]
    have hi : j / E.k < l.length := (Nat.div_lt_iff_lt_mul hk0).2 hj
    rw [hdi _ hi, henc]
    have hm := Nat.mod_lt j hk0
    have hdm : j / E.k * E.k + j % E.k = j := by have := Nat.div_add_mod j E.k; rw [Nat.mul_comm] at this; exact this
    have hb : c.sh + off + j < cs.size := by omega
    refine ⟨?_, ?_⟩
    · simp only [World.cell?, g1, Option.isSome_none, Bool.false_eq_true, if_false, el, id]
      have e3 : (List.take E.k (List.drop (c.sh + off + j / E.k * E.k) cs.toList))[j % E.k]? = cs[c.sh + off + j]? := by
        rw [List.getElem?_take_of_lt hm, List.getElem?_drop, Array.getElem?_toList]; congr 1; omega
      rw [List.getElem!_eq_getElem?_getD, e3, Array.getElem?_eq_getElem hb]; rfl
    · simp only [World.frozen?, g1]
      have := g5 (c.sh + off + j) hb
      simp only [Bool.and_eq_false_iff, decide_eq_false_iff_not]
      omega
  have eg : ∀ args w, (callFunc g args).run P w = .ok (.enter g args) w := fun args w => good_run hg args
  have hcmp' : Proofs.CmpLays P g #[] enc E.k (fun x y => cf x.1.1 y.1.1) c.blk (c.sh + off) d.size W := fun m os dk hdk x y => by
    have hforget : Conc ρ (h.put q .dead) (Proofs.sortWorldK enc E.k W c.blk (c.sh + off) m dk os) := by
      refine hC.forget hc hown (fun k hk1 hk2 => ?_) ?_
      · rw [Proofs.sortWorldK, Sort.heap_grow_old _ _ (by simp [Sort.putRowK, Sort.putRow, Sort.mapBlock, Sort.ahead]; exact hk1)]
        simp only [Sort.putRowK, Sort.putRow, Sort.mapBlock, Sort.ahead, Array.getElem?_modify]
        rw [if_neg (fun e => hk2 e.symm)]
      · simp [Proofs.sortWorldK, Sort.putRowK, Sort.putRow, Sort.mapBlock, Sort.ahead]
    refine call_grown (hcmp x.1.1 y.1.1 _) hforget ⟨rfl, fun i v v' hv hv' => ?_⟩
    have : i = 0 ∨ i = 1 := by have := (Array.getElem?_eq_some_iff.1 hv).1; simp at this; omega
    rcases this with rfl | rfl
    · cases hv; cases hv'; rw [henc]; exact .agg _ _ x.2.1 x.2.2
    · cases hv; cases hv'; rw [henc]; exact .agg _ _ y.2.1 y.2.2
  have hsort := Proofs.AnyQ.slices_SortFunc L E.k aE zE enc hk h1 _ (sorted_enough hO ρ) g #[] c.blk (c.sh + off) cap d W eg hcmp' hHold hblk (by omega)
  rw [hds] at hsort
  refine hsort.mono fun e' W' ⟨he, d', n, os, hp, hs, hW⟩ => ?_
  obtain ⟨p1, _, p3⟩ := hp
  have hds' : d'.size = l.length := p1.trans hds
  have x1 : d'.extract 0 l.length = d' := by rw [← hds']; exact Array.extract_size
  have x2 : d.extract 0 l.length = d := by rw [← hds]; exact Array.extract_size
  rw [x1, x2] at p3
  obtain ⟨l', hl'⟩ : ∃ l' : List A, l' = d'.toList.map fun x => x.1.1 := ⟨_, rfl⟩
  have hlen : l'.length = l.length := by rw [hl']; simp [hds']
  have hmap : d.toList.map (fun x => x.1.1) = l := by
    apply List.ext_getElem?
    intro i
    rw [List.getElem?_map, Array.getElem?_toList]
    by_cases hi : i < l.length
    · have hi' : i < d.size := by omega
      have := hdi i hi
      rw [getElem!_pos d i hi'] at this
      rw [Array.getElem?_eq_getElem hi', this, List.getElem?_eq_getElem hi]; rfl
    · rw [Array.getElem?_eq_none (by omega), List.getElem?_eq_none (by omega)]; rfl
  have hperm : l'.Perm l := by rw [hl', ← hmap]; exact p3.map _
  have hget : ∀ i (hi : i < l.length), l'[i]? = some (d'[i]!).1.1 := fun i hi => by
    rw [hl', List.getElem?_map, Array.getElem?_toList, Array.getElem?_eq_getElem (by omega), getElem!_pos d' i (by omega)]; rfl
  have hpw : l'.Pairwise fun x y => ¬ cf y x < 0 := by
    rw [List.pairwise_iff_getElem]
    intro i j hi hj hij
    have q1 := hget i (by omega)
    have q2 := hget j (by omega)
    rw [List.getElem?_eq_getElem hi] at q1
    rw [List.getElem?_eq_getElem hj] at q2
    rw [Option.some.inj q1, Option.some.inj q2]
    have := hs i j (Nat.zero_le _) hij (by omega)
    simpa [Proofs.ltOf] using this
  have hfl : (E.flat l').length = l.length * E.k := by rw [flat_len, hlen]
  obtain ⟨vs', hvs⟩ : ∃ vs', vs' = vs.take off ++ E.flat l' ++ vs.drop (off + l.length * E.k) := ⟨_, rfl⟩
  have hto : (vs.take off).length = off := by rw [List.length_take]; omega
  have hvl : vs'.length = vs.length := by rw [hvs]; simp only [List.length_append, hto, hfl, List.length_drop]; omega
  have hRV : RowV E vs' off l' := by
    refine ⟨by rw [hlen]; omega, ?_⟩
    have e1 : (vs.take off ++ (E.flat l' ++ vs.drop (off + l.length * E.k))).drop off = E.flat l' ++ vs.drop (off + l.length * E.k) := List.drop_left' hto
    rw [hvs, hlen, List.append_assoc, e1]
    exact List.take_left' hfl
  -- the world
  obtain ⟨cs', hcs⟩ : ∃ cs', cs' = Sort.putCells id (c.sh + off) (Sort.flatK enc E.k d') cs := ⟨_, rfl⟩
  obtain ⟨W1, hW1⟩ : ∃ W1, W1 = Sort.putRowK enc E.k (Sort.ahead W n) c.blk (c.sh + off) d' := ⟨_, rfl⟩
  have hother : ∀ k, k ≠ c.blk → W1.heap[k]? = W.heap[k]? := fun k hk2 => by
    rw [hW1]
    simp only [Sort.putRowK, Sort.putRow, Sort.mapBlock, Sort.ahead, Array.getElem?_modify]
    rw [if_neg (fun e => hk2 e.symm)]
  have hself : W1.heap[c.blk]? = some (.cells cs' e fr) := by
    rw [hW1, hcs]
    simp only [Sort.putRowK, Sort.putRow, Sort.mapBlock, Sort.ahead, Array.getElem?_modify]
    rw [if_pos trivial, g1]; rfl
  have hsz1 : W1.heap.size = W.heap.size := by rw [hW1]; simp [Sort.putRowK, Sort.putRow, Sort.mapBlock, Sort.ahead]
  have hcsz : cs'.size = cs.size := by rw [hcs]; simp [Sort.putCells]
  have hcell : ∀ t, cs'[t]? = (cs[t]?).map fun x => if c.sh + off ≤ t ∧ t < c.sh + off + l.length * E.k then (Sort.flatK enc E.k d')[t - (c.sh + off)]! else x := fun t => by
    rw [hcs]
    simp only [Sort.putCells, Array.getElem?_mapIdx, Sort.size_flatK, hds', id]
  have hat : BlkAt ρ W1 c (.cells vs' .own) := by
    refine ⟨cs', e, fr, hself, hcsz.trans g2, by omega, fun i v hv => ?_, fun i hi => g5 i (by omega)⟩
    have hi : i < vs'.length := (List.getElem?_eq_some_iff.1 hv).1
    rw [hcell]
    by_cases c1 : i < off
    · rw [hvs, List.append_assoc, List.getElem?_append_left (by omega), List.getElem?_take_of_lt c1] at hv
      obtain ⟨v', y1, y2⟩ := g4 i v hv
      exact ⟨v', by rw [y1, Option.map_some, if_neg (by omega)], y2⟩
    · by_cases c2 : i < off + l.length * E.k
      · rw [hvs, List.append_assoc, List.getElem?_append_right (by omega), hto, List.getElem?_append_left (by omega)] at hv
        have ht : i - off < l'.length * E.k := by rw [hlen]; omega
        obtain ⟨x, z1, z2⟩ := flat_get (E := E) (l := l') hk0 ht
        rw [z2] at hv
        have hq1 : (i - off) / E.k < l.length := (Nat.div_lt_iff_lt_mul hk0).2 (by omega)
        rw [hget _ hq1] at z1
        cases z1
        have hm := Nat.mod_lt (i - off) hk0
        have hb : c.sh + i < cs.size := by omega
        refine ⟨(enc d'[(i - off) / E.k]!)[(i - off) % E.k]!, ?_, ?_⟩
        · rw [Array.getElem?_eq_getElem hb, Option.map_some, if_pos (by omega), show c.sh + i - (c.sh + off) = i - off by omega, Sort.get_flatK _ _ _ _ (by rw [hds']; omega)]
        · have hlx := hk d'[(i - off) / E.k]!
          have hmm : (i - off) % E.k < (enc d'[(i - off) / E.k]!).length := by omega
          rw [getElem!_pos (enc d'[(i - off) / E.k]!) ((i - off) % E.k) hmm]
          refine d'[(i - off) / E.k]!.2.2 ((i - off) % E.k) v _ (by simpa using hv) ?_
          have e9 : d'[(i - off) / E.k]!.1.2 = enc d'[(i - off) / E.k]! := by rw [henc]
          rw [List.getElem?_toArray, e9]
          exact List.getElem?_eq_getElem hmm
      · rw [hvs, List.getElem?_append_right (by simp only [List.length_append, hto, hfl]; omega), List.getElem?_drop] at hv
        simp only [List.length_append, hto, hfl] at hv
        rw [show off + l.length * E.k + (i - (off + l.length * E.k)) = i by omega] at hv
        obtain ⟨v', y1, y2⟩ := g4 i v hv
        exact ⟨v', by rw [y1, Option.map_some, if_neg (by omega)], y2⟩
  obtain ⟨t1, t2⟩ := hC.turn (W' := W1) q c hc ⟨_, hq, rfl⟩ (.cells vs' .own) hother hsz1 (by rw [hW1]; rfl) (by rw [hW1]; rfl) (by rw [hW1]; rfl) (by rw [hW1]; exact Nat.le_add_right _ _) hat h.next
  have hb := grow_bel W1 os
  have hW2 : W' = Sort.grow W1 os := by rw [hW, hW1]; rfl
  rw [hW2, he]
  exact ⟨ρ, _, .tuple #[], .tuple #[], rfl, .same _ rfl, t1.below hb.1, t2.trans (Frame.below hb), rfl, l', vs', hperm, hpw, rfl, hRV, hvl⟩
/-- of nothing -/
theorem SortNone_ph {σ : Shelf.Ren} (L : Proofs.SlLaysF0.n6 P σ) (h : Heap) (v f : Value) (hv : ∃ A st, v = .slice A 0 st) : @CallsH P (σ.f 6) #[v, f] h ⟨fun u H => u = .tuple #[] ∧ H = h⟩ := by
  intro ρ W args' hC ha
  obtain ⟨n1, hargs⟩ := ha
  have hs2 : args'.size = 2 := by rw [← n1]; rfl
  have a0 := hargs 0 _ args'[0] rfl (Array.getElem?_eq_getElem (by omega))
  obtain ⟨A, st, rfl⟩ := hv
  have e0 : ∃ p cap, args'[0] = .slice p 0 cap := by
    cases A with
    | none => exact ⟨none, 0, (a0.nilslice_inv).2.2⟩
    | some a =>
      rcases a0.slice_inv with ⟨c, cap, _, _, e, _, _⟩ | ⟨_, c, a', _, e⟩
      · exact ⟨_, cap, e⟩
      · exact ⟨_, 0, e⟩
  obtain ⟨p, cap, e0⟩ := e0
  have eargs : args' = #[.slice p 0 cap, args'[1]] := by
    apply Array.ext
    · simpa using hs2
    · intro i hi1 hi2
      have : i = 0 ∨ i = 1 := by simp at hi2; omega
      rcases this with rfl | rfl
      · exact e0
      · rfl
  rw [eargs]
  refine (Proofs.AnyF.slices_SortFunc_none L p cap args'[1] W).mono fun e w' ⟨he, hw⟩ => ?_
  subst hw
  exact ⟨ρ, h, _, _, he, .same _ rfl, hC, Frame.refl _ _ _ _, rfl, rfl⟩
end
end Ph
