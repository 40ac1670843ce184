import Derived.Test.YtcbgjjbbeeoekaaDoorPhSound4
set_option linter.unusedVariables false
namespace Ph
open Go
section
variable {P : Program} {n lo : Nat} {ρ : Ren} {r : Regs} {a : Act} {h : Heap} {W : World} {o : Oper}
/-- an operation that goes on in another world, with a value -/
theorem wp_new {K : Kt} {Q : Exit → Act → World → Prop} {v v' : Value} {ρ' : Ren} {h' : Heap} {W' : World} (hC0 : Conc ρ h W) (hr : RRel n lo W ρ r a) (ho : okOper n o = true)
    (hs : ∀ id c, ρ id = some c → ρ' id = some c) (hC : Conc ρ' h' W') (hF : Frame h.next ρ h W ρ' h' W')
    (hrun : (execOp a.eval o).run P W = .ok (.value v') W') (hv : VRel ρ' v v') (hK : K (upd r o.dst v) h') : o.wp P a W (Lf n lo h.next ρ h W K) Q := by
  unfold Oper.wp; rw [hrun]
  exact ⟨ρ', _, h', hC, ((hr.world hC0 hF).mono hs).put hv (okOper_dst ho), hF, hK⟩
theorem getD_of (xs : Array Operand) (k : Nat) (hk : k < xs.size) (d : Operand) : xs.getD k d = xs[k] := by simp [Array.getD, hk]
theorem append_all {t tx ty : Nat} {s x s' x' : Value} {K : Kt} {d : Option Nat} (hC : Conc ρ h W) (hs : VRel ρ s s') (hx : VRel ρ x x') (hA : appendH P (some t) (some tx) K r d s x h) :
    ∃ v v' h' W' ρ', (Builtin.append_ #[t, tx] ty #[s', x']).run P W = .ok v' W' ∧ Conc ρ' h' W' ∧ Frame h.next ρ h W ρ' h' W' ∧ VRel ρ' v v' ∧ (∀ id c, ρ id = some c → ρ' id = some c) ∧ K (upd r d v) h' := by
  unfold appendH at hA
  simp only [onSome] at hA
  cases hez : elemZero P t with
  | none => simp [hez] at hA
  | some ez =>
    cases heb : elemBytes P t with
    | none => simp [hez, heb] at hA
    | some by_ =>
      simp only [hez, heb] at hA
      obtain ⟨e, i, z, hu, hi, hz, rfl, hpl, hzs⟩ := elemZero_inv hez
      have hbe := elemBytes_inv hu hi heb
      subst hbe
      simp only at hA
      obtain ⟨m, news, ys, hsrc, hr, hK⟩ := news_sound hC hx hA
      unfold appendK at hK
      split at hK
      · obtain ⟨⟨hb, h63⟩, hK⟩ := hK
        obtain ⟨_, _, rfl⟩ := hs.nilslice_inv
        by_cases hm : m = 0
        · simp only [gate, hm, decide_true, if_true] at hK
          subst hm
          refine ⟨.slice none 0 0, .slice none 0 0, h, W, ρ, ?_, hC, Frame.refl _ _ _ _, .same _ rfl, fun _ _ h => h, hK⟩
          rcases hsrc.kind with ⟨e', hk⟩ | hk <;> simp [Builtin.append_, run_und hu, run_und hk, Go.sizeOf, typeInfo, hi, hsrc.len, hsrc.cells]
        · simp only [gate, hm, decide_false] at hK
          obtain ⟨v', W', hrun, ρ', c1, c2, c3, c4⟩ := append_new (ty := ty) hC hu hi hz hzs hsrc hr (by omega) hb h63
          exact ⟨_, v', _, W', ρ', hrun, c1, c2, c3, c4, hK⟩
      · rename_i A nn st
        obtain ⟨rfl, hK⟩ := hK
        cases hg : h.get A.block with
        | free => simp [onCells, hg] at hK
        | dead => simp [onCells, hg] at hK
        | live bl =>
          cases bl with
          | map _ _ _ => simp [onCells, hg] at hK
          | iter _ _ _ _ _ => simp [onCells, hg] at hK
          | loop _ _ => simp [onCells, hg] at hK
          | cells vs o =>
            simp only [onCells, hg] at hK
            obtain ⟨rfl, ⟨hl, hb, h63⟩, hK⟩ := hK
            rcases hs.slice_inv with ⟨c, cap, a1, a2, rfl, a4, a5⟩ | ⟨rfl, c, a', a1, rfl⟩
            · replace hl : A.off + nn * i.size ≤ vs.length := hl
              replace a5 : c.sh + A.off + cap * i.size ≤ c.sz := a5
              by_cases hroom : nn + m ≤ cap
              · obtain ⟨v', W', hrun, ρ', c1, c2, c3, c4⟩ := append_room (ty := ty) hC hu hi hsrc hr a1 hg nn cap hl a5 hroom
                exact ⟨_, v', _, W', ρ', hrun, c1, c2, c3, c4, hK⟩
              · obtain ⟨os, y1, y2, y3⟩ := cells_list (hC.at_ _ _ _ a1 hg) A.off (nn * i.size) hl
                obtain ⟨v', W', hrun, ρ', c1, c2, c3, c4⟩ := append_grow (ty := ty) hC hu hi hz hzs hsrc hr a1 ⟨_, hg, rfl⟩ (some ⟨c.blk, c.sh + A.off, none⟩) nn cap ((vs.drop A.off).take (nn * i.size)) os (by simp; omega) y3
                  (run_firstCells_some W.drew i.size nn _ nn cap os y1 (fun j u hj => y2 j u hj)) (by omega) hb h63
                exact ⟨_, v', _, W', ρ', hrun, c1, c2, c3, c4, hK⟩
            · by_cases hm : m = 0
              · subst hm
                have hn := hC.free _ (hC.next h.next (Nat.le_refl _))
                obtain ⟨cs, e0, fr, g1, g2, g3, g4, g5⟩ := (hC.at_ _ _ _ a1 hg).own_at
                have hnews : news = [] := by
                  have h1 : news.length = ys.length := by simpa using hr.1
                  have h2 := hsrc.newsLen
                  apply List.eq_nil_of_length_eq_zero; omega
                obtain ⟨b1, b2⟩ := hC.reown (W' := W) A.block c a1 ⟨_, hg, rfl⟩ (.cells ((vs.drop A.off).take (0 * i.size) ++ news) .own) c (fun _ _ _ => rfl) (Nat.le_refl _) rfl rfl rfl (Nat.le_refl _) (.inl rfl) (hC.lt _ _ a1)
                  ⟨cs, e0, fr, g1, g2, by simp [hnews]; omega, by simp [hnews], g5⟩ h.next (Nat.le_refl _)
                refine ⟨_, .slice (some a') 0 0, _, W, _, ?_, b1, b2, .slice0 _ _ _ c (add_self _ _ _), Ren.add_le hn, hK⟩
                rcases hsrc.kind with ⟨e', hk⟩ | hk <;> simp [Builtin.append_, run_und hu, run_und hk, Go.sizeOf, typeInfo, hi, hsrc.len, hsrc.cells, (List.eq_nil_of_length_eq_zero (by simpa using hsrc.newsLen) : ys = []), storeCells]
              · obtain ⟨v', W', hrun, ρ', c1, c2, c3, c4⟩ := append_grow (ty := ty) hC hu hi hz hzs hsrc hr a1 ⟨_, hg, rfl⟩ (some a') 0 0 ((vs.drop A.off).take (0 * i.size)) [] (by simp) (by simp [ARel])
                  (run_firstCells_some W.drew i.size 0 _ 0 0 [] (by simp) (by simp)) (by omega) hb h63
                exact ⟨_, v', _, W', ρ', hrun, c1, c2, c3, c4, hK⟩
      · exact hK.elim
/-! ## Conversions -/
theorem sliceU8_inv {t : Nat} (h : sliceOfU8 P t = true) : ∃ e, P.underlying t = some (.slice e) ∧ P.underlying e = some (.int .u8) := by
  unfold sliceOfU8 at h
  split at h
  · rename_i e hu
    split at h
    · exact ⟨e, hu, by assumption⟩
    · cases h
  · cases h
theorem isInt_inv {t : Nat} {k : IntKind} (h : isInt P t = some k) : P.underlying t = some (.int k) := by unfold isInt at h; split at h <;> cases h; assumption
theorem bytesVal_inv : ∀ (vs : List Value) (bs : List UInt8), bytesVal vs = some bs → ∃ ns : List Int, vs = ns.map (Value.int .u8) ∧ bs = ns.map fun n => UInt8.ofNat n.toNat
  | [], bs, h => by simp [bytesVal] at h; subst h; exact ⟨[], rfl, rfl⟩
  | v :: r, bs, h => by
    simp only [bytesVal, List.mapM_cons] at h
    cases hb : byteOfV v with
    | none => simp [hb] at h
    | some b =>
      cases hr : r.mapM byteOfV with
      | none => simp [hb, hr] at h
      | some l =>
        simp [hb, hr] at h
        subst h
        obtain ⟨ns, e1, e2⟩ := bytesVal_inv r l hr
        cases v <;> simp [byteOfV] at hb
        rename_i k n
        cases k <;> simp at hb
        exact ⟨n :: ns, by simp [e1], by simp [e2, hb]⟩
theorem foldl_push (ns : List Int) : ∀ b : ByteArray, ns.foldl (fun r n => r.push (UInt8.ofNat n.toNat)) b = ⟨b.data ++ (ns.map fun n => UInt8.ofNat n.toNat).toArray⟩ := by
  induction ns with
  | nil => intro b; simp
  | cons n r ih => intro b; rw [List.foldl_cons, ih]; simp [ByteArray.push]
theorem run_conv_sl {s t : Nat} (h1 : isStr P t = true) (h2 : sliceOfU8 P s = true) {A : Addr} {m st : Nat} {x' : Value} (hx : VRel ρ (.slice (some A) m st) x') {vs : List Value} {o : Own} (hat : ∀ c, ρ A.block = some c → BlkAt ρ W c (.cells vs o))
    (h3 : A.off + m ≤ vs.length) {bs : List UInt8} (hb : bytesVal ((vs.drop A.off).take m) = some bs) : (convert s t x').run P W = .ok (.string ⟨bs.toArray⟩) W := by
  obtain ⟨e, hu, he⟩ := sliceU8_inv h2
  obtain ⟨ns, e1, e2⟩ := bytesVal_inv _ _ hb
  have fin : ∀ (A' : Addr) (cap : Nat), (loadCells A' m).run P W = .ok (ns.map (Value.int .u8)).toArray W → (convert s t (.slice (some A') m cap)).run P W = .ok (.string ⟨bs.toArray⟩) W := fun A' cap hl => by
    have := run_bytesToString (P := P) W A' m cap ns hl
    simp only [convert, Sem.run_bind, run_und hu, run_und (isStr_inv h1), Result.andThen_ok, run_und he, this]
    rw [foldl_push]
    simp [e2]
  rcases hx.slice_inv with ⟨c, cap, a1, a2, rfl, a4, a5⟩ | ⟨rfl, c, a', a1, rfl⟩
  · obtain ⟨ys, y1, y2, y3⟩ := cells_list (hat _ a1) A.off m h3
    have hys : ys = ns.map (Value.int .u8) := by
      apply List.ext_getElem?
      intro j
      by_cases hj : j < m
      · have hj1 : j < ys.length := by omega
        have hl : ((vs.drop A.off).take m).length = m := by simp; omega
        have hj2 : j < (ns.map (Value.int .u8)).length := by rw [← e1]; omega
        rw [List.getElem?_eq_getElem hj1, List.getElem?_eq_getElem hj2]
        have := y3.2 j ((ns.map (Value.int .u8))[j]) ys[j] (by rw [e1]; simp) (by simp)
        simp only [List.getElem_map] at this ⊢
        rw [this.int_inv]
      · have hl : ((vs.drop A.off).take m).length = m := by simp; omega
        rw [List.getElem?_eq_none (by omega), List.getElem?_eq_none (by rw [← e1]; omega)]
    have hl := run_loadCells_list (P := P) (w := W) ⟨c.blk, c.sh + A.off, none⟩ ys y2
    rw [y1, hys] at hl
    exact fin _ cap hl
  · have : ns = [] := by
      have : (ns.map (Value.int .u8)) = [] := by rw [← e1]; simp
      simpa using this
    exact fin a' 0 (by rw [this]; rfl)
theorem conv_sound {s t : Nat} {x x' : Value} {K : Kt} {d : Option Nat} (hC : Conc ρ h W) (hx : VRel ρ x x') (hs : conv P s t K r d x h) :
    ∃ v v' h' W' ρ', (convert s t x').run P W = .ok v' W' ∧ Conc ρ' h' W' ∧ Frame h.next ρ h W ρ' h' W' ∧ VRel ρ' v v' ∧ (∀ id c, ρ id = some c → ρ' id = some c) ∧ K (upd r d v) h' := by
  unfold conv at hs
  split at hs
  · rename_i k nn
    cases hk : isInt P t with
    | none => simp [hk, onSome] at hs
    | some kd =>
      simp only [hk, onSome] at hs
      obtain ⟨h1, hK⟩ := hs
      obtain ⟨ds, hds⟩ := Option.isSome_iff_exists.1 h1
      cases hx.int_inv
      refine ⟨_, _, h, W, ρ, ?_, hC, Frame.refl _ _ _ _, .same _ rfl, fun _ _ h => h, hK⟩
      cases ds <;> simp [convert, run_und hds, run_und (isInt_inv hk), Conv.intToInt]
  · obtain ⟨⟨h1, h2⟩, hK⟩ := hs
    obtain ⟨e, hu, he⟩ := sliceU8_inv h2
    obtain ⟨_, _, rfl⟩ := hx.nilslice_inv
    exact ⟨_, .string ⟨#[]⟩, h, W, ρ, by simp [convert, run_und hu, run_und (isStr_inv h1), run_und he, Conv.bytesToString]; rfl, hC, Frame.refl _ _ _ _, .same _ rfl, fun _ _ h => h, hK⟩
  · rename_i A m st
    obtain ⟨⟨h1, h2⟩, hs⟩ := hs
    obtain ⟨e, hu, he⟩ := sliceU8_inv h2
    cases hg : h.get A.block with
    | free => simp [onCells, hg] at hs
    | dead => simp [onCells, hg] at hs
    | live bl =>
      cases bl with
      | map _ _ _ => simp [onCells, hg] at hs
      | iter _ _ _ _ _ => simp [onCells, hg] at hs
      | loop _ _ => simp [onCells, hg] at hs
      | cells vs o =>
        simp only [onCells, hg] at hs
        obtain ⟨h3, hs⟩ := hs
        cases hb : bytesVal ((vs.drop A.off).take m) with
        | none => simp [hb, onSome] at hs
        | some bs =>
          simp only [hb, onSome] at hs
          exact ⟨_, _, h, W, ρ, run_conv_sl h1 h2 hx (fun c hc => hC.at_ _ _ _ hc hg) h3 hb, hC, Frame.refl _ _ _ _, .same _ rfl, fun _ _ h => h, hs⟩
  · rename_i b
    cases hx.string_inv
    cases hst : isStr P t with
    | true =>
      simp only [gate, hst, if_true] at hs
      obtain ⟨h1, hK⟩ := hs
      obtain ⟨ds, hds⟩ := Option.isSome_iff_exists.1 h1
      refine ⟨_, _, h, W, ρ, ?_, hC, Frame.refl _ _ _ _, .same _ rfl, fun _ _ h => h, hK⟩
      cases ds <;> simp [convert, run_und hds, run_und (isStr_inv hst)]
    | false =>
      simp only [gate, hst] at hs
      obtain ⟨⟨h1, h2, h3⟩, hK⟩ := hs
      obtain ⟨ds, hds⟩ := Option.isSome_iff_exists.1 h1
      obtain ⟨e, hu, he⟩ := sliceU8_inv h2
      have hrun := Lib.run_convert_string_bytes (P := P) W s t e b hds hu he
      have hge := grownCap_ge W b.size 0 e
      have hbs : (b.data.map fun x => Value.int .u8 (x.toNat : Int)) = (byteCells b).toArray := by apply Array.ext'; simp [byteCells]
      let extra : Array Value := Array.replicate (grownCap W b.size 0 e - b.size) (.int .u8 0)
      have hcells : Lib.bytesCells W e b = (byteCells b).toArray ++ extra := by unfold Lib.bytesCells; rw [hbs]
      have hsz : (Lib.bytesCells W e b).size = grownCap W b.size 0 e := by rw [hcells]; simp [byteCells_length, extra]; omega
      have hW : Lib.bytesWorld W e b = { { W with drawn := W.drawn + 1 } with heap := W.heap.push (.cells ((byteCells b).toArray ++ extra) e ((Lib.bytesCells W e b).size, (Lib.bytesCells W e b).size + 1)) } := by
        unfold Lib.bytesWorld World.freeze
        rw [if_neg (by decide)]
        refine congrArg (fun hp : Array Obj => ({ W with heap := hp, drawn := W.drawn + 1 } : World)) (?_ : (W.heap.push _).modify W.heap.size _ = _)
        apply Array.ext_getElem?
        intro k
        rw [Array.getElem?_modify, push_get, push_get]
        by_cases hk : W.heap.size = k
        · subst hk; simp [hcells]
        · rw [if_neg hk, if_neg (Ne.symm hk), if_neg (Ne.symm hk)]
      obtain ⟨c1, c2⟩ := alloc_sound (hC.drew (W.drawn + 1)) (byteCells b) (byteCells b).toArray extra (ARel.of_plains (byteCells_plain b)) e ((Lib.bytesCells W e b).size, (Lib.bytesCells W e b).size + 1)
        (fun i hi hf => by rw [← hcells] at hi; have := hf.1; simp at this; omega)
      refine ⟨_, _, _, _, _, hrun, by rw [hW]; exact c1, by rw [hW]; exact (Frame.drew W _).trans c2, .slice _ _ _ _ _ _ (add_self _ _ _) hge ?_, Ren.add_le (hC.free _ (hC.next _ (Nat.le_refl _))), hK⟩
      rw [← hcells, hsz]; simp
  · exact hs.elim
end
end Ph
