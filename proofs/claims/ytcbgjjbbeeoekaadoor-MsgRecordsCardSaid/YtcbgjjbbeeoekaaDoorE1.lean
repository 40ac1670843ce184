import Derived.Test.YtcbgjjbbeeoekaaDoorP1
import Derived.Test.YtcbgjjbbeeoekaaDoorTy
import Derived.Test.YtcbgjjbbeeoekaaDoorPhPiece
import Derived.Test.YtcbgjjbbeeoekaaDoorSh
import Derived.Shelf.Strings.SlTrimAscii
set_option maxRecDepth 100000
set_option maxHeartbeats 4000000
set_option linter.unusedSimpArgs false
set_option linter.unusedVariables false
namespace Ph
open Go Go.Proofs
/-! The library's functions on texts. -/
theorem hm : Tryd.prog.follows .mixedOrders = true := by kernel_rfl
theorem letters_ascii : ∀ (j : Nat) b, (str letters).data.toList[j]? = some b → b.toNat < 128 := Go.Proofs.ascii_of_all (by decide)
theorem plains2 {a b : Value} (ha : plain a = true) (hb : plain b = true) : ∀ x ∈ (#[a, b] : Array Value), plain x = true := by
  intro x hx
  simp at hx
  rcases hx with rfl | rfl <;> assumption
theorem Cut_ph (h : Heap) (l m : List UInt8) (hl : l.length ≤ 9223372036854775807) :
    @CallsH Tryd.prog 36 #[.string (str l), .string (str m)] h ⟨fun u H => u = .tuple #[.string (str (Go.Lib.trimSuffix l m)), .bool (Go.Lib.hasSuffix l m)] ∧ H = h⟩ :=
  lift_plain (plains2 rfl rfl) rfl fun W => (Tryd.strings_CutSuffix (str l) (str m) W (by rw [size_str]; exact hl)).mono fun e w' ⟨he, hw⟩ => ⟨by rw [he, data_str, data_str]; rfl, hw ▸ RowKit.Below.refl _ _⟩
theorem Index_ph (h : Heap) (l : List UInt8) (c : UInt8) :
    @CallsH Tryd.prog 40 #[.string (str l), .int .u8 (c.toNat : Int)] h ⟨fun u H => u = .int .i64 (Go.Lib.indexByte l c) ∧ H = h⟩ :=
  lift_plain (plains2 rfl rfl) rfl fun W => (Tryd.strings_IndexByte (str l) (c.toNat : Int) W).mono fun e w' ⟨he, hw⟩ => ⟨by rw [he, data_str]; simp, hw ▸ RowKit.Below.refl _ _⟩
theorem Trim_ph (h : Heap) (l : List UInt8) (hl : l.length ≤ 9223372036854775807) :
    @CallsH Tryd.prog 38 #[.string (str l), .string (str letters)] h ⟨fun u H => u = .string (str (Go.Lib.trimS l letters)) ∧ H = h⟩ :=
  lift_plain (plains2 rfl rfl) rfl fun W => (Go.Proofs.Any.strings_Trim_laid Tryd.lays160 (by kernel_rfl) (str l) (str letters) W (by rw [size_str]; exact hl) (by decide) letters_ascii).mono fun e w' ⟨he, hw⟩ => ⟨by rw [he, data_str, data_str]; rfl, hw⟩
theorem Split_ph (h : Heap) (l : List UInt8) (hl : l.length < 4294967281) :
    @CallsH Tryd.prog 37 #[.string (str l), .string (str [46])] h ⟨fun u H => u = .slice (some ⟨h.next, 0, none⟩) (dots l).length 1 ∧ H = h.alloc (.cells ((dots l).map fun p => .string (str p)) .own)⟩ := by
  refine lift_row (plains2 rfl rfl) (by simp [plainCell]) (by simp) fun ρ W hC => ?_
  obtain ⟨_, ⟨m, hm⟩, _⟩ := hC.tab.2 0 (by simp [gints])
  refine (Tryd.strings_Split (str l) (str [46]) m W (by rw [size_str]; exact hl) hm (by decide)).mono fun e w' ⟨he, hw⟩ => ?_
  rw [(split_dots l).2] at he
  rw [(split_dots l).1, List.map_map] at hw
  exact ⟨he, _, hw⟩
/-- rows of texts -/
def tE : Enc (List UInt8) := ⟨1, fun l => [.string (str l)], fun _ => rfl, fun _ => rfl⟩
theorem t_flat (l : List (List UInt8)) : tE.flat l = l.map fun p => .string (str p) := by
  induction l with
  | nil => rfl
  | cons b l ih => rw [flat_cons, ih]; rfl
theorem Join_ph (h : Heap) (v : Value) (ps : List (List UInt8)) (hr : RowIn tE h v ps) (hn : ps.length ≤ 140737488355328) (hl : (Go.Lib.join ps [46]).length ≤ 140737488355328) :
    @CallsH Tryd.prog 34 #[v, .string (str [46])] h ⟨fun u H => u = .string (str (Go.Lib.join ps [46])) ∧ H = h⟩ := by
  refine lift_world rfl fun ρ W args' hC ha => ?_
  have e0 : args'.size = 2 := ha.1.symm
  have a0 := ha.2 0 _ args'[0] rfl (Array.getElem?_eq_getElem (by omega))
  have a1 := (ha.2 1 _ args'[1] rfl (Array.getElem?_eq_getElem (by omega))).string_inv
  have eargs : args' = #[args'[0], .string (str [46])] := by
    apply Array.ext
    · simpa using e0
    · intro i h1 h2
      have : i = 0 ∨ i = 1 := by simp at h2; omega
      rcases this with rfl | rfl
      · rfl
      · exact a1
  have nun : ∀ a c, ps = [] → args'[0] = .slice a 0 c → Calls Tryd.prog 34 args' W fun e w' => e = .returned (.string (str (Go.Lib.join ps [46]))) ∧ RowKit.Below W.heap.size W w' := fun a c e1 e2 => by
    subst e1
    rw [eargs, e2]
    exact (Tryd.strings_Join_none a c (str [46]) W).mono fun e w' ⟨he, hw⟩ => ⟨he, hw ▸ RowKit.Below.refl _ _⟩
  rcases hr with ⟨rfl, e1⟩ | ⟨q, off, vs, o, rfl, hq, hR⟩
  · obtain ⟨_, _, e2⟩ := a0.nilslice_inv
    exact nun _ _ e1 e2
  · rcases a0.slice_inv with ⟨c, cap, hc, _, e2, hcap, _⟩ | ⟨e1, c, a', _, e2⟩
    · have hb := hC.at_ q c _ hc hq
      have hcell : ∀ (j : Nat) x, (ps.map str)[j]? = some x → W.cell? ⟨c.blk, c.sh + off + j, none⟩ = some (.string x) := fun j x hj => by
        rw [List.getElem?_map] at hj
        obtain ⟨p, hp, rfl⟩ := Option.map_eq_some_iff.1 hj
        have hv := hR.cell hp (j := 0) (Nat.zero_lt_one)
        rw [show tE.k = 1 from rfl, Nat.mul_one, Nat.add_zero, show (tE.enc p)[0]? = some (.string (str p)) from rfl] at hv
        have hro : ∃ v', W.cell? ⟨c.blk, c.sh + (off + j), none⟩ = some v' ∧ VRel ρ (.string (str p)) v' := by
          cases o with
          | ro => exact hb _ _ hv
          | _ =>
            obtain ⟨cs, e, fr, g1, g2, g3, g4, g5⟩ := hb
            obtain ⟨v', h1, h2⟩ := g4 _ _ hv
            exact ⟨v', by unfold World.cell?; simp only; rw [g1]; exact h1, h2⟩
        obtain ⟨v', h1, h2⟩ := hro
        rw [h2.string_inv] at h1
        rw [Nat.add_assoc]; exact h1
      rw [eargs, e2]
      have hm : (ps.map str).map (·.data.toList) = ps := by rw [List.map_map]; simp [Function.comp_def, data_str]
      have := Tryd.strings_Join c.blk (c.sh + off) cap (ps.map str) (str [46]) W hcell (hC.lt q c hc) (by simpa using hn) (by simpa using hcap) (by rw [hm, data_str]; exact hl)
      rw [hm, data_str, List.length_map] at this
      exact this
    · exact nun _ _ (List.length_eq_zero_iff.1 e1) e2
end Ph
