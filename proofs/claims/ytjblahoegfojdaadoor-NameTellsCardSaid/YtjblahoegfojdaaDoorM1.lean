/- The parts of a name, over plain lists of bytes: what the chapter's document says, and that the printed functions compute it. -/
import Derived.Test.YtjblahoegfojdaaDoorX4
import Derived.Lib.SplitLaws
import Derived.Lib.SlTrimSet
namespace Go.Proofs.YtjblahoegfojdaaDoor.Pure
open Go.RowKit Go.Proofs.YtjblahoegfojdaaDoor.X Go.Proofs.YtjblahoegfojdaaDoorW.PrintWords Go.Proofs.YtjblahoegfojdaaDoorW.PrintLast Go.Proofs.YtjblahoegfojdaaDoorW.PrintMore
set_option linter.unusedSimpArgs false
set_option linter.unusedVariables false

/-- May a part have it? -/
def letB (c : UInt8) : Bool := (decide (97 ≤ c.toNat) && decide (c.toNat ≤ 122)) || ((decide (48 ≤ c.toNat) && decide (c.toNat ≤ 57)) || (decide (c.toNat = 45) || (decide (c.toNat = 95) || decide (c.toNat = 42))))
/-- The parts of the rest of a text, of whose first part some bytes are read. -/
def partsOf : List UInt8 → List UInt8 → Option (List (List UInt8))
  | [], cur => if cur = [] then some [] else none
  | c :: r, cur => if c = 46 then (if cur = [] ∨ 63 < cur.length then none else (partsOf r []).map (cur :: ·)) else if letB c = true then partsOf r (cur ++ [c]) else none
/-- The parts of a name. -/
def nameOf (l : List UInt8) : Option (List (List UInt8)) := if l = [46] then some [] else if l = [] ∨ 254 < l.length then none else partsOf l []
def mk (l : List UInt8) : ByteArray := ⟨l.toArray⟩
def out (o : Option (List (List UInt8))) : List ByteArray × Int := match o with | none => ([], 14) | some ps => (ps.map mk, 0)

theorem mk_data (l : List UInt8) : (mk l).data.toList = l := rfl
theorem mk_list (l : List UInt8) : (mk l).toList = l := by rw [ByteArray.toList_eq]; rfl
theorem mk_size (l : List UInt8) : (mk l).size = l.length := by rw [Go.Lib.size_eq]; rfl
theorem mk_of (a : ByteArray) : mk a.data.toList = a := by obtain ⟨⟨l⟩⟩ := a; rfl
theorem mk_inj {a b : List UInt8} (h : mk a = mk b) : a = b := by have := congrArg (fun x => x.data.toList) h; simpa [mk] using this
theorem mk_extract (l : List UInt8) (a b : Nat) : (mk l).extract a b = mk ((l.drop a).take (b - a)) := by
  rw [← mk_of ((mk l).extract a b), Go.Lib.extract_data]; rfl
theorem mk_app (a b : List UInt8) : mk a ++ mk b = mk (a ++ b) := by
  rw [← mk_of (mk a ++ mk b)]; congr 1
theorem mk_bt (l : List UInt8) (i : Int) : bt (mk l) i = ((l.getD i.toNat 0).toNat : Int) := by
  unfold bt
  by_cases h : i.toNat < (mk l).size
  · rw [dif_pos h]
    have h' : i.toNat < l.length := by rw [mk_size] at h; exact h
    simp [List.getD, List.getElem?_eq_getElem h', mk, ByteArray.getElem_eq_getElem_data]
  · rw [dif_neg h]
    have h' : l.length ≤ i.toNat := by rw [mk_size] at h; omega
    simp [List.getD, List.getElem?_eq_none h']

theorem letter_ref (c : UInt8) : rhyneref17_letter.f (c.toNat : Int) = some (letB c) := by
  unfold rhyneref17_letter.f letB
  have e : ((c.toNat : Int) == 42) = decide (c.toNat = 42) := by
    by_cases h : c.toNat = 42
    · rw [decide_eq_true h]; exact beq_iff_eq.2 (by omega)
    · rw [decide_eq_false h]; exact beq_eq_false_iff_ne.2 (by omega)
  rw [e]
  by_cases h1 : 97 ≤ c.toNat <;> by_cases h2 : c.toNat ≤ 122 <;> by_cases h3 : 48 ≤ c.toNat <;> by_cases h4 : c.toNat ≤ 57 <;> by_cases h5 : c.toNat = 45 <;> by_cases h6 : c.toNat = 95 <;>
    first | omega | ((simp only [ge_iff_le]; repeat (first | rw [if_pos (by omega)] | rw [if_neg (by omega)])) <;> simp [h1, h2, h3, h4, h5, h6])

theorem w64 (x : Int) (h0 : 0 ≤ x) (h1 : x < 9223372036854775808) : wrap64 x = x := by unfold wrap64; omega

theorem refparts (l : List UInt8) (hl : l.length < 8796093022208) : ∀ (r : List UInt8) (k i f : Nat) (o : List ByteArray), l.drop i = r → i ≤ l.length → f ≤ i → o.length ≤ i →
    rhyneref17_DocLabels.l0 (k + r.length + 1) (mk l) o f i = some (match partsOf r ((l.drop f).take (i - f)) with | none => ([], 14) | some ps => if l = [] ∨ 254 < l.length then ([], 14) else (o ++ ps.map mk, 0)) := by
  intro r
  induction r with
  | nil =>
    intro k i f o hd hi hf ho
    have hil : i = l.length := by have := congrArg List.length hd; simp at this; omega
    subst hil
    rw [rhyneref17_DocLabels.l0, mk_size, if_neg (by omega), mk_list]
    have hlen : ((l.drop f).take (l.length - f)).length = l.length - f := by simp
    by_cases hfl : f = l.length
    · subst hfl
      rw [if_pos rfl]
      simp only [partsOf, Nat.sub_self, List.take_zero, if_true, List.map_nil, List.append_nil]
      by_cases h0 : l = []
      · subst h0; simp
      · rw [if_neg h0, w64 _ (by omega) (by omega)]
        by_cases h2 : 254 < l.length
        · rw [if_pos (by omega), if_pos (.inr h2)]
        · rw [if_neg (by omega), if_neg (by simp [h0]; omega)]
    · rw [if_neg (by omega)]
      have : (l.drop f).take (l.length - f) ≠ [] := fun e => by rw [e] at hlen; simp at hlen; omega
      simp [partsOf, this]
  | cons c r ih =>
    intro k i f o hd hi hf ho
    have hlt : i < l.length := by have := congrArg List.length hd; simp at this; omega
    have hc : l.getD i 0 = c := by
      have := congrArg (fun z => z.getD 0 0) hd
      simpa [List.getD, List.getElem?_drop] using this
    have hr : l.drop (i + 1) = r := by rw [← List.drop_drop, hd]; rfl
    have hcur : (l.drop f).take (i + 1 - f) = (l.drop f).take (i - f) ++ [c] := by
      rw [show i + 1 - f = (i - f) + 1 from by omega, List.take_add_one, List.getElem?_drop, show f + (i - f) = i from by omega]
      have hc' : l[i] = c := by simpa [List.getD, List.getElem?_eq_getElem hlt] using hc
      simp [List.getElem?_eq_getElem hlt, hc']
    have hlen : ((l.drop f).take (i - f)).length = i - f := by simp; omega
    rw [List.length_cons, ← Nat.add_assoc, rhyneref17_DocLabels.l0, mk_size, if_pos (by omega), if_pos (by omega), mk_bt, Int.toNat_natCast, hc, partsOf]
    have hw : wrap64 ((i : Int) + 1) = ((i + 1 : Nat) : Int) := w64 _ (by omega) (by omega)
    by_cases h46 : c = 46
    · subst h46
      rw [if_pos (by decide), if_pos rfl]
      by_cases hif : i = f
      · subst hif
        rw [if_pos rfl, if_pos (.inl (by simp))]
      · rw [if_neg (by omega), w64 _ (by omega) (by omega)]
        by_cases h63 : 63 < i - f
        · rw [if_pos (by omega), if_pos (.inr (by rw [hlen]; exact h63))]
        · rw [if_neg (by omega), if_pos (by omega), if_pos (by omega), if_pos (by omega), if_pos (by omega), if_neg (by
            rintro (e | e)
            · rw [e] at hlen; simp at hlen; omega
            · rw [hlen] at e; exact h63 e)]
          rw [mk_extract, hw, ih k (i + 1) (i + 1) _ hr (by omega) (Nat.le_refl _) (by simp; omega)]
          simp only [Nat.sub_self, List.take_zero]
          cases partsOf r [] with
          | none => rfl
          | some ps => simp [List.append_assoc]
    · have h46' : ¬ ((c.toNat : Int) = 46) := fun e => h46 (by apply UInt8.toNat_inj.1; show c.toNat = 46; omega)
      rw [if_neg h46', if_neg h46, letter_ref, Option.bind_some]
      by_cases hlet : letB c = true
      · rw [if_pos hlet, if_pos hlet, hw, ih k (i + 1) f o hr (by omega) (by omega) (by omega), hcur]
      · rw [if_neg hlet, if_neg hlet]

theorem doclabels (k : Nat) (a : ByteArray) (ha : a.size < 8796093022208) : rhyneref17_DocLabels.f (k + a.size + 1) a = some (out (nameOf a.data.toList)) := by
  generalize hl : a.data.toList = l
  obtain rfl : a = mk l := by rw [← hl, mk_of]
  rw [mk_size] at ha ⊢
  unfold rhyneref17_DocLabels.f nameOf
  rw [mk_list]
  by_cases h : l = [46]
  · rw [if_pos h, if_pos h]; rfl
  · rw [if_neg h, if_neg h]
    have := refparts l ha l k 0 0 [] (by simp) (by omega) (by omega) (by simp)
    simp only [Nat.sub_self, List.take_zero, List.drop_zero] at this
    rw [show ((0 : Nat) : Int) = 0 from rfl] at this
    rw [this]
    by_cases h2 : l = [] ∨ 254 < l.length
    · simp only [if_pos h2]; cases partsOf l [] <;> rfl
    · simp only [if_neg h2]; cases partsOf l [] <;> simp [out]
end Go.Proofs.YtjblahoegfojdaaDoor.Pure
