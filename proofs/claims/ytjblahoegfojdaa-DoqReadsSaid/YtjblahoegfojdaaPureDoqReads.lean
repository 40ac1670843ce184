/- In every row of calls a reader answers as the chapter says; of all bytes Frame does; no condition. -/
import Derived.Test.YtjblahoegfojdaaX2
import Derived.Lib.Bytes
namespace Go.Proofs.Ytjblahoegfojdaa.Pure
open Go.RowKit Go.Proofs.Ytjblahoegfojdaa.X Go.Proofs.YtjblahoegfojdaaW.PrintWords Go.Proofs.YtjblahoegfojdaaW.PrintLast Go.Proofs.YtjblahoegfojdaaW.PrintMore
set_option linter.unusedSimpArgs false
set_option linter.unusedVariables false

/-- All are bytes. -/
def isBytes (l : List Int) : Prop := ∀ x ∈ l, 0 ≤ x ∧ x < 256
theorem rd_byte {l : List Int} (h : isBytes l) (i : Int) : 0 ≤ rd l i ∧ rd l i < 256 := by
  unfold rd
  by_cases hi : i.toNat < l.length
  · rw [List.getD_eq_getElem?_getD, List.getElem?_eq_getElem hi]
    exact h _ (List.getElem_mem hi)
  · rw [List.getD_eq_getElem?_getD, List.getElem?_eq_none (by omega)]; decide +kernel
theorem bt_strOf {l : List Int} (h : isBytes l) (i : Int) : bt (strOfNums l) i = rd l i := by
  unfold bt rd
  have hs : (strOfNums l).size = l.length := strOfNums_size l
  by_cases hi : i.toNat < l.length
  · rw [dif_pos (by omega), List.getD_eq_getElem?_getD, List.getElem?_eq_getElem hi]
    have hb := h _ (List.getElem_mem hi)
    have e : (strOfNums l)[i.toNat]'(by omega) = UInt8.ofNat (l[i.toNat]).toNat := by
      simp [strOfNums, ByteArray.getElem_eq_getElem_data]
    rw [e]
    simp only [Option.getD_some, UInt8.toNat_ofNat']
    rw [Nat.mod_eq_of_lt (by omega)]
    omega
  · rw [dif_neg (by omega), List.getD_eq_getElem?_getD, List.getElem?_eq_none (by omega)]; rfl
theorem strOf_nil (l : List Int) : (strOfNums l).toList = [] ↔ l = [] := by
  rw [Go.Lib.strOfNums_toList]
  cases l <;> simp [Go.Lib.bytesOf]
theorem nums_size (l : List Int) : (strOfNums l).size = l.length := strOfNums_size l
theorem nums_app (a b : List Int) : strOfNums a ++ strOfNums b = strOfNums (a ++ b) := by
  apply ByteArray.ext
  rw [ByteArray.data_append]
  simp [strOfNums]
theorem strOf_cut (l : List Int) (a b : Nat) : (strOfNums l).extract a b = strOfNums ((l.take b).drop a) := by
  apply ByteArray.ext
  rw [ByteArray.data_extract]
  apply Array.ext'
  rw [Array.toList_extract]
  simp only [strOfNums, List.extract_eq_take_drop, List.drop_take, List.map_drop, List.map_take]
theorem strOf_bytesOf (s : ByteArray) : strOfNums (bytesOf s) = s := by
  obtain ⟨⟨l⟩⟩ := s
  simp [strOfNums, bytesOf, Function.comp_def]
theorem bytesOf_len (s : ByteArray) : (bytesOf s).length = s.size := by
  unfold bytesOf
  rw [List.length_map, Array.length_toList]; rfl
theorem bytesOf_bytes (s : ByteArray) : isBytes (bytesOf s) := by
  intro x hx
  simp only [bytesOf, List.mem_map] at hx
  obtain ⟨b, _, rfl⟩ := hx
  have := b.toNat_lt
  omega
theorem app_bytesOf (l : List Int) (s : ByteArray) : strOfNums l ++ s = strOfNums (l ++ bytesOf s) := by
  rw [← nums_app, strOf_bytesOf]
theorem isBytes_append {a b : List Int} (ha : isBytes a) (hb : isBytes b) : isBytes (a ++ b) := fun x hx => (List.mem_append.1 hx).elim (ha x) (hb x)
theorem framed_f : rhynelaw23_framed.f = some true := by decide +kernel
/-- One call. -/
theorem step (k : Nat) (xs : List S42) (i : Nat) (hi : i < xs.length) (h60 : i < 60) (l : List Int) (o : Bool) (hb : isBytes l) (hl : l.length ≤ 1048576)
    (ih : ∀ (l' : List Int) (o' : Bool), isBytes l' → l'.length ≤ 1048576 → rhynelaw23_DoqReads.l0 k xs ((i + 1 : Nat) : Int) l' o' (strOfNums l') o' = some true) :
    rhynelaw23_DoqReads.j2 (k + 1) xs i true l o (strOfNums l) o = some true := by
  have hw1 : wrap64 ((i : Int) + 1) = ((i + 1 : Nat) : Int) := by unfold wrap64; omega
  have hmn : 0 ≤ mn (((rd_T42 xs i).f1.size : Nat) : Int) 3000 ∧ mn (((rd_T42 xs i).f1.size : Nat) : Int) 3000 ≤ (((rd_T42 xs i).f1.size : Nat) : Int) ∧ mn (((rd_T42 xs i).f1.size : Nat) : Int) 3000 ≤ 3000 := by
    unfold mn; split <;> omega
  rw [rhynelaw23_DoqReads.j2, if_pos rfl, if_pos (by omega), if_pos (by omega), if_pos hmn.1, if_pos hmn.2.1, hw1]
  have hs : ((rd_T42 xs i).f1.extract 0 (mn (((rd_T42 xs i).f1.size : Nat) : Int) 3000).toNat).size ≤ 3000 := by rw [ByteArray.size_extract]; omega
  generalize (rd_T42 xs i).f1.extract 0 (mn (((rd_T42 xs i).f1.size : Nat) : Int) 3000).toNat = s at *
  clear hmn
  by_cases c2 : (rd_T42 xs i).f2 = true
  · rw [if_pos c2]
    by_cases cl : (l.length : Int) > 0
    · rw [if_pos cl, if_neg (by rw [strOf_nil]; intro h; rw [h] at cl; exact absurd cl (by decide)), if_pos rfl, ih l true hb hl]
    · rw [if_neg cl, if_pos (by rw [strOf_nil]; exact List.eq_nil_of_length_eq_zero (by omega)), if_pos rfl, ih l true hb hl]
  rw [if_neg c2]
  by_cases c0 : (rd_T42 xs i).f0 = true
  · rw [if_pos c0]
    by_cases co : o = true
    · rw [if_pos co, if_pos co, if_pos rfl, ih l o hb hl]
    rw [if_neg co, if_neg co, if_neg co, nums_size]
    have hw2 : wrap64 (1048576 - (l.length : Int)) = 1048576 - (l.length : Int) := by unfold wrap64; omega
    rw [hw2]
    by_cases cf : (s.size : Int) > 1048576 - (l.length : Int)
    · rw [if_pos cf, if_pos cf, if_pos rfl, ih l o hb hl]
    rw [if_neg cf, if_neg cf, if_pos (by omega), if_pos (by omega), if_pos rfl, app_bytesOf]
    exact ih _ o (isBytes_append hb (bytesOf_bytes s)) (by rw [List.length_append, bytesOf_len]; omega)
  rw [if_neg c0, nums_size]
  by_cases cf : (l.length : Int) < 2
  · rw [if_pos cf, if_pos cf, if_pos rfl, if_neg (by decide), ih l o hb hl]
  rw [if_neg cf, if_pos (by omega), if_pos (by omega), bt_strOf hb 0, bt_strOf hb 1]
  obtain ⟨h00, h01⟩ := rd_byte hb 0
  obtain ⟨h10, h11⟩ := rd_byte hb 1
  generalize rd l 0 = x at *
  generalize rd l 1 = y at *
  have hE : wrap64 (wrap64 (2 + wrap64 (wrap64 x * 256)) + wrap64 y) = 2 + x * 256 + y := by unfold wrap64; omega
  have hM : wrap64 (wrap64 (wrap64 x * 256) + wrap64 y) = x * 256 + y := by unfold wrap64; omega
  have hN : wrap64 (2 + (x * 256 + y)) = 2 + x * 256 + y := by unfold wrap64; omega
  rw [hE, hM, hN]
  by_cases cz : 2 + x * 256 + y = 2
  · rw [if_pos cz, if_neg cf, if_pos (by omega), if_pos (by omega), if_pos (by omega), if_pos rfl, if_neg (by decide), ih l o hb hl]
  rw [if_neg cz]
  by_cases cs : (l.length : Int) < 2 + x * 256 + y
  · rw [if_pos cs, if_neg cf, if_pos (by omega), if_pos (by omega), if_neg (by omega), if_pos cs, if_pos rfl, if_neg (by decide), ih l o hb hl]
  rw [if_neg cs, if_pos (by omega), if_pos (by omega), if_pos (by omega), if_neg cf, if_pos (by omega), if_pos (by omega), if_neg (by omega), if_neg cs, if_pos (by omega), if_pos (by omega), if_pos (by omega),
    strOf_cut, if_pos rfl, if_neg (by decide), strOf_cut, List.take_of_length_le (Nat.le_refl _)]
  exact ih _ o (fun z hz => hb z (List.mem_of_mem_drop hz)) (by rw [List.length_drop]; omega)
theorem loop (xs : List S42) : ∀ (n k i : Nat) (l : List Int) (o : Bool), i + n = min xs.length 60 → isBytes l → l.length ≤ 1048576 →
    rhynelaw23_DoqReads.l0 (k + 2 * n + 2) xs i l o (strOfNums l) o = some true := by
  intro n
  induction n with
  | zero =>
    intro k i l o hi hb hl
    have hfin : rhynelaw23_DoqReads.j2 (k + 1) xs i false l o (strOfNums l) o = some true := by
      rw [rhynelaw23_DoqReads.j2, if_neg (by decide)]
      by_cases cl : (l.length : Int) > 0
      · rw [if_pos cl, if_neg (by rw [strOf_nil]; intro h; rw [h] at cl; exact absurd cl (by decide))]; rfl
      · rw [if_neg cl, if_pos (by rw [strOf_nil]; exact List.eq_nil_of_length_eq_zero (by omega))]; rfl
    rw [show k + 2 * 0 + 2 = (k + 1) + 1 from rfl, rhynelaw23_DoqReads.l0]
    by_cases c : (i : Int) < (xs.length : Int)
    · rw [if_pos c, decide_eq_false (by omega), hfin]
    · rw [if_neg c, hfin]
  | succ n ih =>
    intro k i l o hi hb hl
    rw [show k + 2 * (n + 1) + 2 = (k + 2 * n + 2 + 1) + 1 from by omega, rhynelaw23_DoqReads.l0, if_pos (by omega), decide_eq_true (by omega)]
    exact step _ xs i (by omega) (by omega) l o hb hl (fun l' o' hb' hl' => ih k (i + 1) l' o' (by omega) hb' hl')
theorem DoqReads : ∀ (l0 : List (S42)) (l1 : List Int), (l0.length ≤ maxLen ∧ ∀ x ∈ l0, (True ∧ x.f1.size ≤ maxLen ∧ True)) → (l1.length ≤ maxLen ∧ ∀ x ∈ l1, (Lit.int .u8 x).wf = true) → ∃ k, rhynelaw23_DoqReads.f k l0 l1 = some true := by
  intro xs b _ hb
  have hbb : isBytes b := by
    intro x hx
    have h := hb.2 x hx
    simp only [Lit.wf, IntKind.min, IntKind.max, IntKind.signed, IntKind.bits, Bool.and_eq_true, decide_eq_true_eq] at h
    simp at h
    omega
  clear hb
  refine ⟨200, ?_⟩
  unfold rhynelaw23_DoqReads.f
  rw [framed_f, Option.bind_some, if_pos rfl, if_pos rfl, if_pos rfl]
  by_cases c : (b.length : Int) > 100000
  · rw [if_pos c]; rfl
  rw [if_neg c]
  have hj : rhynelaw23_DoqReads.j0 200 xs false = some true := by
    rw [show (200 : Nat) = 199 + 1 from rfl, rhynelaw23_DoqReads.j0, if_neg (by decide), show (⟨#[]⟩ : ByteArray) = strOfNums [] from rfl]
    have h := loop xs (min xs.length 60) (197 - 2 * min xs.length 60) 0 [] false (by omega) (by intro x hx; cases hx) (by decide)
    rw [show 197 - 2 * min xs.length 60 + 2 * min xs.length 60 + 2 = 199 from by omega] at h
    exact h
  unfold rhyneref23_DocFrame.f doq_Frame.f
  rw [nums_size]
  by_cases c1 : (b.length : Int) > 65535
  · rw [if_pos c1, if_pos c1, Option.bind_some, Option.bind_some, if_pos (by decide +kernel)]; exact hj
  rw [if_neg c1, if_neg c1]
  by_cases c2 : (b.length : Int) = 0
  · rw [if_pos c2, if_pos (by rw [strOf_nil]; exact List.eq_nil_of_length_eq_zero (by omega)), Option.bind_some, Option.bind_some, if_pos (by decide +kernel)]; exact hj
  have hw : wrap64 ((b.length : Int) / 256) = (b.length : Int) / 256 := by unfold wrap64; omega
  rw [if_neg c2, if_neg (by rw [strOf_nil]; intro h; rw [h] at c2; exact c2 rfl), Option.bind_some, Option.bind_some, hw, nums_size, if_pos (by simp; omega), nums_app, if_pos (by simp; omega), Option.bind_some, Option.bind_some, if_pos rfl]
  exact hj
end Go.Proofs.Ytjblahoegfojdaa.Pure
