-- written by xprint.py, a program of this claim's work (wip/xprint), which runs the kit's printer with hooks
import Derived.Test.YtjblahoegfojdaaB0
import Derived.Test.YtjblahoegfojdaaB1
namespace Go.Proofs.Ytjblahoegfojdaa.B
open Go.RowKit Go.Proofs.YtjblahoegfojdaaW.PrintWords Go.Proofs.YtjblahoegfojdaaW.PrintLast Go.Proofs.YtjblahoegfojdaaW.PrintMore
attribute [local go_sem] max2_int min2_int max_two min_two max_three min_three max_four min_four   -- for this text's walks alone
set_option linter.unusedVariables false
set_option linter.unusedSimpArgs false

/-! ### rhynelaw23_DoqBack: function 4 -/
mutual
def rhynelaw23_DoqBack.l0 : Nat → List ByteArray → Int → ByteArray → List ByteArray → Int → Option (Bool)
 | 0, _, _, _, _, _ => none
 | k + 1, x0, x1, x5, x6, x7 => if x7 < (x0.length : Int) then (rhynelaw23_DoqBack.j1 k x0 x1 x5 x6 x7 (decide (x7 < 20))) else (rhynelaw23_DoqBack.j1 k x0 x1 x5 x6 x7 false)
def rhynelaw23_DoqBack.j1 : Nat → List ByteArray → Int → ByteArray → List ByteArray → Int → Bool → Option (Bool)
 | 0, _, _, _, _, _, _ => none
 | k + 1, x0, x1, x5, x6, x7, x30 => if x30 = true then (if 0 ≤ x7 then (if x7 < (x0.length : Int) then (if 0 ≤ (mn ((rdOf ByteArray.empty x0 x7).size : Int) 900) then (if (mn ((rdOf ByteArray.empty x0 x7).size : Int) 900) ≤ ((rdOf ByteArray.empty x0 x7).size : Int) then (if 1 + ((rdOf ByteArray.empty x0 x7).extract 0 ((mn ((rdOf ByteArray.empty x0 x7).size : Int) 900) : Int).toNat).size ≤ 9223372036854775807 then ((doq_Frame.f (bytesOf ((⟨#[109]⟩ : ByteArray) ++ ((rdOf ByteArray.empty x0 x7).extract 0 ((mn ((rdOf ByteArray.empty x0 x7).size : Int) 900) : Int).toNat)))).bind fun bt126 => (if bt126.2 = 0 then (if x5.size + (strOfNums bt126.1).size ≤ 9223372036854775807 then (if x6.length < 8796093022208 then (rhynelaw23_DoqBack.l0 k x0 x1 (x5 ++ (strOfNums bt126.1)) (x6 ++ [(⟨#[109]⟩ : ByteArray) ++ ((rdOf ByteArray.empty x0 x7).extract 0 ((mn ((rdOf ByteArray.empty x0 x7).size : Int) 900) : Int).toNat)]) (wrap64 (x7 + 1))) else (none)) else (none)) else (some false))) else (none)) else (none)) else (none)) else (none)) else (none)) else (rhynelaw23_DoqBack.l1 k x1 x5 x6 0 ([] : List Int) false)
def rhynelaw23_DoqBack.l1 : Nat → Int → ByteArray → List ByteArray → Int → List Int → Bool → Option (Bool)
 | 0, _, _, _, _, _, _ => none
 | k + 1, x1, x5, x6, x12, x134000, x134001 => if x5.toList = ([] : List UInt8) then (if x12 = (x6.length : Int) then (if (x134000.length : Int) > 0 then (if 2 = 0 then (none) else (some false)) else (if 0 = 0 then (some (10 == 10)) else (none))) else (some false)) else (if 0 ≤ (mn x1 (x5.size : Int)) then (if (mn x1 (x5.size : Int)) ≤ (x5.size : Int) then (if x134001 = true then (if 10 = 0 then (none) else (some false)) else (if ((x5.extract 0 ((mn x1 (x5.size : Int)) : Int).toNat).size : Int) > (wrap64 (1048576 - (x134000.length : Int))) then (if 6 = 0 then (none) else (some false)) else (if x134000.length + (x5.extract 0 ((mn x1 (x5.size : Int)) : Int).toNat).size < 140737488355328 then ((some (x134000 ++ bytesOf (x5.extract 0 ((mn x1 (x5.size : Int)) : Int).toNat) : List Int)).bind fun y134 => (if 0 = 0 then (if (y134.length : Int) < 2 then (rhynelaw23_DoqBack.l2 k x1 (x5.extract ((mn x1 (x5.size : Int)) : Int).toNat x5.size) x6 x12 (⟨#[]⟩ : ByteArray) false y134 x134001) else (if 0 < (y134.length : Int) then (if 1 < (y134.length : Int) then (if (wrap64 ((wrap64 (2 + (wrap64 ((wrap64 (rd y134 0)) * 256)))) + (wrap64 (rd y134 1)))) = 2 then (rhynelaw23_DoqBack.l2 k x1 (x5.extract ((mn x1 (x5.size : Int)) : Int).toNat x5.size) x6 x12 (⟨#[]⟩ : ByteArray) false y134 x134001) else (if (y134.length : Int) < (wrap64 ((wrap64 (2 + (wrap64 ((wrap64 (rd y134 0)) * 256)))) + (wrap64 (rd y134 1)))) then (rhynelaw23_DoqBack.l2 k x1 (x5.extract ((mn x1 (x5.size : Int)) : Int).toNat x5.size) x6 x12 (⟨#[]⟩ : ByteArray) false y134 x134001) else (if 2 ≤ (wrap64 ((wrap64 (2 + (wrap64 ((wrap64 (rd y134 0)) * 256)))) + (wrap64 (rd y134 1)))) then (if (wrap64 ((wrap64 (2 + (wrap64 ((wrap64 (rd y134 0)) * 256)))) + (wrap64 (rd y134 1)))) ≤ (y134.length : Int) then (if 0 ≤ (wrap64 ((wrap64 (2 + (wrap64 ((wrap64 (rd y134 0)) * 256)))) + (wrap64 (rd y134 1)))) then (rhynelaw23_DoqBack.l2 k x1 (x5.extract ((mn x1 (x5.size : Int)) : Int).toNat x5.size) x6 x12 (strOfNums ((y134.take ((wrap64 ((wrap64 (2 + (wrap64 ((wrap64 (rd y134 0)) * 256)))) + (wrap64 (rd y134 1)))) : Int).toNat).drop 2)) true (y134.drop ((wrap64 ((wrap64 (2 + (wrap64 ((wrap64 (rd y134 0)) * 256)))) + (wrap64 (rd y134 1)))) : Int).toNat) x134001) else (none)) else (none)) else (none)))) else (none)) else (none))) else (none))) else (none)))) else (none)) else (none))
def rhynelaw23_DoqBack.l2 : Nat → Int → ByteArray → List ByteArray → Int → ByteArray → Bool → List Int → Bool → Option (Bool)
 | 0, _, _, _, _, _, _, _, _ => none
 | k + 1, x1, x5, x6, x12, x14, x15, x134000, x134001 => if x15 = true then (if x12 ≥ (x6.length : Int) then (some false) else (if 0 ≤ x12 then (if x12 < (x6.length : Int) then (if x14.toList = (rdOf ByteArray.empty x6 x12).toList then (if (x134000.length : Int) < 2 then (rhynelaw23_DoqBack.l2 k x1 x5 x6 (wrap64 (x12 + 1)) (⟨#[]⟩ : ByteArray) false x134000 x134001) else (if 0 < (x134000.length : Int) then (if 1 < (x134000.length : Int) then (if (wrap64 ((wrap64 (2 + (wrap64 ((wrap64 (rd x134000 0)) * 256)))) + (wrap64 (rd x134000 1)))) = 2 then (rhynelaw23_DoqBack.l2 k x1 x5 x6 (wrap64 (x12 + 1)) (⟨#[]⟩ : ByteArray) false x134000 x134001) else (if (x134000.length : Int) < (wrap64 ((wrap64 (2 + (wrap64 ((wrap64 (rd x134000 0)) * 256)))) + (wrap64 (rd x134000 1)))) then (rhynelaw23_DoqBack.l2 k x1 x5 x6 (wrap64 (x12 + 1)) (⟨#[]⟩ : ByteArray) false x134000 x134001) else (if 2 ≤ (wrap64 ((wrap64 (2 + (wrap64 ((wrap64 (rd x134000 0)) * 256)))) + (wrap64 (rd x134000 1)))) then (if (wrap64 ((wrap64 (2 + (wrap64 ((wrap64 (rd x134000 0)) * 256)))) + (wrap64 (rd x134000 1)))) ≤ (x134000.length : Int) then (if 0 ≤ (wrap64 ((wrap64 (2 + (wrap64 ((wrap64 (rd x134000 0)) * 256)))) + (wrap64 (rd x134000 1)))) then (rhynelaw23_DoqBack.l2 k x1 x5 x6 (wrap64 (x12 + 1)) (strOfNums ((x134000.take ((wrap64 ((wrap64 (2 + (wrap64 ((wrap64 (rd x134000 0)) * 256)))) + (wrap64 (rd x134000 1)))) : Int).toNat).drop 2)) true (x134000.drop ((wrap64 ((wrap64 (2 + (wrap64 ((wrap64 (rd x134000 0)) * 256)))) + (wrap64 (rd x134000 1)))) : Int).toNat) x134001) else (none)) else (none)) else (none)))) else (none)) else (none))) else (some false)) else (none)) else (none))) else (rhynelaw23_DoqBack.l1 k x1 x5 x6 x12 x134000 x134001)
end
def rhynelaw23_DoqBack.f (k : Nat) (l0 : List ByteArray) (a1 : Int) : Option (Bool) := (rhynelaw23_framed.f).bind fun t120 => (if t120 = true then (rhynelaw23_DoqBack.l0 k l0 (wrap64 (1 + (wrap64 (Int.tmod (IntKind.u64.wrap (a1)) 500)))) (⟨#[]⟩ : ByteArray) ([] : List ByteArray) 0) else (some false))
theorem rhynelaw23_DoqBack.mono_l : ∀ k, (∀ y0 y1 y2 y3 y4, LeO (rhynelaw23_DoqBack.l0 k y0 y1 y2 y3 y4) (rhynelaw23_DoqBack.l0 (k + 1) y0 y1 y2 y3 y4)) ∧ (∀ y0 y1 y2 y3 y4 y5, LeO (rhynelaw23_DoqBack.j1 k y0 y1 y2 y3 y4 y5) (rhynelaw23_DoqBack.j1 (k + 1) y0 y1 y2 y3 y4 y5)) ∧ (∀ y0 y1 y2 y3 y4 y5, LeO (rhynelaw23_DoqBack.l1 k y0 y1 y2 y3 y4 y5) (rhynelaw23_DoqBack.l1 (k + 1) y0 y1 y2 y3 y4 y5)) ∧ (∀ y0 y1 y2 y3 y4 y5 y6 y7, LeO (rhynelaw23_DoqBack.l2 k y0 y1 y2 y3 y4 y5 y6 y7) (rhynelaw23_DoqBack.l2 (k + 1) y0 y1 y2 y3 y4 y5 y6 y7))
 | 0 => ⟨fun _ _ _ _ _ r h => by simp [rhynelaw23_DoqBack.l0] at h, fun _ _ _ _ _ _ r h => by simp [rhynelaw23_DoqBack.j1] at h, fun _ _ _ _ _ _ r h => by simp [rhynelaw23_DoqBack.l1] at h, fun _ _ _ _ _ _ _ _ r h => by simp [rhynelaw23_DoqBack.l2] at h⟩
 | k + 1 => by
  obtain ⟨ih0, ih1, ih2, ih3⟩ := rhynelaw23_DoqBack.mono_l k
  refine ⟨?_, ?_, ?_, ?_⟩
  ·
   intro y0 y1 y2 y3 y4
   unfold rhynelaw23_DoqBack.l0
   repeat' first
   | (with_reducible exact ih0 _ _ _ _ _)
   | (with_reducible exact ih1 _ _ _ _ _ _)
   | (with_reducible exact ih2 _ _ _ _ _ _)
   | (with_reducible exact ih3 _ _ _ _ _ _ _ _)
   | (with_reducible exact LeO.refl _)
   | (with_reducible exact LeO.none _)
   | (with_reducible refine LeO.ite ?_ ?_)
   | (with_reducible refine LeO.bind ?_ (fun _ => ?_))
   | exact ih0 _ _ _ _ _
   | exact ih1 _ _ _ _ _ _
   | exact ih2 _ _ _ _ _ _
   | exact ih3 _ _ _ _ _ _ _ _
   | exact LeO.none _
   | refine LeO.ite ?_ ?_
   | refine LeO.bind ?_ (fun _ => ?_)
  ·
   intro y0 y1 y2 y3 y4 y5
   unfold rhynelaw23_DoqBack.j1
   repeat' first
   | (with_reducible exact ih0 _ _ _ _ _)
   | (with_reducible exact ih1 _ _ _ _ _ _)
   | (with_reducible exact ih2 _ _ _ _ _ _)
   | (with_reducible exact ih3 _ _ _ _ _ _ _ _)
   | (with_reducible exact LeO.refl _)
   | (with_reducible exact LeO.none _)
   | (with_reducible refine LeO.ite ?_ ?_)
   | (with_reducible refine LeO.bind ?_ (fun _ => ?_))
   | exact ih0 _ _ _ _ _
   | exact ih1 _ _ _ _ _ _
   | exact ih2 _ _ _ _ _ _
   | exact ih3 _ _ _ _ _ _ _ _
   | exact LeO.none _
   | refine LeO.ite ?_ ?_
   | refine LeO.bind ?_ (fun _ => ?_)
  ·
   intro y0 y1 y2 y3 y4 y5
   unfold rhynelaw23_DoqBack.l1
   repeat' first
   | (with_reducible exact ih0 _ _ _ _ _)
   | (with_reducible exact ih1 _ _ _ _ _ _)
   | (with_reducible exact ih2 _ _ _ _ _ _)
   | (with_reducible exact ih3 _ _ _ _ _ _ _ _)
   | (with_reducible exact LeO.refl _)
   | (with_reducible exact LeO.none _)
   | (with_reducible refine LeO.ite ?_ ?_)
   | (with_reducible refine LeO.bind ?_ (fun _ => ?_))
   | exact ih0 _ _ _ _ _
   | exact ih1 _ _ _ _ _ _
   | exact ih2 _ _ _ _ _ _
   | exact ih3 _ _ _ _ _ _ _ _
   | exact LeO.none _
   | refine LeO.ite ?_ ?_
   | refine LeO.bind ?_ (fun _ => ?_)
  intro y0 y1 y2 y3 y4 y5 y6 y7
  unfold rhynelaw23_DoqBack.l2
  repeat' first
  | (with_reducible exact ih0 _ _ _ _ _)
  | (with_reducible exact ih1 _ _ _ _ _ _)
  | (with_reducible exact ih2 _ _ _ _ _ _)
  | (with_reducible exact ih3 _ _ _ _ _ _ _ _)
  | (with_reducible exact LeO.refl _)
  | (with_reducible exact LeO.none _)
  | (with_reducible refine LeO.ite ?_ ?_)
  | (with_reducible refine LeO.bind ?_ (fun _ => ?_))
  | exact ih0 _ _ _ _ _
  | exact ih1 _ _ _ _ _ _
  | exact ih2 _ _ _ _ _ _
  | exact ih3 _ _ _ _ _ _ _ _
  | exact LeO.none _
  | refine LeO.ite ?_ ?_
  | refine LeO.bind ?_ (fun _ => ?_)
theorem rhynelaw23_DoqBack.mono : ∀ a0 a1 k, LeO (rhynelaw23_DoqBack.f k a0 a1) (rhynelaw23_DoqBack.f (k + 1) a0 a1) := by
 intro a0 a1 k
 obtain ⟨ih0, ih1, ih2, ih3⟩ := rhynelaw23_DoqBack.mono_l k
 unfold rhynelaw23_DoqBack.f
 repeat' first
   | (with_reducible exact ih0 _ _ _ _ _)
   | (with_reducible exact ih1 _ _ _ _ _ _)
   | (with_reducible exact ih2 _ _ _ _ _ _)
   | (with_reducible exact ih3 _ _ _ _ _ _ _ _)
   | (with_reducible exact LeO.refl _)
   | (with_reducible exact LeO.none _)
   | (with_reducible refine LeO.ite ?_ ?_)
   | (with_reducible refine LeO.bind ?_ (fun _ => ?_))
   | exact ih0 _ _ _ _ _
   | exact ih1 _ _ _ _ _ _
   | exact ih2 _ _ _ _ _ _
   | exact ih3 _ _ _ _ _ _ _ _
   | exact LeO.none _
   | refine LeO.ite ?_ ?_
   | refine LeO.bind ?_ (fun _ => ?_)
set_option maxHeartbeats 8000000 in
set_option maxRecDepth 100000 in
theorem rhynelaw23_DoqBack.calls (k : Nat) (A0 : Option Addr) (c0 : Nat) (l0 : List ByteArray) (a1 : Int) (r : Bool) (w : World) (hr0 : Kd.C Kd.string w A0 l0.length l0) (hc0 : l0.length ≤ c0) (h : rhynelaw23_DoqBack.f k l0 a1 = some r) :
  Calls Try.prog 4 #[.slice A0 l0.length c0, .int .i64 a1] w fun e w' => e = .returned (.bool r) ∧ Below w.heap.size w w' := by
 have hu37 := Try.underlying37
 have HR0 := Aside0.mk hr0
 have HC0 := Aside0.mk hc0
 clear hr0 hc0
 have HB := Aside0.mk (Below.refl w.heap.size w)
 have H : ((rhynelaw23_framed.f).bind fun t120 => (if t120 = true then (rhynelaw23_DoqBack.l0 k l0 (wrap64 (1 + (wrap64 (Int.tmod (IntKind.u64.wrap (a1)) 500)))) (⟨#[]⟩ : ByteArray) ([] : List ByteArray) 0) else (some false))) = some r := h
 clear h
 replace H := Option.bind_eq_some_iff.mp H
 obtain ⟨t120, A30, H⟩ := H
 replace H : (if t120 = true then (rhynelaw23_DoqBack.l0 k l0 (wrap64 (1 + (wrap64 (Int.tmod (IntKind.u64.wrap (a1)) 500)))) (⟨#[]⟩ : ByteArray) ([] : List ByteArray) 0) else (some false)) = some r := H
 have A3 := Aside0.mk A30
 clear A30
 by_cases c4 : t120 = true
 ·
  subst c4
  have H1 : (rhynelaw23_DoqBack.l0 k l0 (wrap64 (1 + (wrap64 (Int.tmod (IntKind.u64.wrap (a1)) 500)))) (⟨#[]⟩ : ByteArray) ([] : List ByteArray) 0) = some r := by rw [if_pos rfl] at H; exact H
  clear H
  have H := H1
  clear H1
  have H' := Aside0.mk H
  clear H
  go_enter Try.func4, Try.ntmps4
  go_wp2_with (first | (go_at_call 7; (with_reducible refine (rhynelaw23_framed.calls  true _ A3.out).mono ?_); rintro e w5 ⟨rfl, hb⟩; have n0_ := Aside0.mk (below_step (by repeat (first | (with_reducible first | exact HB.out | apply below_alloc | apply pw_below_drewN | apply below_drew1) | exact HB.out)) hb); clear HB; have HB := n0_; clear n0_; (try clear hb); (try clear hb2); (try clear hk); (try clear hi)))
  repeat (go_quiet (fail); try go_wp2_with (first | (go_at_call 7; (with_reducible refine (rhynelaw23_framed.calls  true _ A3.out).mono ?_); rintro e w5 ⟨rfl, hb⟩; have n0_ := Aside0.mk (below_step (by repeat (first | (with_reducible first | exact HB.out | apply below_alloc | apply pw_below_drewN | apply below_drew1) | exact HB.out)) hb); clear HB; have HB := n0_; clear n0_; (try clear hb); (try clear hb2); (try clear hk); (try clear hi))))
  go_loopg [5, 6, 7] k (fun kq v5 v6 v7 w' => ∃ (x5_1 : ByteArray) (x6_1 : List ByteArray) (x7_1 : Int), v5 = .string x5_1 ∧ v7 = .int .i64 x7_1 ∧ Aside0 (rhynelaw23_DoqBack.l0 kq l0 (wrap64 (1 + (wrap64 (Int.tmod (IntKind.u64.wrap (a1)) 500)))) x5_1 x6_1 x7_1 = some r) ∧ Aside0 (kq ≤ k) ∧ Aside0 (Kd.R Kd.string 9 w' w.heap.size (fun _ => True) v6 x6_1) ∧ Aside0 (Below w.heap.size w w'))
  case atStart => exact ⟨((⟨#[]⟩ : ByteArray)), (([] : List ByteArray)), (0), (by first | rfl | (simp; done) | (simp [*]; done)), (by first | rfl | (simp; done) | (simp [*]; done)), H', ⟨Nat.le_refl _⟩, ⟨by first | exact Kd.R_nil _ _ _ _ _ | exact Kd.N_nil _ _ _ _ _ | exact Kd.V_nil _ _ _ _ _ | exact Kd.Q_nil _ _ _ _ _ | exact Kd.S_nil _ _ _ _ _⟩, ⟨by repeat (first | (with_reducible first | exact HB.out | apply below_alloc | apply pw_below_drewN | apply below_drew1) | exact HB.out)⟩⟩
  case round => as_aux_lemma =>
   clear H'
   (try clear p2); (try clear c4)
   obtain ⟨x5_1, x6_1, x7_1, rfl, rfl, HA, HK1, HO_6, HB⟩ := hrel
   cases gk with
   | zero => exact absurd HA.out (by simp [rhynelaw23_DoqBack.l0])
   | succ k1 =>
    have H := HA.out
    clear HA
    simp only [rhynelaw23_DoqBack.l0] at H
    have HC6 := Aside0.mk H
    clear H
    go_upto_region 7 with (fail)
    repeat (go_quiet (fail); go_upto_region 7 with (fail))
    go_cut [30] (fun v30 wc => ∃ (kq : Nat) (x30_5 : Bool), v30 = .bool x30_5 ∧ Aside0 (rhynelaw23_DoqBack.j1 kq l0 (wrap64 (1 + (wrap64 (Int.tmod (IntKind.u64.wrap (a1)) 500)))) x5_1 x6_1 x7_1 x30_5 = some r) ∧ Aside0 (kq ≤ k1) ∧ Aside0 (Kd.R Kd.string 9 wc w.heap.size (fun _ => True) u6 x6_1) ∧ Aside0 (Below w.heap.size w wc))
    case first => as_aux_lemma =>
     have H := HC6.out
     clear HC6
     by_cases c7 : x7_1 < (l0.length : Int)
     ·
      rw [if_pos c7] at H
      have c7b0 : decide (x7_1 < (l0.length : Int)) = true := decide_eq_true c7
      clear c7
      (first | rw [c7b0] | (simp only [i64_w, i32_w]; rw [c7b0]) | skip)
      have H' := Aside0.mk H
      clear H
      go_wp2
      repeat (go_quiet (fail); try go_wp2)
      go_meet
      case rel => exact ⟨_, (decide (x7_1 < 20)), (by first | rfl | (simp; done) | (simp [*]; done)), H', ⟨by have := HK1.out; first | omega | exact Nat.le_refl _⟩, ⟨by (with_reducible repeat (first | apply Kd.R_alloc | apply Kd.R_drewN | apply Kd.R_drew)); exact HO_6.out⟩, ⟨by repeat (first | (with_reducible first | exact HB.out | apply below_alloc | apply pw_below_drewN | apply below_drew1) | exact HB.out)⟩⟩
     rw [if_neg c7] at H
     have c7b0 : decide (x7_1 < (l0.length : Int)) = false := decide_eq_false c7
     clear c7
     (first | rw [c7b0] | (simp only [i64_w, i32_w]; rw [c7b0]) | skip)
     have H' := Aside0.mk H
     clear H
     go_wp2
     repeat (go_quiet (fail); try go_wp2)
     go_meet
     case rel => exact ⟨_, (false), (by first | rfl | (simp; done) | (simp [*]; done)), H', ⟨by have := HK1.out; first | omega | exact Nat.le_refl _⟩, ⟨by (with_reducible repeat (first | apply Kd.R_alloc | apply Kd.R_drewN | apply Kd.R_drew)); exact HO_6.out⟩, ⟨by repeat (first | (with_reducible first | exact HB.out | apply below_alloc | apply pw_below_drewN | apply below_drew1) | exact HB.out)⟩⟩
    case rest => as_aux_lemma =>
     clear HC6
     (try clear p2); (try clear c4); (try clear p6); (try clear c7); (try clear c7b0); (try clear p2)
     obtain ⟨kq, x30_5, rfl, HA, HJ5, HO_6, HB⟩ := hcut
     cases kq with
     | zero => exact absurd HA.out (by simp [rhynelaw23_DoqBack.j1])
     | succ kj5 =>
      have H := HA.out
      clear HA
      simp only [rhynelaw23_DoqBack.j1] at H
      by_cases c8 : x30_5 = true
      ·
       subst c8
       have H1 : (if 0 ≤ x7_1 then (if x7_1 < (l0.length : Int) then (if 0 ≤ (mn ((rdOf ByteArray.empty l0 x7_1).size : Int) 900) then (if (mn ((rdOf ByteArray.empty l0 x7_1).size : Int) 900) ≤ ((rdOf ByteArray.empty l0 x7_1).size : Int) then (if 1 + ((rdOf ByteArray.empty l0 x7_1).extract 0 ((mn ((rdOf ByteArray.empty l0 x7_1).size : Int) 900) : Int).toNat).size ≤ 9223372036854775807 then ((doq_Frame.f (bytesOf ((⟨#[109]⟩ : ByteArray) ++ ((rdOf ByteArray.empty l0 x7_1).extract 0 ((mn ((rdOf ByteArray.empty l0 x7_1).size : Int) 900) : Int).toNat)))).bind fun bt126 => (if bt126.2 = 0 then (if x5_1.size + (strOfNums bt126.1).size ≤ 9223372036854775807 then (if x6_1.length < 8796093022208 then (rhynelaw23_DoqBack.l0 kj5 l0 (wrap64 (1 + (wrap64 (Int.tmod (IntKind.u64.wrap (a1)) 500)))) (x5_1 ++ (strOfNums bt126.1)) (x6_1 ++ [(⟨#[109]⟩ : ByteArray) ++ ((rdOf ByteArray.empty l0 x7_1).extract 0 ((mn ((rdOf ByteArray.empty l0 x7_1).size : Int) 900) : Int).toNat)]) (wrap64 (x7_1 + 1))) else (none)) else (none)) else (some false))) else (none)) else (none)) else (none)) else (none)) else (none)) = some r := by rw [if_pos rfl] at H; exact H
       clear H
       have H := H1
       clear H1
       by_cases c9 : 0 ≤ x7_1
       ·
        rw [if_pos c9] at H
        have c9b0 : decide (0 ≤ x7_1) = true := decide_eq_true c9
        clear c9
        by_cases c10 : x7_1 < (l0.length : Int)
        ·
         rw [if_pos c10] at H
         have c10b0 : decide (x7_1 < (l0.length : Int)) = true := decide_eq_true c10
         clear c10
         obtain ⟨ji11, hji11⟩ : ∃ j_ : Int, (mn ((rdOf ByteArray.empty l0 x7_1).size : Int) 900) = j_ := ⟨_, rfl⟩
         replace H : (if 0 ≤ (ji11) then (if (ji11) ≤ ((rdOf ByteArray.empty l0 x7_1).size : Int) then (if 1 + ((rdOf ByteArray.empty l0 x7_1).extract 0 ((ji11) : Int).toNat).size ≤ 9223372036854775807 then ((doq_Frame.f (bytesOf ((⟨#[109]⟩ : ByteArray) ++ ((rdOf ByteArray.empty l0 x7_1).extract 0 ((ji11) : Int).toNat)))).bind fun bt126 => (if bt126.2 = 0 then (if x5_1.size + (strOfNums bt126.1).size ≤ 9223372036854775807 then (if x6_1.length < 8796093022208 then (rhynelaw23_DoqBack.l0 kj5 l0 (wrap64 (1 + (wrap64 (Int.tmod (IntKind.u64.wrap (a1)) 500)))) (x5_1 ++ (strOfNums bt126.1)) (x6_1 ++ [(⟨#[109]⟩ : ByteArray) ++ ((rdOf ByteArray.empty l0 x7_1).extract 0 ((ji11) : Int).toNat)]) (wrap64 (x7_1 + 1))) else (none)) else (none)) else (some false))) else (none)) else (none)) else (none)) = some r := by first | (rw [hji11] at H; exact H) | (simp only [hji11] at H ⊢; exact H)
         have hji11_ : (if 900 < ((rdOf ByteArray.empty l0 x7_1).size : Int) then 900 else ((rdOf ByteArray.empty l0 x7_1).size : Int)) = ji11 := hji11
         by_cases c12 : 0 ≤ (ji11)
         ·
          rw [if_pos c12] at H
          have c12b0 := eq_true c12
          have c12b1 : decide (0 ≤ (ji11)) = true := decide_eq_true c12
          clear c12
          by_cases c13 : (ji11) ≤ ((rdOf ByteArray.empty l0 x7_1).size : Int)
          ·
           rw [if_pos c13] at H
           have c13b0 := eq_true c13
           have hszi_ji11 : ((((rdOf ByteArray.empty l0 x7_1).extract 0 ((ji11) : Int).toNat).size : Nat) : Int) = max ji11 0 := by rw [ByteArray.size_extract]; omega
           have hszn_ji11 : ((rdOf ByteArray.empty l0 x7_1).extract 0 ((ji11) : Int).toNat).size = (ji11).toNat := by rw [ByteArray.size_extract]; omega
           have c13b1 : decide ((ji11) ≤ ((rdOf ByteArray.empty l0 x7_1).size : Int)) = true := decide_eq_true c13
           clear c13
           by_cases c14 : 1 + ((rdOf ByteArray.empty l0 x7_1).extract 0 ((ji11) : Int).toNat).size ≤ 9223372036854775807
           ·
            rw [if_pos c14] at H
            have c14b0 := eq_true c14
            try (have c14b0q := c14b0; rw [hszn_ji11] at c14b0q)
            have c14b1 : decide (1 + ((rdOf ByteArray.empty l0 x7_1).extract 0 ((ji11) : Int).toNat).size ≤ 9223372036854775807) = true := decide_eq_true c14
            try (have c14b1q := c14b1; first | rw [hszi_ji11] at c14b1q | rw [hszn_ji11] at c14b1q)
            try have c14b2 : (9223372036854775807 < 1 + ((rdOf ByteArray.empty l0 x7_1).extract 0 ((ji11) : Int).toNat).size) = False := eq_false (Nat.not_lt.2 c14)
            try (have c14b2q := c14b2; first | rw [hszi_ji11] at c14b2q | rw [hszn_ji11] at c14b2q)
            obtain ⟨y123, hy123⟩ : ∃ y_ : List Int, y_ = (bytesOf ((⟨#[109]⟩ : ByteArray) ++ ((rdOf ByteArray.empty l0 x7_1).extract 0 ((ji11) : Int).toNat))) := ⟨_, rfl⟩
            replace H : ((doq_Frame.f y123).bind fun bt126 => (if bt126.2 = 0 then (if x5_1.size + (strOfNums bt126.1).size ≤ 9223372036854775807 then (if x6_1.length < 8796093022208 then (rhynelaw23_DoqBack.l0 kj5 l0 (wrap64 (1 + (wrap64 (Int.tmod (IntKind.u64.wrap (a1)) 500)))) (x5_1 ++ (strOfNums bt126.1)) (x6_1 ++ [(⟨#[109]⟩ : ByteArray) ++ ((rdOf ByteArray.empty l0 x7_1).extract 0 ((ji11) : Int).toNat)]) (wrap64 (x7_1 + 1))) else (none)) else (none)) else (some false))) = some r := by first | (rw [hy123]; with_reducible exact H) | (have H2_ := (Option.bind_some _ _).symm.trans H; rw [hy123]; with_reducible exact H2_) | (have H2_ := (Option.bind_some _ _).symm.trans H; with_reducible exact H2_) | with_reducible exact H | (rw [hy123]; exact H) | exact H
            have Ny123 := Aside0.mk hy123
            clear hy123
            replace H := Option.bind_eq_some_iff.mp H
            obtain ⟨⟨t126, t127⟩, A150, H⟩ := H
            replace H : (if t127 = 0 then (if x5_1.size + (strOfNums t126).size ≤ 9223372036854775807 then (if x6_1.length < 8796093022208 then (rhynelaw23_DoqBack.l0 kj5 l0 (wrap64 (1 + (wrap64 (Int.tmod (IntKind.u64.wrap (a1)) 500)))) (x5_1 ++ (strOfNums t126)) (x6_1 ++ [(⟨#[109]⟩ : ByteArray) ++ ((rdOf ByteArray.empty l0 x7_1).extract 0 ((ji11) : Int).toNat)]) (wrap64 (x7_1 + 1))) else (none)) else (none)) else (some false)) = some r := H
            have A15 := Aside0.mk A150
            clear A150
            by_cases c16 : t127 = 0
            ·
             rw [if_pos c16] at H
             have c16b0 : (t127 == 0) = true := beq_iff_eq.mpr c16
             have c16b1 : (t127 != 0) = false := bne_eq_false_iff_eq.mpr c16
             clear c16
             by_cases c17 : x5_1.size + (strOfNums t126).size ≤ 9223372036854775807
             ·
              rw [if_pos c17] at H
              have c17b0 := eq_true c17
              try (have c17b0q := c17b0; rw [hszn_ji11] at c17b0q)
              have c17b1 : decide (x5_1.size + (strOfNums t126).size ≤ 9223372036854775807) = true := decide_eq_true c17
              try have c17b2 : (9223372036854775807 < x5_1.size + (strOfNums t126).size) = False := eq_false (Nat.not_lt.2 c17)
              by_cases c18 : x6_1.length < 8796093022208
              ·
               rw [if_pos c18] at H
               have LMc18 := Aside0.mk c18
               clear c18
               obtain ⟨y130, hy130⟩ : ∃ y_ : List ByteArray, y_ = (x6_1 ++ [(⟨#[109]⟩ : ByteArray) ++ ((rdOf ByteArray.empty l0 x7_1).extract 0 ((ji11) : Int).toNat)]) := ⟨_, rfl⟩
               replace H : (rhynelaw23_DoqBack.l0 kj5 l0 (wrap64 (1 + (wrap64 (Int.tmod (IntKind.u64.wrap (a1)) 500)))) (x5_1 ++ (strOfNums t126)) y130 (wrap64 (x7_1 + 1))) = some r := by first | (rw [hy130]; with_reducible exact H) | (have H2_ := (Option.bind_some _ _).symm.trans H; rw [hy130]; with_reducible exact H2_) | (have H2_ := (Option.bind_some _ _).symm.trans H; with_reducible exact H2_) | with_reducible exact H | (rw [hy130]; exact H) | exact H
               have Ny130 := Aside0.mk hy130
               clear hy130
               have H' := Aside0.mk H
               clear H
               have p121 : 0 ≤ (x7_1 : Int) := of_decide_eq_true (by first | (with_reducible assumption) | assumption)
               have q121 : x7_1 < (l0.length : Int) := of_decide_eq_true (by first | (with_reducible assumption) | assumption)
               obtain ⟨ad121, e121, hx121_0⟩ := Kd.at_string HR0.out x7_1 p121 q121
               cases e121
               replace hx121_0 := (HB.out.cell (World.block_lt_of_cell? w _ hx121_0)).trans hx121_0
               replace p121 := eq_true p121
               replace q121 := eq_true q121
               have p122 : 0 ≤ (x7_1 : Int) := of_decide_eq_true (by first | (with_reducible assumption) | assumption)
               have q122 : x7_1 < (l0.length : Int) := of_decide_eq_true (by first | (with_reducible assumption) | assumption)
               obtain ⟨ad122, e122, hx122_0⟩ := Kd.at_string HR0.out x7_1 p122 q122
               obtain rfl : ad121 = ad122 := (by injection e122)
               replace hx122_0 := (HB.out.cell (World.block_lt_of_cell? w _ hx122_0)).trans hx122_0
               replace p122 := eq_true p122
               replace q122 := eq_true q122
               go_wp2_with (first | ((with_reducible refine gate_dst (N := 47) rfl ?_); (try (refine gate_guard (by rfl) ?_; dsimp only)); refine conv_event (N := 47) 5 9 23 _ ?hg rfl rfl Try.underlying9 Try.underlying23 Try.underlying5 ((⟨#[109]⟩ : ByteArray) ++ ((rdOf ByteArray.empty l0 x7_1).extract 0 ((ji11) : Int).toNat)) y123 Ny123.out rfl ?hz ?_; (case hg => rfl); (case hz => ((try simp only [ByteArray.size_append, show (⟨#[109]⟩ : ByteArray).size = 1 from rfl]); first | assumption | omega)); intro Az_ cz_ v124 w19 hcz_ hcl_ ho20 hb; have HCZ := Aside0.mk hcz_; have HCL := Aside0.mk hcl_; clear hcz_ hcl_; have n0_ := Aside0.mk (Kd.R_below (by (with_reducible repeat (first | apply Kd.R_alloc | apply Kd.R_drewN | apply Kd.R_drew)); exact HO_6.out) hb); have n1_ := Aside0.mk (Kd.R_lower ho20 (below_size (by repeat (first | (with_reducible first | exact HB.out | apply below_alloc | apply pw_below_drewN | apply below_drew1) | exact HB.out)))); have n2_ := Aside0.mk (below_step (by repeat (first | (with_reducible first | exact HB.out | apply below_alloc | apply pw_below_drewN | apply below_drew1) | exact HB.out)) hb); clear HO_6; clear HB; have HO_6 := n0_; have HO125 := n1_; have HB := n2_; clear n0_ n1_ n2_; clear hb ho20) | (go_at_call 11; (with_reducible refine (doq_Frame.calls _ _ y123 t126 t127 _ ?side1 ?side2 A15.out).mono ?_); (case side1 => exact HCZ.out); (case side2 => exact HCL.out); rintro e w22 ⟨v128, rfl, ho0, hb⟩; have n0_ := Aside0.mk (Kd.R_below (by (with_reducible repeat (first | apply Kd.R_alloc | apply Kd.R_drewN | apply Kd.R_drew)); exact HO_6.out) hb); have n1_ := Aside0.mk (Kd.R_elder' (by (with_reducible repeat (first | apply Kd.R_alloc | apply Kd.R_drewN | apply Kd.R_drew)); exact HO125.out) (Kd.R_base ho0) hb); have n2_ := Aside0.mk (Kd.R_lower (Kd.R_new' ho0 (Kd.R_lt (by (with_reducible repeat (first | apply Kd.R_alloc | apply Kd.R_drewN | apply Kd.R_drew)); exact HO125.out))) (below_size (by repeat (first | (with_reducible first | exact HB.out | apply below_alloc | apply pw_below_drewN | apply below_drew1) | exact HB.out)))); have n3_ := Aside0.mk (below_step (by repeat (first | (with_reducible first | exact HB.out | apply below_alloc | apply pw_below_drewN | apply below_drew1) | exact HB.out)) hb); clear HO_6; clear HO125; clear HB; have HO_6 := n0_; have HO125 := n1_; have HO129 := n2_; have HB := n3_; clear n0_ n1_ n2_ n3_; (try clear hb); (try clear hb2); (try clear hk); (try clear hi); (try clear ho0); have hcv23 := own_string (P := Try.prog) Try.underlying23 Try.underlying5 Try.underlying9 (Kd.own_of_R HO129.out); have hcv24 := fun m_ : Nat => own_string (P := Try.prog) Try.underlying23 Try.underlying5 Try.underlying9 (Kd.own_of_R (Kd.R_drewN HO129.out m_))) | ((with_reducible refine gate_builtin (b := .append) (xs := #[.tmp 57, .tmp 59]) rfl ?_); (try (refine gate_guard (by rfl) ?_; dsimp only)); at_builtin; refine Kd.R_append Kd.string (w0 := w) w.heap.size rfl (.tmp 57) (.tmp 59) 44 9 (.string ⟨#[]⟩) 16 rfl Try.underlying44 info9 rfl (by decide) (by omega) u6 x6_1 ((⟨#[109]⟩ : ByteArray) ++ ((rdOf ByteArray.empty l0 x7_1).extract 0 ((ji11) : Int).toNat)) [.string ((⟨#[109]⟩ : ByteArray) ++ ((rdOf ByteArray.empty l0 x7_1).extract 0 ((ji11) : Int).toNat))] (fun _ => True) (fun _ => False) rfl rfl ?aP (fun _ hk => hk.elim) ?aF ?aO ?aB ?aS ?aL ?_; (case aP => exact rfl); (case aB => exact (by repeat (first | (with_reducible first | exact HB.out | apply below_alloc | apply pw_below_drewN | apply below_drew1) | exact HB.out))); (case aF => exact (fun _ _ => trivial)); (case aO => exact (by (with_reducible repeat (first | apply Kd.R_alloc | apply Kd.R_drewN | apply Kd.R_drew)); exact HO_6.out)); (case aS => exact (below_size (by repeat (first | (with_reducible first | exact HB.out | apply below_alloc | apply pw_below_drewN | apply below_drew1) | exact HB.out)))); (case aL => have := LMc18.out; first | omega | exact Nat.le_of_lt this); intro v131 w25 ho hb hg hat; rw [← Ny130.out] at ho; have n0_ := Aside0.mk (Kd.R_over' (by (with_reducible repeat (first | apply Kd.R_alloc | apply Kd.R_drewN | apply Kd.R_drew)); exact HO125.out) (Kd.R_typed (by (with_reducible repeat (first | apply Kd.R_alloc | apply Kd.R_drewN | apply Kd.R_drew)); exact HO_6.out)) (by decide) hg); have n1_ := Aside0.mk (Kd.R_over' (by (with_reducible repeat (first | apply Kd.R_alloc | apply Kd.R_drewN | apply Kd.R_drew)); exact HO129.out) (Kd.R_typed (by (with_reducible repeat (first | apply Kd.R_alloc | apply Kd.R_drewN | apply Kd.R_drew)); exact HO_6.out)) (by decide) hg); have n2_ := Aside0.mk (hb); have n3_ := Aside0.mk (ho); clear HO125; clear HO129; clear HB; clear HO_6; have HO125 := n0_; have HO129 := n1_; have HB := n2_; have HO132 := n3_; clear n0_ n1_ n2_ n3_; clear ho hb hg hat))
               repeat (go_quiet (fail); try go_wp2_with (first | ((with_reducible refine gate_dst (N := 47) rfl ?_); (try (refine gate_guard (by rfl) ?_; dsimp only)); refine conv_event (N := 47) 5 9 23 _ ?hg rfl rfl Try.underlying9 Try.underlying23 Try.underlying5 ((⟨#[109]⟩ : ByteArray) ++ ((rdOf ByteArray.empty l0 x7_1).extract 0 ((ji11) : Int).toNat)) y123 Ny123.out rfl ?hz ?_; (case hg => rfl); (case hz => ((try simp only [ByteArray.size_append, show (⟨#[109]⟩ : ByteArray).size = 1 from rfl]); first | assumption | omega)); intro Az_ cz_ v124 w19 hcz_ hcl_ ho20 hb; have HCZ := Aside0.mk hcz_; have HCL := Aside0.mk hcl_; clear hcz_ hcl_; have n0_ := Aside0.mk (Kd.R_below (by (with_reducible repeat (first | apply Kd.R_alloc | apply Kd.R_drewN | apply Kd.R_drew)); exact HO_6.out) hb); have n1_ := Aside0.mk (Kd.R_lower ho20 (below_size (by repeat (first | (with_reducible first | exact HB.out | apply below_alloc | apply pw_below_drewN | apply below_drew1) | exact HB.out)))); have n2_ := Aside0.mk (below_step (by repeat (first | (with_reducible first | exact HB.out | apply below_alloc | apply pw_below_drewN | apply below_drew1) | exact HB.out)) hb); clear HO_6; clear HB; have HO_6 := n0_; have HO125 := n1_; have HB := n2_; clear n0_ n1_ n2_; clear hb ho20) | (go_at_call 11; (with_reducible refine (doq_Frame.calls _ _ y123 t126 t127 _ ?side1 ?side2 A15.out).mono ?_); (case side1 => exact HCZ.out); (case side2 => exact HCL.out); rintro e w22 ⟨v128, rfl, ho0, hb⟩; have n0_ := Aside0.mk (Kd.R_below (by (with_reducible repeat (first | apply Kd.R_alloc | apply Kd.R_drewN | apply Kd.R_drew)); exact HO_6.out) hb); have n1_ := Aside0.mk (Kd.R_elder' (by (with_reducible repeat (first | apply Kd.R_alloc | apply Kd.R_drewN | apply Kd.R_drew)); exact HO125.out) (Kd.R_base ho0) hb); have n2_ := Aside0.mk (Kd.R_lower (Kd.R_new' ho0 (Kd.R_lt (by (with_reducible repeat (first | apply Kd.R_alloc | apply Kd.R_drewN | apply Kd.R_drew)); exact HO125.out))) (below_size (by repeat (first | (with_reducible first | exact HB.out | apply below_alloc | apply pw_below_drewN | apply below_drew1) | exact HB.out)))); have n3_ := Aside0.mk (below_step (by repeat (first | (with_reducible first | exact HB.out | apply below_alloc | apply pw_below_drewN | apply below_drew1) | exact HB.out)) hb); clear HO_6; clear HO125; clear HB; have HO_6 := n0_; have HO125 := n1_; have HO129 := n2_; have HB := n3_; clear n0_ n1_ n2_ n3_; (try clear hb); (try clear hb2); (try clear hk); (try clear hi); (try clear ho0); have hcv23 := own_string (P := Try.prog) Try.underlying23 Try.underlying5 Try.underlying9 (Kd.own_of_R HO129.out); have hcv24 := fun m_ : Nat => own_string (P := Try.prog) Try.underlying23 Try.underlying5 Try.underlying9 (Kd.own_of_R (Kd.R_drewN HO129.out m_))) | ((with_reducible refine gate_builtin (b := .append) (xs := #[.tmp 57, .tmp 59]) rfl ?_); (try (refine gate_guard (by rfl) ?_; dsimp only)); at_builtin; refine Kd.R_append Kd.string (w0 := w) w.heap.size rfl (.tmp 57) (.tmp 59) 44 9 (.string ⟨#[]⟩) 16 rfl Try.underlying44 info9 rfl (by decide) (by omega) u6 x6_1 ((⟨#[109]⟩ : ByteArray) ++ ((rdOf ByteArray.empty l0 x7_1).extract 0 ((ji11) : Int).toNat)) [.string ((⟨#[109]⟩ : ByteArray) ++ ((rdOf ByteArray.empty l0 x7_1).extract 0 ((ji11) : Int).toNat))] (fun _ => True) (fun _ => False) rfl rfl ?aP (fun _ hk => hk.elim) ?aF ?aO ?aB ?aS ?aL ?_; (case aP => exact rfl); (case aB => exact (by repeat (first | (with_reducible first | exact HB.out | apply below_alloc | apply pw_below_drewN | apply below_drew1) | exact HB.out))); (case aF => exact (fun _ _ => trivial)); (case aO => exact (by (with_reducible repeat (first | apply Kd.R_alloc | apply Kd.R_drewN | apply Kd.R_drew)); exact HO_6.out)); (case aS => exact (below_size (by repeat (first | (with_reducible first | exact HB.out | apply below_alloc | apply pw_below_drewN | apply below_drew1) | exact HB.out)))); (case aL => have := LMc18.out; first | omega | exact Nat.le_of_lt this); intro v131 w25 ho hb hg hat; rw [← Ny130.out] at ho; have n0_ := Aside0.mk (Kd.R_over' (by (with_reducible repeat (first | apply Kd.R_alloc | apply Kd.R_drewN | apply Kd.R_drew)); exact HO125.out) (Kd.R_typed (by (with_reducible repeat (first | apply Kd.R_alloc | apply Kd.R_drewN | apply Kd.R_drew)); exact HO_6.out)) (by decide) hg); have n1_ := Aside0.mk (Kd.R_over' (by (with_reducible repeat (first | apply Kd.R_alloc | apply Kd.R_drewN | apply Kd.R_drew)); exact HO129.out) (Kd.R_typed (by (with_reducible repeat (first | apply Kd.R_alloc | apply Kd.R_drewN | apply Kd.R_drew)); exact HO_6.out)) (by decide) hg); have n2_ := Aside0.mk (hb); have n3_ := Aside0.mk (ho); clear HO125; clear HO129; clear HB; clear HO_6; have HO125 := n0_; have HO129 := n1_; have HB := n2_; have HO132 := n3_; clear n0_ n1_ n2_ n3_; clear ho hb hg hat)))
               go_roundg kj5
               case measure => have := HK1.out; have := HJ5.out; omega
               case rel => exact ⟨(x5_1 ++ (strOfNums t126)), (y130), (wrap64 (x7_1 + 1)), (by first | rfl | (simp; done) | (simp [*]; done)), (by first | rfl | (simp; done) | (simp [*]; done)), H', ⟨by have := HK1.out; have := HJ5.out; omega⟩, ⟨by (with_reducible repeat (first | apply Kd.R_alloc | apply Kd.R_drewN | apply Kd.R_drew)); exact HO132.out⟩, ⟨by repeat (first | (with_reducible first | exact HB.out | apply below_alloc | apply pw_below_drewN | apply below_drew1) | exact HB.out)⟩⟩
              rw [if_neg c18] at H
              exact absurd H (by simp)
             rw [if_neg c17] at H
             exact absurd H (by simp)
            rw [if_neg c16] at H
            have c16b0 : (t127 == 0) = false := beq_eq_false_iff_ne.mpr c16
            have c16b1 : (t127 != 0) = true := bne_iff_ne.mpr c16
            obtain rfl := Option.some.inj H
            have p121 : 0 ≤ (x7_1 : Int) := of_decide_eq_true (by first | (with_reducible assumption) | assumption)
            have q121 : x7_1 < (l0.length : Int) := of_decide_eq_true (by first | (with_reducible assumption) | assumption)
            obtain ⟨ad121, e121, hx121_0⟩ := Kd.at_string HR0.out x7_1 p121 q121
            cases e121
            replace hx121_0 := (HB.out.cell (World.block_lt_of_cell? w _ hx121_0)).trans hx121_0
            replace p121 := eq_true p121
            replace q121 := eq_true q121
            have p122 : 0 ≤ (x7_1 : Int) := of_decide_eq_true (by first | (with_reducible assumption) | assumption)
            have q122 : x7_1 < (l0.length : Int) := of_decide_eq_true (by first | (with_reducible assumption) | assumption)
            obtain ⟨ad122, e122, hx122_0⟩ := Kd.at_string HR0.out x7_1 p122 q122
            obtain rfl : ad121 = ad122 := (by injection e122)
            replace hx122_0 := (HB.out.cell (World.block_lt_of_cell? w _ hx122_0)).trans hx122_0
            replace p122 := eq_true p122
            replace q122 := eq_true q122
            go_wp2_with (first | ((with_reducible refine gate_dst (N := 47) rfl ?_); (try (refine gate_guard (by rfl) ?_; dsimp only)); refine conv_event (N := 47) 5 9 23 _ ?hg rfl rfl Try.underlying9 Try.underlying23 Try.underlying5 ((⟨#[109]⟩ : ByteArray) ++ ((rdOf ByteArray.empty l0 x7_1).extract 0 ((ji11) : Int).toNat)) y123 Ny123.out rfl ?hz ?_; (case hg => rfl); (case hz => ((try simp only [ByteArray.size_append, show (⟨#[109]⟩ : ByteArray).size = 1 from rfl]); first | assumption | omega)); intro Az_ cz_ v124 w26 hcz_ hcl_ ho27 hb; have HCZ := Aside0.mk hcz_; have HCL := Aside0.mk hcl_; clear hcz_ hcl_; have n0_ := Aside0.mk (Kd.R_below (by (with_reducible repeat (first | apply Kd.R_alloc | apply Kd.R_drewN | apply Kd.R_drew)); exact HO_6.out) hb); have n1_ := Aside0.mk (Kd.R_lower ho27 (below_size (by repeat (first | (with_reducible first | exact HB.out | apply below_alloc | apply pw_below_drewN | apply below_drew1) | exact HB.out)))); have n2_ := Aside0.mk (below_step (by repeat (first | (with_reducible first | exact HB.out | apply below_alloc | apply pw_below_drewN | apply below_drew1) | exact HB.out)) hb); clear HO_6; clear HB; have HO_6 := n0_; have HO125 := n1_; have HB := n2_; clear n0_ n1_ n2_; clear hb ho27) | (go_at_call 11; (with_reducible refine (doq_Frame.calls _ _ y123 t126 t127 _ ?side1 ?side2 A15.out).mono ?_); (case side1 => exact HCZ.out); (case side2 => exact HCL.out); rintro e w29 ⟨v128, rfl, ho0, hb⟩; have n0_ := Aside0.mk (Kd.R_below (by (with_reducible repeat (first | apply Kd.R_alloc | apply Kd.R_drewN | apply Kd.R_drew)); exact HO_6.out) hb); have n1_ := Aside0.mk (Kd.R_elder' (by (with_reducible repeat (first | apply Kd.R_alloc | apply Kd.R_drewN | apply Kd.R_drew)); exact HO125.out) (Kd.R_base ho0) hb); have n2_ := Aside0.mk (Kd.R_lower (Kd.R_new' ho0 (Kd.R_lt (by (with_reducible repeat (first | apply Kd.R_alloc | apply Kd.R_drewN | apply Kd.R_drew)); exact HO125.out))) (below_size (by repeat (first | (with_reducible first | exact HB.out | apply below_alloc | apply pw_below_drewN | apply below_drew1) | exact HB.out)))); have n3_ := Aside0.mk (below_step (by repeat (first | (with_reducible first | exact HB.out | apply below_alloc | apply pw_below_drewN | apply below_drew1) | exact HB.out)) hb); clear HO_6; clear HO125; clear HB; have HO_6 := n0_; have HO125 := n1_; have HO129 := n2_; have HB := n3_; clear n0_ n1_ n2_ n3_; (try clear hb); (try clear hb2); (try clear hk); (try clear hi); (try clear ho0)))
            repeat (go_quiet (fail); try go_wp2_with (first | ((with_reducible refine gate_dst (N := 47) rfl ?_); (try (refine gate_guard (by rfl) ?_; dsimp only)); refine conv_event (N := 47) 5 9 23 _ ?hg rfl rfl Try.underlying9 Try.underlying23 Try.underlying5 ((⟨#[109]⟩ : ByteArray) ++ ((rdOf ByteArray.empty l0 x7_1).extract 0 ((ji11) : Int).toNat)) y123 Ny123.out rfl ?hz ?_; (case hg => rfl); (case hz => ((try simp only [ByteArray.size_append, show (⟨#[109]⟩ : ByteArray).size = 1 from rfl]); first | assumption | omega)); intro Az_ cz_ v124 w26 hcz_ hcl_ ho27 hb; have HCZ := Aside0.mk hcz_; have HCL := Aside0.mk hcl_; clear hcz_ hcl_; have n0_ := Aside0.mk (Kd.R_below (by (with_reducible repeat (first | apply Kd.R_alloc | apply Kd.R_drewN | apply Kd.R_drew)); exact HO_6.out) hb); have n1_ := Aside0.mk (Kd.R_lower ho27 (below_size (by repeat (first | (with_reducible first | exact HB.out | apply below_alloc | apply pw_below_drewN | apply below_drew1) | exact HB.out)))); have n2_ := Aside0.mk (below_step (by repeat (first | (with_reducible first | exact HB.out | apply below_alloc | apply pw_below_drewN | apply below_drew1) | exact HB.out)) hb); clear HO_6; clear HB; have HO_6 := n0_; have HO125 := n1_; have HB := n2_; clear n0_ n1_ n2_; clear hb ho27) | (go_at_call 11; (with_reducible refine (doq_Frame.calls _ _ y123 t126 t127 _ ?side1 ?side2 A15.out).mono ?_); (case side1 => exact HCZ.out); (case side2 => exact HCL.out); rintro e w29 ⟨v128, rfl, ho0, hb⟩; have n0_ := Aside0.mk (Kd.R_below (by (with_reducible repeat (first | apply Kd.R_alloc | apply Kd.R_drewN | apply Kd.R_drew)); exact HO_6.out) hb); have n1_ := Aside0.mk (Kd.R_elder' (by (with_reducible repeat (first | apply Kd.R_alloc | apply Kd.R_drewN | apply Kd.R_drew)); exact HO125.out) (Kd.R_base ho0) hb); have n2_ := Aside0.mk (Kd.R_lower (Kd.R_new' ho0 (Kd.R_lt (by (with_reducible repeat (first | apply Kd.R_alloc | apply Kd.R_drewN | apply Kd.R_drew)); exact HO125.out))) (below_size (by repeat (first | (with_reducible first | exact HB.out | apply below_alloc | apply pw_below_drewN | apply below_drew1) | exact HB.out)))); have n3_ := Aside0.mk (below_step (by repeat (first | (with_reducible first | exact HB.out | apply below_alloc | apply pw_below_drewN | apply below_drew1) | exact HB.out)) hb); clear HO_6; clear HO125; clear HB; have HO_6 := n0_; have HO125 := n1_; have HO129 := n2_; have HB := n3_; clear n0_ n1_ n2_ n3_; (try clear hb); (try clear hb2); (try clear hk); (try clear hi); (try clear ho0))))
            go_ret
            exact ⟨by first | rfl | (simp [errW_none, errW_some] <;> rfl) | (simp only [← hji11]; first | rfl | (simp [errW_none, errW_some] <;> rfl)) | (simp [*, errW_none, errW_some] <;> rfl), by repeat (first | (with_reducible first | exact HB.out | apply below_alloc | apply pw_below_drewN | apply below_drew1) | exact HB.out)⟩
           rw [if_neg c14] at H
           exact absurd H (by simp)
          rw [if_neg c13] at H
          exact absurd H (by simp)
         rw [if_neg c12] at H
         exact absurd H (by simp)
        rw [if_neg c10] at H
        exact absurd H (by simp)
       rw [if_neg c9] at H
       exact absurd H (by simp)
      replace c8 := Bool.eq_false_iff.mpr c8
      subst c8
      have H1 : (rhynelaw23_DoqBack.l1 kj5 (wrap64 (1 + (wrap64 (Int.tmod (IntKind.u64.wrap (a1)) 500)))) x5_1 x6_1 0 ([] : List Int) false) = some r := by rw [if_neg (show ¬ (false = true) by decide)] at H; exact H
      clear H
      have H := H1
      clear H1
      have H' := Aside0.mk H
      clear H
      go_wp2_with (first | ((with_reducible refine gate_dst (N := 62) rfl ?_); (try (refine gate_guard (by rfl) ?_; dsimp only)); refine box_event ?hg (N := 62) ?hd (cs := #[.slice none 0 0, .bool false]) (t := 37) ?hr ?_; (case hd => rfl); (case hg => rfl); (case hr => first | (go_simp; done) | (go_simp; rfl)); intro gb133 hg w30 hbox hb; have n0_ := Aside0.mk (Kd.R_below (by (with_reducible repeat (first | apply Kd.R_alloc | apply Kd.R_drewN | apply Kd.R_drew)); exact HO_6.out) hb); have n1_ := Aside0.mk (below_step (by repeat (first | (with_reducible first | exact HB.out | apply below_alloc | apply pw_below_drewN | apply below_drew1) | exact HB.out)) hb); have n2_ := Aside0.mk (hbox); have n3_ := Aside0.mk ((by rw [hg]; exact (below_size (by repeat (first | (with_reducible first | exact HB.out | apply below_alloc | apply pw_below_drewN | apply below_drew1) | exact HB.out))) : w.heap.size ≤ gb133)); have n4_ := Aside0.mk ((by rw [hg]; exact (below_size (by repeat (first | (with_reducible first | exact HB.out | apply below_alloc | apply pw_below_drewN | apply below_drew1) | exact HB.out))) : w.heap.size ≤ gb133)); clear HO_6; clear HB; have HO_6 := n0_; have HB := n1_; have BK133 := n2_; have GW133 := n3_; have GE133 := n4_; clear n0_ n1_ n2_ n3_ n4_; clear hb hbox hg))
      repeat (go_quiet (fail); try go_wp2_with (first | ((with_reducible refine gate_dst (N := 62) rfl ?_); (try (refine gate_guard (by rfl) ?_; dsimp only)); refine box_event ?hg (N := 62) ?hd (cs := #[.slice none 0 0, .bool false]) (t := 37) ?hr ?_; (case hd => rfl); (case hg => rfl); (case hr => first | (go_simp; done) | (go_simp; rfl)); intro gb133 hg w30 hbox hb; have n0_ := Aside0.mk (Kd.R_below (by (with_reducible repeat (first | apply Kd.R_alloc | apply Kd.R_drewN | apply Kd.R_drew)); exact HO_6.out) hb); have n1_ := Aside0.mk (below_step (by repeat (first | (with_reducible first | exact HB.out | apply below_alloc | apply pw_below_drewN | apply below_drew1) | exact HB.out)) hb); have n2_ := Aside0.mk (hbox); have n3_ := Aside0.mk ((by rw [hg]; exact (below_size (by repeat (first | (with_reducible first | exact HB.out | apply below_alloc | apply pw_below_drewN | apply below_drew1) | exact HB.out))) : w.heap.size ≤ gb133)); have n4_ := Aside0.mk ((by rw [hg]; exact (below_size (by repeat (first | (with_reducible first | exact HB.out | apply below_alloc | apply pw_below_drewN | apply below_drew1) | exact HB.out))) : w.heap.size ≤ gb133)); clear HO_6; clear HB; have HO_6 := n0_; have HB := n1_; have BK133 := n2_; have GW133 := n3_; have GE133 := n4_; clear n0_ n1_ n2_ n3_ n4_; clear hb hbox hg)))
      go_loopg [5, 12] kj5 (fun kq v5 v12 w' => ∃ (x5_3 : ByteArray) (x12_3 : Int) (x134000_3 : List Int) (u134000 : Value), v5 = .string x5_3 ∧ v12 = .int .i64 x12_3 ∧ Aside0 (rhynelaw23_DoqBack.l1 kq (wrap64 (1 + (wrap64 (Int.tmod (IntKind.u64.wrap (a1)) 500)))) x5_3 x6_1 x12_3 x134000_3 false = some r) ∧ Aside0 (kq ≤ kj5) ∧ Aside0 (Kd.R Kd.string 9 w' w.heap.size (fun _ => True) u6 x6_1) ∧ Aside0 (Kd.Q (Kd.int .u8) 5 w' w.heap.size (fun _ => True) u134000 x134000_3) ∧ Aside0 (w'.heap[gb133]? = some (.cells #[u134000, .bool false] 37 (0, 0))) ∧ Aside0 (Below w.heap.size w w'))
      case atStart => exact ⟨(x5_1), (0), (([] : List Int)), (.slice none 0 0), (by first | rfl | (simp; done) | (simp [*]; done)), (by first | rfl | (simp; done) | (simp [*]; done)), H', ⟨Nat.le_refl _⟩, ⟨by (with_reducible repeat (first | apply Kd.R_alloc | apply Kd.R_drewN | apply Kd.R_drew)); exact HO_6.out⟩, ⟨Kd.Q_of_R (by first | exact Kd.R_nil _ _ _ _ _ | exact Kd.N_nil _ _ _ _ _ | exact Kd.V_nil _ _ _ _ _ | exact Kd.Q_nil _ _ _ _ _ | exact Kd.S_nil _ _ _ _ _)⟩, ⟨by (with_reducible repeat (first | refine blk_drewN ?_ _ | refine blk_drew ?_ | refine blk_alloc ?_ _)); exact BK133.out⟩, ⟨by repeat (first | (with_reducible first | exact HB.out | apply below_alloc | apply pw_below_drewN | apply below_drew1 | refine below_set ?_ GE133.out) | exact HB.out)⟩⟩
      case round => as_aux_lemma =>
       clear H'
       (try clear c1); (try clear p1); (try clear q1); (try clear hx1); (try clear p2); (try clear hcv2); (try clear c4); (try clear p6); (try clear c7); (try clear c7b0); (try clear c8); (try clear c9); (try clear c9b0); (try clear c10); (try clear c10b0); (try clear c12); (try clear c12b0); (try clear c12b1); (try clear p12); (try clear q12); (try clear hx12); (try clear c13); (try clear c13b0); (try clear c13b1); (try clear c14); (try clear c14b0); (try clear c14b1); (try clear c14b2); (try clear c16); (try clear c16b0); (try clear c16b1); (try clear c17); (try clear c17b0); (try clear c17b1); (try clear c17b2); (try clear c18); (try clear hcv23); (try clear hcv24); (try clear hx121_0); (try clear hx122_0); (try clear p121); (try clear p122); (try clear p2); (try clear p6); (try clear q121); (try clear q122)
       obtain ⟨x5_3, x12_3, x134000_3, u134000, rfl, rfl, HA, HK3, HO_6, HO_134000, BK133, HB⟩ := hrel
       cases gk with
       | zero => exact absurd HA.out (by simp [rhynelaw23_DoqBack.l1])
       | succ k3 =>
        have H := HA.out
        clear HA
        simp only [rhynelaw23_DoqBack.l1] at H
        by_cases c31 : x5_3.toList = ([] : List UInt8)
        ·
         rw [if_pos c31] at H
         have c31b0 : (x5_3.toList == ([] : List UInt8)) = true := beq_iff_eq.mpr c31
         have c31b1 : (x5_3.toList != ([] : List UInt8)) = false := bne_eq_false_iff_eq.mpr c31
         clear c31
         by_cases c32 : x12_3 = (x6_1.length : Int)
         ·
          rw [if_pos c32] at H
          have c32b0 : (x12_3 == (x6_1.length : Int)) = true := beq_iff_eq.mpr c32
          have c32b1 : (x12_3 != (x6_1.length : Int)) = false := bne_eq_false_iff_eq.mpr c32
          clear c32
          by_cases c33 : (x134000_3.length : Int) > 0
          ·
           rw [if_pos c33] at H
           have c33b0 : decide (0 < (x134000_3.length : Int)) = true := decide_eq_true c33
           have c33b1 : decide (0 < x134000_3.length) = true := decide_eq_true (by omega)
           clear c33
           by_cases c34 : 2 = 0
           ·
            rw [if_pos c34] at H
            exact absurd H (by simp)
           rw [if_neg c34] at H
           have c34b0 : (2 == 0) = false := beq_eq_false_iff_ne.mpr c34
           have c34b1 : (2 != 0) = true := bne_iff_ne.mpr c34
           obtain rfl := Option.some.inj H
           obtain ⟨Ao35, co35, eo35⟩ := Kd.R_slice HO_6.out
           subst eo35
           have hcz36_0 : wr.cell? ⟨gb133, 0, none⟩ = some (u134000) := (blk_cell BK133.out 0).trans rfl
           have hcz36_1 : wr.cell? ⟨gb133, 1, none⟩ = some (.bool false) := (blk_cell BK133.out 1).trans rfl
           have hfz36_0 := blk_frozen BK133.out 0
           have hfz36_1 := blk_frozen BK133.out 1
           obtain ⟨Ao37, co37, eo37, _⟩ := Kd.Q_slice HO_134000.out
           subst eo37
           go_wp2_with (first | ((go_at_call 9; go_in)))
           repeat (go_quiet (fail); try go_wp2_with (first | ((go_at_call 9; go_in))))
           go_ret
           exact ⟨by first | rfl | (simp [errW_none, errW_some] <;> rfl) | (simp [*, errW_none, errW_some] <;> rfl), by repeat (first | (with_reducible first | exact HB.out | apply below_alloc | apply pw_below_drewN | apply below_drew1 | refine below_set ?_ GE133.out) | exact HB.out)⟩
          rw [if_neg c33] at H
          have c33b0 : decide (0 < (x134000_3.length : Int)) = false := decide_eq_false c33
          have c33b1 : decide (0 < x134000_3.length) = false := decide_eq_false (by omega)
          clear c33
          by_cases c38 : 0 = 0
          ·
           first | rw [if_pos c38] at H | rw [if_pos trivial] at H
           have c38b0 : (0 == 0) = true := beq_iff_eq.mpr c38
           have c38b1 : (0 != 0) = false := bne_eq_false_iff_eq.mpr c38
           clear c38
           obtain rfl := Option.some.inj H
           obtain ⟨Ao39, co39, eo39⟩ := Kd.R_slice HO_6.out
           subst eo39
           have hcz40_0 : wr.cell? ⟨gb133, 0, none⟩ = some (u134000) := (blk_cell BK133.out 0).trans rfl
           have hcz40_1 : wr.cell? ⟨gb133, 1, none⟩ = some (.bool false) := (blk_cell BK133.out 1).trans rfl
           have hfz40_0 := blk_frozen BK133.out 0
           have hfz40_1 := blk_frozen BK133.out 1
           obtain ⟨Ao41, co41, eo41, _⟩ := Kd.Q_slice HO_134000.out
           subst eo41
           go_wp2_with (first | ((go_at_call 9; go_in)) | ((go_at_call 8; go_in)))
           repeat (go_quiet (fail); try go_wp2_with (first | ((go_at_call 9; go_in)) | ((go_at_call 8; go_in))))
           go_ret
           exact ⟨by first | rfl | (simp [errW_none, errW_some] <;> rfl) | (simp [*, errW_none, errW_some] <;> rfl), by repeat (first | (with_reducible first | exact HB.out | apply below_alloc | apply pw_below_drewN | apply below_drew1 | refine below_set ?_ GE133.out) | exact HB.out)⟩
          exact absurd rfl c38
         rw [if_neg c32] at H
         have c32b0 : (x12_3 == (x6_1.length : Int)) = false := beq_eq_false_iff_ne.mpr c32
         have c32b1 : (x12_3 != (x6_1.length : Int)) = true := bne_iff_ne.mpr c32
         obtain rfl := Option.some.inj H
         obtain ⟨Ao42, co42, eo42⟩ := Kd.R_slice HO_6.out
         subst eo42
         go_wp2
         repeat (go_quiet (fail); try go_wp2)
         go_ret
         exact ⟨by first | rfl | (simp [errW_none, errW_some] <;> rfl) | (simp [*, errW_none, errW_some] <;> rfl), by repeat (first | (with_reducible first | exact HB.out | apply below_alloc | apply pw_below_drewN | apply below_drew1 | refine below_set ?_ GE133.out) | exact HB.out)⟩
        rw [if_neg c31] at H
        have c31b0 : (x5_3.toList == ([] : List UInt8)) = false := beq_eq_false_iff_ne.mpr c31
        have c31b1 : (x5_3.toList != ([] : List UInt8)) = true := bne_iff_ne.mpr c31
        obtain ⟨ji43, hji43⟩ : ∃ j_ : Int, (mn (wrap64 (1 + (wrap64 (Int.tmod (IntKind.u64.wrap (a1)) 500)))) (x5_3.size : Int)) = j_ := ⟨_, rfl⟩
        replace H : (if 0 ≤ (ji43) then (if (ji43) ≤ (x5_3.size : Int) then (if false = true then (if 10 = 0 then (none) else (some false)) else (if ((x5_3.extract 0 ((ji43) : Int).toNat).size : Int) > (wrap64 (1048576 - (x134000_3.length : Int))) then (if 6 = 0 then (none) else (some false)) else (if x134000_3.length + (x5_3.extract 0 ((ji43) : Int).toNat).size < 140737488355328 then ((some (x134000_3 ++ bytesOf (x5_3.extract 0 ((ji43) : Int).toNat) : List Int)).bind fun y134 => (if 0 = 0 then (if (y134.length : Int) < 2 then (rhynelaw23_DoqBack.l2 k3 (wrap64 (1 + (wrap64 (Int.tmod (IntKind.u64.wrap (a1)) 500)))) (x5_3.extract ((ji43) : Int).toNat x5_3.size) x6_1 x12_3 (⟨#[]⟩ : ByteArray) false y134 false) else (if 0 < (y134.length : Int) then (if 1 < (y134.length : Int) then (if (wrap64 ((wrap64 (2 + (wrap64 ((wrap64 (rd y134 0)) * 256)))) + (wrap64 (rd y134 1)))) = 2 then (rhynelaw23_DoqBack.l2 k3 (wrap64 (1 + (wrap64 (Int.tmod (IntKind.u64.wrap (a1)) 500)))) (x5_3.extract ((ji43) : Int).toNat x5_3.size) x6_1 x12_3 (⟨#[]⟩ : ByteArray) false y134 false) else (if (y134.length : Int) < (wrap64 ((wrap64 (2 + (wrap64 ((wrap64 (rd y134 0)) * 256)))) + (wrap64 (rd y134 1)))) then (rhynelaw23_DoqBack.l2 k3 (wrap64 (1 + (wrap64 (Int.tmod (IntKind.u64.wrap (a1)) 500)))) (x5_3.extract ((ji43) : Int).toNat x5_3.size) x6_1 x12_3 (⟨#[]⟩ : ByteArray) false y134 false) else (if 2 ≤ (wrap64 ((wrap64 (2 + (wrap64 ((wrap64 (rd y134 0)) * 256)))) + (wrap64 (rd y134 1)))) then (if (wrap64 ((wrap64 (2 + (wrap64 ((wrap64 (rd y134 0)) * 256)))) + (wrap64 (rd y134 1)))) ≤ (y134.length : Int) then (if 0 ≤ (wrap64 ((wrap64 (2 + (wrap64 ((wrap64 (rd y134 0)) * 256)))) + (wrap64 (rd y134 1)))) then (rhynelaw23_DoqBack.l2 k3 (wrap64 (1 + (wrap64 (Int.tmod (IntKind.u64.wrap (a1)) 500)))) (x5_3.extract ((ji43) : Int).toNat x5_3.size) x6_1 x12_3 (strOfNums ((y134.take ((wrap64 ((wrap64 (2 + (wrap64 ((wrap64 (rd y134 0)) * 256)))) + (wrap64 (rd y134 1)))) : Int).toNat).drop 2)) true (y134.drop ((wrap64 ((wrap64 (2 + (wrap64 ((wrap64 (rd y134 0)) * 256)))) + (wrap64 (rd y134 1)))) : Int).toNat) false) else (none)) else (none)) else (none)))) else (none)) else (none))) else (none))) else (none)))) else (none)) else (none)) = some r := by first | (rw [hji43] at H; exact H) | (simp only [hji43] at H ⊢; exact H)
        have hji43_ : (if (x5_3.size : Int) < (wrap64 (1 + (wrap64 (Int.tmod (IntKind.u64.wrap (a1)) 500)))) then (x5_3.size : Int) else (wrap64 (1 + (wrap64 (Int.tmod (IntKind.u64.wrap (a1)) 500))))) = ji43 := hji43
        by_cases c44 : 0 ≤ (ji43)
        ·
         rw [if_pos c44] at H
         have c44b0 := eq_true c44
         try (have c44b0q := c44b0; rw [hszn_ji11] at c44b0q)
         have c44b1 : decide (0 ≤ (ji43)) = true := decide_eq_true c44
         clear c44
         by_cases c45 : (ji43) ≤ (x5_3.size : Int)
         ·
          rw [if_pos c45] at H
          have c45b0 := eq_true c45
          have hszi_ji43 : (((x5_3.extract 0 ((ji43) : Int).toNat).size : Nat) : Int) = max ji43 0 := by rw [ByteArray.size_extract]; omega
          have hszn_ji43 : (x5_3.extract 0 ((ji43) : Int).toNat).size = (ji43).toNat := by rw [ByteArray.size_extract]; omega
          have c45b1 : decide ((ji43) ≤ (x5_3.size : Int)) = true := decide_eq_true c45
          clear c45
          by_cases c46 : false = true
          ·
           exact absurd c46 (by decide)
          replace c46 := Bool.eq_false_iff.mpr c46
          clear c46
          have H1 : (if ((x5_3.extract 0 ((ji43) : Int).toNat).size : Int) > (wrap64 (1048576 - (x134000_3.length : Int))) then (if 6 = 0 then (none) else (some false)) else (if x134000_3.length + (x5_3.extract 0 ((ji43) : Int).toNat).size < 140737488355328 then ((some (x134000_3 ++ bytesOf (x5_3.extract 0 ((ji43) : Int).toNat) : List Int)).bind fun y134 => (if 0 = 0 then (if (y134.length : Int) < 2 then (rhynelaw23_DoqBack.l2 k3 (wrap64 (1 + (wrap64 (Int.tmod (IntKind.u64.wrap (a1)) 500)))) (x5_3.extract ((ji43) : Int).toNat x5_3.size) x6_1 x12_3 (⟨#[]⟩ : ByteArray) false y134 false) else (if 0 < (y134.length : Int) then (if 1 < (y134.length : Int) then (if (wrap64 ((wrap64 (2 + (wrap64 ((wrap64 (rd y134 0)) * 256)))) + (wrap64 (rd y134 1)))) = 2 then (rhynelaw23_DoqBack.l2 k3 (wrap64 (1 + (wrap64 (Int.tmod (IntKind.u64.wrap (a1)) 500)))) (x5_3.extract ((ji43) : Int).toNat x5_3.size) x6_1 x12_3 (⟨#[]⟩ : ByteArray) false y134 false) else (if (y134.length : Int) < (wrap64 ((wrap64 (2 + (wrap64 ((wrap64 (rd y134 0)) * 256)))) + (wrap64 (rd y134 1)))) then (rhynelaw23_DoqBack.l2 k3 (wrap64 (1 + (wrap64 (Int.tmod (IntKind.u64.wrap (a1)) 500)))) (x5_3.extract ((ji43) : Int).toNat x5_3.size) x6_1 x12_3 (⟨#[]⟩ : ByteArray) false y134 false) else (if 2 ≤ (wrap64 ((wrap64 (2 + (wrap64 ((wrap64 (rd y134 0)) * 256)))) + (wrap64 (rd y134 1)))) then (if (wrap64 ((wrap64 (2 + (wrap64 ((wrap64 (rd y134 0)) * 256)))) + (wrap64 (rd y134 1)))) ≤ (y134.length : Int) then (if 0 ≤ (wrap64 ((wrap64 (2 + (wrap64 ((wrap64 (rd y134 0)) * 256)))) + (wrap64 (rd y134 1)))) then (rhynelaw23_DoqBack.l2 k3 (wrap64 (1 + (wrap64 (Int.tmod (IntKind.u64.wrap (a1)) 500)))) (x5_3.extract ((ji43) : Int).toNat x5_3.size) x6_1 x12_3 (strOfNums ((y134.take ((wrap64 ((wrap64 (2 + (wrap64 ((wrap64 (rd y134 0)) * 256)))) + (wrap64 (rd y134 1)))) : Int).toNat).drop 2)) true (y134.drop ((wrap64 ((wrap64 (2 + (wrap64 ((wrap64 (rd y134 0)) * 256)))) + (wrap64 (rd y134 1)))) : Int).toNat) false) else (none)) else (none)) else (none)))) else (none)) else (none))) else (none))) else (none))) = some r := by rw [if_neg (show ¬ (false = true) by decide)] at H; exact H
          clear H
          have H := H1
          clear H1
          by_cases c49 : ((x5_3.extract 0 ((ji43) : Int).toNat).size : Int) > (wrap64 (1048576 - (x134000_3.length : Int)))
          ·
           rw [if_pos c49] at H
           have c49b0 : decide ((wrap64 (1048576 - (x134000_3.length : Int))) < ((x5_3.extract 0 ((ji43) : Int).toNat).size : Int)) = true := decide_eq_true c49
           try (have c49b0q := c49b0; first | rw [hszi_ji43] at c49b0q | rw [hszn_ji43] at c49b0q)
           clear c49
           by_cases c50 : 6 = 0
           ·
            rw [if_pos c50] at H
            exact absurd H (by simp)
           rw [if_neg c50] at H
           have c50b0 : (6 == 0) = false := beq_eq_false_iff_ne.mpr c50
           have c50b1 : (6 != 0) = true := bne_iff_ne.mpr c50
           obtain rfl := Option.some.inj H
           have hcz51_0 : wr.cell? ⟨gb133, 0, none⟩ = some (u134000) := (blk_cell BK133.out 0).trans rfl
           have hcz51_1 : wr.cell? ⟨gb133, 1, none⟩ = some (.bool false) := (blk_cell BK133.out 1).trans rfl
           have hfz51_0 := blk_frozen BK133.out 0
           have hfz51_1 := blk_frozen BK133.out 1
           obtain ⟨Ao52, co52, eo52, _⟩ := Kd.Q_slice HO_134000.out
           subst eo52
           go_wp2_with (first | ((go_at_call 8; go_in)))
           repeat (go_quiet (fail); try go_wp2_with (first | ((go_at_call 8; go_in))))
           go_ret
           exact ⟨by first | rfl | (simp [errW_none, errW_some] <;> rfl) | (simp only [← hji43]; first | rfl | (simp [errW_none, errW_some] <;> rfl)) | (simp [*, errW_none, errW_some] <;> rfl), by repeat (first | (with_reducible first | exact HB.out | apply below_alloc | apply pw_below_drewN | apply below_drew1 | refine below_set ?_ GE133.out) | exact HB.out)⟩
          rw [if_neg c49] at H
          have c49b0 : decide ((wrap64 (1048576 - (x134000_3.length : Int))) < ((x5_3.extract 0 ((ji43) : Int).toNat).size : Int)) = false := decide_eq_false c49
          try (have c49b0q := c49b0; first | rw [hszi_ji43] at c49b0q | rw [hszn_ji43] at c49b0q)
          clear c49
          by_cases c53 : x134000_3.length + (x5_3.extract 0 ((ji43) : Int).toNat).size < 140737488355328
          ·
           rw [if_pos c53] at H
           have LMc53 := Aside0.mk c53
           clear c53
           obtain ⟨y134, hy134⟩ : ∃ y_ : List Int, y_ = (x134000_3 ++ bytesOf (x5_3.extract 0 ((ji43) : Int).toNat)) := ⟨_, rfl⟩
           replace H : (if 0 = 0 then (if (y134.length : Int) < 2 then (rhynelaw23_DoqBack.l2 k3 (wrap64 (1 + (wrap64 (Int.tmod (IntKind.u64.wrap (a1)) 500)))) (x5_3.extract ((ji43) : Int).toNat x5_3.size) x6_1 x12_3 (⟨#[]⟩ : ByteArray) false y134 false) else (if 0 < (y134.length : Int) then (if 1 < (y134.length : Int) then (if (wrap64 ((wrap64 (2 + (wrap64 ((wrap64 (rd y134 0)) * 256)))) + (wrap64 (rd y134 1)))) = 2 then (rhynelaw23_DoqBack.l2 k3 (wrap64 (1 + (wrap64 (Int.tmod (IntKind.u64.wrap (a1)) 500)))) (x5_3.extract ((ji43) : Int).toNat x5_3.size) x6_1 x12_3 (⟨#[]⟩ : ByteArray) false y134 false) else (if (y134.length : Int) < (wrap64 ((wrap64 (2 + (wrap64 ((wrap64 (rd y134 0)) * 256)))) + (wrap64 (rd y134 1)))) then (rhynelaw23_DoqBack.l2 k3 (wrap64 (1 + (wrap64 (Int.tmod (IntKind.u64.wrap (a1)) 500)))) (x5_3.extract ((ji43) : Int).toNat x5_3.size) x6_1 x12_3 (⟨#[]⟩ : ByteArray) false y134 false) else (if 2 ≤ (wrap64 ((wrap64 (2 + (wrap64 ((wrap64 (rd y134 0)) * 256)))) + (wrap64 (rd y134 1)))) then (if (wrap64 ((wrap64 (2 + (wrap64 ((wrap64 (rd y134 0)) * 256)))) + (wrap64 (rd y134 1)))) ≤ (y134.length : Int) then (if 0 ≤ (wrap64 ((wrap64 (2 + (wrap64 ((wrap64 (rd y134 0)) * 256)))) + (wrap64 (rd y134 1)))) then (rhynelaw23_DoqBack.l2 k3 (wrap64 (1 + (wrap64 (Int.tmod (IntKind.u64.wrap (a1)) 500)))) (x5_3.extract ((ji43) : Int).toNat x5_3.size) x6_1 x12_3 (strOfNums ((y134.take ((wrap64 ((wrap64 (2 + (wrap64 ((wrap64 (rd y134 0)) * 256)))) + (wrap64 (rd y134 1)))) : Int).toNat).drop 2)) true (y134.drop ((wrap64 ((wrap64 (2 + (wrap64 ((wrap64 (rd y134 0)) * 256)))) + (wrap64 (rd y134 1)))) : Int).toNat) false) else (none)) else (none)) else (none)))) else (none)) else (none))) else (none)) = some r := by first | (rw [hy134]; with_reducible exact H) | (have H2_ := (Option.bind_some _ _).symm.trans H; rw [hy134]; with_reducible exact H2_) | (have H2_ := (Option.bind_some _ _).symm.trans H; with_reducible exact H2_) | with_reducible exact H | (rw [hy134]; exact H) | exact H
           have Ny134 := Aside0.mk hy134
           clear hy134
           by_cases c54 : 0 = 0
           ·
            first | rw [if_pos c54] at H | rw [if_pos trivial] at H
            have c54b0 : (0 == 0) = true := beq_iff_eq.mpr c54
            have c54b1 : (0 != 0) = false := bne_eq_false_iff_eq.mpr c54
            clear c54
            have c55b0 := eq_true (of_decide_eq_true (by first | (with_reducible assumption) | assumption) : 0 ≤ (ji43))
            have c56b0 := eq_true (of_decide_eq_true (by first | (with_reducible assumption) | assumption) : (ji43) ≤ (x5_3.size : Int))
            by_cases c57 : (y134.length : Int) < 2
            ·
             rw [if_pos c57] at H
             have c57b0 : decide ((y134.length : Int) < 2) = true := decide_eq_true c57
             have c57b1 : decide (y134.length < 2) = true := decide_eq_true (by omega)
             clear c57
             have H' := Aside0.mk H
             clear H
             have hcz58_0 : wr.cell? ⟨gb133, 0, none⟩ = some (u134000) := (blk_cell BK133.out 0).trans rfl
             have hcz58_1 : wr.cell? ⟨gb133, 1, none⟩ = some (.bool false) := (blk_cell BK133.out 1).trans rfl
             have hfz58_0 := blk_frozen BK133.out 0
             have hfz58_1 := blk_frozen BK133.out 1
             obtain ⟨Ao59, co59, eo59, _⟩ := Kd.Q_slice HO_134000.out
             subst eo59
             go_wp2_with (first | ((go_at_call 8; go_in)) | (at_builtin; refine str_appendQ (w0 := w) w.heap.size rfl (.tmp 27) _ 23 9 5 rfl Try.underlying23 Try.underlying9 info5 (.slice Ao59 x134000_3.length co59) x134000_3 (x5_3.extract 0 ((ji43) : Int).toNat) (fun _ => True) rfl rfl ?aF ?aO ?aB ?aS ?aL ?_; (case aB => exact (by repeat (first | (with_reducible first | exact HB.out | apply below_alloc | apply pw_below_drewN | apply below_drew1 | refine below_set ?_ GE133.out) | exact HB.out))); (case aF => exact (fun _ _ => trivial)); (case aO => exact (by (with_reducible repeat (first | apply Kd.Q_alloc | apply Kd.Q_drewN | apply Kd.Q_drew)); exact HO_134000.out)); (case aS => exact (below_size (by repeat (first | (with_reducible first | exact HB.out | apply below_alloc | apply pw_below_drewN | apply below_drew1 | refine below_set ?_ GE133.out) | exact HB.out)))); (case aL => have := LMc53.out; first | omega | exact Nat.le_of_lt this); intro v135 w60 ho hb hg hat; rw [← Ny134.out] at ho; change Kd.Q (Kd.int .u8) 5 w60 w.heap.size (fun _ => True) v135 y134 at ho; have n0_ := Aside0.mk (Kd.R_over' (by (with_reducible repeat (first | apply Kd.R_alloc | apply Kd.R_drewN | apply Kd.R_drew)); exact HO_6.out) (Kd.Q_typed (by (with_reducible repeat (first | apply Kd.Q_alloc | apply Kd.Q_drewN | apply Kd.Q_drew)); exact HO_134000.out)) (by decide) hg); have n1_ := Aside0.mk (blk_grown (g := gb133) (o := .cells #[.slice Ao59 x134000_3.length co59, .bool false] 37 (0, 0)) (by (with_reducible repeat (first | refine blk_drewN ?_ _ | refine blk_drew ?_ | refine blk_alloc ?_ _)); exact BK133.out) hg (Kd.Q_ne HO_134000.out BK133.out (by decide))); have n2_ := Aside0.mk (hb); have n3_ := Aside0.mk (ho); clear HO_6; clear BK133; clear HB; clear HO_134000; have HO_6 := n0_; have BK133 := n1_; have HB := n2_; have HO136 := n3_; clear n0_ n1_ n2_ n3_; clear ho hb hg hat; obtain ⟨Ao61, co61, eo61, _⟩ := Kd.Q_slice HO136.out; subst eo61; have hcz62_0 : w60.cell? ⟨gb133, 0, none⟩ = some (.slice Ao59 x134000_3.length co59) := (blk_cell BK133.out 0).trans rfl; have hcz62_1 : w60.cell? ⟨gb133, 1, none⟩ = some (.bool false) := (blk_cell BK133.out 1).trans rfl; have hfz62_0 := blk_frozen BK133.out 0; have hfz62_1 := blk_frozen BK133.out 1) | ((go_at_call 6; go_in)))
             repeat (go_quiet (fail); try go_wp2_with (first | ((go_at_call 8; go_in)) | (at_builtin; refine str_appendQ (w0 := w) w.heap.size rfl (.tmp 27) _ 23 9 5 rfl Try.underlying23 Try.underlying9 info5 (.slice Ao59 x134000_3.length co59) x134000_3 (x5_3.extract 0 ((ji43) : Int).toNat) (fun _ => True) rfl rfl ?aF ?aO ?aB ?aS ?aL ?_; (case aB => exact (by repeat (first | (with_reducible first | exact HB.out | apply below_alloc | apply pw_below_drewN | apply below_drew1 | refine below_set ?_ GE133.out) | exact HB.out))); (case aF => exact (fun _ _ => trivial)); (case aO => exact (by (with_reducible repeat (first | apply Kd.Q_alloc | apply Kd.Q_drewN | apply Kd.Q_drew)); exact HO_134000.out)); (case aS => exact (below_size (by repeat (first | (with_reducible first | exact HB.out | apply below_alloc | apply pw_below_drewN | apply below_drew1 | refine below_set ?_ GE133.out) | exact HB.out)))); (case aL => have := LMc53.out; first | omega | exact Nat.le_of_lt this); intro v135 w60 ho hb hg hat; rw [← Ny134.out] at ho; change Kd.Q (Kd.int .u8) 5 w60 w.heap.size (fun _ => True) v135 y134 at ho; have n0_ := Aside0.mk (Kd.R_over' (by (with_reducible repeat (first | apply Kd.R_alloc | apply Kd.R_drewN | apply Kd.R_drew)); exact HO_6.out) (Kd.Q_typed (by (with_reducible repeat (first | apply Kd.Q_alloc | apply Kd.Q_drewN | apply Kd.Q_drew)); exact HO_134000.out)) (by decide) hg); have n1_ := Aside0.mk (blk_grown (g := gb133) (o := .cells #[.slice Ao59 x134000_3.length co59, .bool false] 37 (0, 0)) (by (with_reducible repeat (first | refine blk_drewN ?_ _ | refine blk_drew ?_ | refine blk_alloc ?_ _)); exact BK133.out) hg (Kd.Q_ne HO_134000.out BK133.out (by decide))); have n2_ := Aside0.mk (hb); have n3_ := Aside0.mk (ho); clear HO_6; clear BK133; clear HB; clear HO_134000; have HO_6 := n0_; have BK133 := n1_; have HB := n2_; have HO136 := n3_; clear n0_ n1_ n2_ n3_; clear ho hb hg hat; obtain ⟨Ao61, co61, eo61, _⟩ := Kd.Q_slice HO136.out; subst eo61; have hcz62_0 : w60.cell? ⟨gb133, 0, none⟩ = some (.slice Ao59 x134000_3.length co59) := (blk_cell BK133.out 0).trans rfl; have hcz62_1 : w60.cell? ⟨gb133, 1, none⟩ = some (.bool false) := (blk_cell BK133.out 1).trans rfl; have hfz62_0 := blk_frozen BK133.out 0; have hfz62_1 := blk_frozen BK133.out 1) | ((go_at_call 6; go_in))))
             go_loopg [12, 14, 15] k3 (fun kq v12 v14 v15 w' => ∃ (x12_4 : Int) (x14_4 : ByteArray) (x15_4 : Bool) (x134000_4 : List Int) (u134000 : Value), v12 = .int .i64 x12_4 ∧ v14 = .string x14_4 ∧ v15 = .bool x15_4 ∧ Aside0 (rhynelaw23_DoqBack.l2 kq (wrap64 (1 + (wrap64 (Int.tmod (IntKind.u64.wrap (a1)) 500)))) (x5_3.extract ((ji43) : Int).toNat x5_3.size) x6_1 x12_4 x14_4 x15_4 x134000_4 false = some r) ∧ Aside0 (kq ≤ k3) ∧ Aside0 (Kd.R Kd.string 9 w' w.heap.size (fun _ => True) u6 x6_1) ∧ Aside0 (Kd.Q (Kd.int .u8) 5 w' w.heap.size (fun _ => True) u134000 x134000_4) ∧ Aside0 (w'.heap[gb133]? = some (.cells #[u134000, .bool false] 37 (0, 0))) ∧ Aside0 (Below w.heap.size w w'))
             case atStart => exact ⟨(x12_3), ((⟨#[]⟩ : ByteArray)), (false), (y134), (.slice Ao61 y134.length co61), (by first | rfl | (simp; done) | (simp [*]; done)), (by first | rfl | (simp; done) | (simp [*]; done)), (by first | rfl | (simp; done) | (simp [*]; done)), H', ⟨Nat.le_refl _⟩, ⟨by (with_reducible repeat (first | apply Kd.R_alloc | apply Kd.R_drewN | apply Kd.R_drew)); exact Kd.R_mono (Kd.R_far (p := ⟨gb133, 0, none⟩) (Kd.R_types HO_6.out BK133.out (by decide)) (fun _ hk => hk.2) (.slice Ao61 y134.length co61)) (fun _ hk => trivial)⟩, ⟨by (with_reducible repeat (first | apply Kd.Q_alloc | apply Kd.Q_drewN | apply Kd.Q_drew)); exact Kd.Q_mono (Kd.Q_far (p := ⟨gb133, 0, none⟩) (Kd.Q_types HO136.out BK133.out (by decide)) (fun _ hk => hk.2) (.slice Ao61 y134.length co61)) (fun _ hk => trivial)⟩, ⟨by (with_reducible repeat (first | refine blk_drewN ?_ _ | refine blk_drew ?_ | refine blk_alloc ?_ _)); refine blk_put (cs := #[.slice Ao59 x134000_3.length co59, .bool false]) ?_ 0 _ rfl; (with_reducible repeat (first | refine blk_drewN ?_ _ | refine blk_drew ?_ | refine blk_alloc ?_ _)); exact BK133.out⟩, ⟨by repeat (first | (with_reducible first | exact HB.out | apply below_alloc | apply pw_below_drewN | apply below_drew1 | refine below_set ?_ GE133.out) | exact HB.out)⟩⟩
             case round => as_aux_lemma =>
              clear H'
              (try clear c1); (try clear p1); (try clear q1); (try clear hx1); (try clear p2); (try clear hcv2); (try clear c3); (try clear c4); (try clear c5); (try clear p6); (try clear c7); (try clear c7b0); (try clear c8); (try clear c9); (try clear c9b0); (try clear c10); (try clear c10b0); (try clear c12); (try clear c12b0); (try clear c12b1); (try clear p12); (try clear q12); (try clear hx12); (try clear c13); (try clear c13b0); (try clear c13b1); (try clear c14); (try clear c14b0); (try clear c14b1); (try clear c14b2); (try clear c16); (try clear c16b0); (try clear c16b1); (try clear c17); (try clear c17b0); (try clear c17b1); (try clear c17b2); (try clear c18); (try clear hcv23); (try clear hcv24); (try clear c31); (try clear c31b0); (try clear c31b1); (try clear c32); (try clear c32b0); (try clear c32b1); (try clear c33); (try clear c33b0); (try clear c33b1); (try clear c34); (try clear c34b0); (try clear c34b1); (try clear c38); (try clear c38b0); (try clear c38b1); (try clear c44); (try clear c44b0); (try clear c44b1); (try clear c45); (try clear c45b0); (try clear c45b1); (try clear c46); (try clear c47); (try clear c47b0); (try clear c47b1); (try clear c49); (try clear c49b0); (try clear c50); (try clear c50b0); (try clear c50b1); (try clear c53); (try clear c54); (try clear c54b0); (try clear c54b1); (try clear c55); (try clear c55b0); (try clear c56); (try clear c56b0); (try clear c57); (try clear c57b0); (try clear c57b1); (try clear hcz36_0); (try clear hcz36_1); (try clear hcz40_0); (try clear hcz40_1); (try clear hcz48_0); (try clear hcz48_1); (try clear hcz51_0); (try clear hcz51_1); (try clear hcz58_0); (try clear hcz58_1); (try clear hcz62_0); (try clear hcz62_1); (try clear hfz36_0); (try clear hfz36_1); (try clear hfz40_0); (try clear hfz40_1); (try clear hfz48_0); (try clear hfz48_1); (try clear hfz51_0); (try clear hfz51_1); (try clear hfz58_0); (try clear hfz58_1); (try clear hfz62_0); (try clear hfz62_1); (try clear hx121_0); (try clear hx122_0); (try clear p1); (try clear p12); (try clear p121); (try clear p122); (try clear p2); (try clear p6); (try clear q1); (try clear q12); (try clear q121); (try clear q122)
              obtain ⟨x12_4, x14_4, x15_4, x134000_4, u134000, rfl, rfl, rfl, HA, HK4, HO_6, HO_134000, BK133, HB⟩ := hrel
              cases gk with
              | zero => exact absurd HA.out (by simp [rhynelaw23_DoqBack.l2])
              | succ k4 =>
               have H := HA.out
               clear HA
               simp only [rhynelaw23_DoqBack.l2] at H
               by_cases c63 : x15_4 = true
               ·
                subst c63
                have H1 : (if x12_4 ≥ (x6_1.length : Int) then (some false) else (if 0 ≤ x12_4 then (if x12_4 < (x6_1.length : Int) then (if x14_4.toList = (rdOf ByteArray.empty x6_1 x12_4).toList then (if (x134000_4.length : Int) < 2 then (rhynelaw23_DoqBack.l2 k4 (wrap64 (1 + (wrap64 (Int.tmod (IntKind.u64.wrap (a1)) 500)))) (x5_3.extract ((ji43) : Int).toNat x5_3.size) x6_1 (wrap64 (x12_4 + 1)) (⟨#[]⟩ : ByteArray) false x134000_4 false) else (if 0 < (x134000_4.length : Int) then (if 1 < (x134000_4.length : Int) then (if (wrap64 ((wrap64 (2 + (wrap64 ((wrap64 (rd x134000_4 0)) * 256)))) + (wrap64 (rd x134000_4 1)))) = 2 then (rhynelaw23_DoqBack.l2 k4 (wrap64 (1 + (wrap64 (Int.tmod (IntKind.u64.wrap (a1)) 500)))) (x5_3.extract ((ji43) : Int).toNat x5_3.size) x6_1 (wrap64 (x12_4 + 1)) (⟨#[]⟩ : ByteArray) false x134000_4 false) else (if (x134000_4.length : Int) < (wrap64 ((wrap64 (2 + (wrap64 ((wrap64 (rd x134000_4 0)) * 256)))) + (wrap64 (rd x134000_4 1)))) then (rhynelaw23_DoqBack.l2 k4 (wrap64 (1 + (wrap64 (Int.tmod (IntKind.u64.wrap (a1)) 500)))) (x5_3.extract ((ji43) : Int).toNat x5_3.size) x6_1 (wrap64 (x12_4 + 1)) (⟨#[]⟩ : ByteArray) false x134000_4 false) else (if 2 ≤ (wrap64 ((wrap64 (2 + (wrap64 ((wrap64 (rd x134000_4 0)) * 256)))) + (wrap64 (rd x134000_4 1)))) then (if (wrap64 ((wrap64 (2 + (wrap64 ((wrap64 (rd x134000_4 0)) * 256)))) + (wrap64 (rd x134000_4 1)))) ≤ (x134000_4.length : Int) then (if 0 ≤ (wrap64 ((wrap64 (2 + (wrap64 ((wrap64 (rd x134000_4 0)) * 256)))) + (wrap64 (rd x134000_4 1)))) then (rhynelaw23_DoqBack.l2 k4 (wrap64 (1 + (wrap64 (Int.tmod (IntKind.u64.wrap (a1)) 500)))) (x5_3.extract ((ji43) : Int).toNat x5_3.size) x6_1 (wrap64 (x12_4 + 1)) (strOfNums ((x134000_4.take ((wrap64 ((wrap64 (2 + (wrap64 ((wrap64 (rd x134000_4 0)) * 256)))) + (wrap64 (rd x134000_4 1)))) : Int).toNat).drop 2)) true (x134000_4.drop ((wrap64 ((wrap64 (2 + (wrap64 ((wrap64 (rd x134000_4 0)) * 256)))) + (wrap64 (rd x134000_4 1)))) : Int).toNat) false) else (none)) else (none)) else (none)))) else (none)) else (none))) else (some false)) else (none)) else (none))) = some r := by rw [if_pos rfl] at H; exact H
                clear H
                have H := H1
                clear H1
                by_cases c64 : x12_4 ≥ (x6_1.length : Int)
                ·
                 rw [if_pos c64] at H
                 have c64b0 : decide ((x6_1.length : Int) ≤ x12_4) = true := decide_eq_true c64
                 clear c64
                 obtain rfl := Option.some.inj H
                 obtain ⟨Ao65, co65, eo65⟩ := Kd.R_slice HO_6.out
                 subst eo65
                 go_wp2
                 repeat (go_quiet (fail); try go_wp2)
                 go_ret
                 exact ⟨by first | rfl | (simp [errW_none, errW_some] <;> rfl) | (simp only [← hji43]; first | rfl | (simp [errW_none, errW_some] <;> rfl)) | (simp [*, errW_none, errW_some] <;> rfl), by repeat (first | (with_reducible first | exact HB.out | apply below_alloc | apply pw_below_drewN | apply below_drew1 | refine below_set ?_ GE133.out) | exact HB.out)⟩
                rw [if_neg c64] at H
                have c64b0 : decide ((x6_1.length : Int) ≤ x12_4) = false := decide_eq_false c64
                clear c64
                by_cases c66 : 0 ≤ x12_4
                ·
                 rw [if_pos c66] at H
                 have c66b0 : decide (0 ≤ x12_4) = true := decide_eq_true c66
                 clear c66
                 by_cases c67 : x12_4 < (x6_1.length : Int)
                 ·
                  rw [if_pos c67] at H
                  have c67b0 : decide (x12_4 < (x6_1.length : Int)) = true := decide_eq_true c67
                  clear c67
                  by_cases c68 : x14_4.toList = (rdOf ByteArray.empty x6_1 x12_4).toList
                  ·
                   rw [if_pos c68] at H
                   have c68b0 : (x14_4.toList == (rdOf ByteArray.empty x6_1 x12_4).toList) = true := beq_iff_eq.mpr c68
                   have c68b1 : (x14_4.toList != (rdOf ByteArray.empty x6_1 x12_4).toList) = false := bne_eq_false_iff_eq.mpr c68
                   clear c68
                   by_cases c69 : (x134000_4.length : Int) < 2
                   ·
                    rw [if_pos c69] at H
                    have c69b0 : decide ((x134000_4.length : Int) < 2) = true := decide_eq_true c69
                    have c69b1 : decide (x134000_4.length < 2) = true := decide_eq_true (by omega)
                    clear c69
                    have H' := Aside0.mk H
                    clear H
                    obtain ⟨Ao70, co70, eo70⟩ := Kd.R_slice HO_6.out
                    subst eo70
                    have p137 : 0 ≤ (x12_4 : Int) := of_decide_eq_true (by first | (with_reducible assumption) | assumption)
                    have q137 : x12_4 < (x6_1.length : Int) := of_decide_eq_true (by first | (with_reducible assumption) | assumption)
                    obtain ⟨ad137, e137, hx137_0⟩ := Kd.at_string (Kd.R_reads' HO_6.out).2.2 x12_4 p137 q137
                    cases e137
                    replace p137 := eq_true p137
                    replace q137 := eq_true q137
                    have hcz71_0 : wr.cell? ⟨gb133, 0, none⟩ = some (u134000) := (blk_cell BK133.out 0).trans rfl
                    have hcz71_1 : wr.cell? ⟨gb133, 1, none⟩ = some (.bool false) := (blk_cell BK133.out 1).trans rfl
                    have hfz71_0 := blk_frozen BK133.out 0
                    have hfz71_1 := blk_frozen BK133.out 1
                    obtain ⟨Ao72, co72, eo72, _⟩ := Kd.Q_slice HO_134000.out
                    subst eo72
                    go_wp2_with (first | ((go_at_call 6; go_in)))
                    repeat (go_quiet (fail); try go_wp2_with (first | ((go_at_call 6; go_in))))
                    go_roundg k4
                    case measure => have := HK1.out; have := HJ5.out; have := HK3.out; have := HK4.out; omega
                    case rel => exact ⟨(wrap64 (x12_4 + 1)), ((⟨#[]⟩ : ByteArray)), (false), (x134000_4), (.slice Ao72 x134000_4.length co72), (by first | rfl | (simp; done) | (simp [*]; done)), (by first | rfl | (simp; done) | (simp [*]; done)), (by first | rfl | (simp; done) | (simp [*]; done)), H', ⟨by have := HK1.out; have := HJ5.out; have := HK3.out; have := HK4.out; omega⟩, ⟨by (with_reducible repeat (first | apply Kd.R_alloc | apply Kd.R_drewN | apply Kd.R_drew)); exact HO_6.out⟩, ⟨by (with_reducible repeat (first | apply Kd.Q_alloc | apply Kd.Q_drewN | apply Kd.Q_drew)); exact HO_134000.out⟩, ⟨by (with_reducible repeat (first | refine blk_drewN ?_ _ | refine blk_drew ?_ | refine blk_alloc ?_ _)); exact BK133.out⟩, ⟨by repeat (first | (with_reducible first | exact HB.out | apply below_alloc | apply pw_below_drewN | apply below_drew1 | refine below_set ?_ GE133.out) | exact HB.out)⟩⟩
                   rw [if_neg c69] at H
                   have c69b0 : decide ((x134000_4.length : Int) < 2) = false := decide_eq_false c69
                   have c69b1 : decide (x134000_4.length < 2) = false := decide_eq_false (by omega)
                   clear c69
                   by_cases c73 : 0 < (x134000_4.length : Int)
                   ·
                    rw [if_pos c73] at H
                    have c73b0 : decide (0 < (x134000_4.length : Int)) = true := decide_eq_true c73
                    have c73b1 : decide (0 < x134000_4.length) = true := decide_eq_true (by omega)
                    clear c73
                    by_cases c74 : 1 < (x134000_4.length : Int)
                    ·
                     rw [if_pos c74] at H
                     have c74b0 : decide (1 < (x134000_4.length : Int)) = true := decide_eq_true c74
                     have c74b1 : decide (1 < x134000_4.length) = true := decide_eq_true (by omega)
                     clear c74
                     by_cases c75 : (wrap64 ((wrap64 (2 + (wrap64 ((wrap64 (rd x134000_4 0)) * 256)))) + (wrap64 (rd x134000_4 1)))) = 2
                     ·
                      rw [if_pos c75] at H
                      have c75b0 : ((wrap64 ((wrap64 (2 + (wrap64 ((wrap64 (rd x134000_4 0)) * 256)))) + (wrap64 (rd x134000_4 1)))) == 2) = true := beq_iff_eq.mpr c75
                      have c75b1 : ((wrap64 ((wrap64 (2 + (wrap64 ((wrap64 (rd x134000_4 0)) * 256)))) + (wrap64 (rd x134000_4 1)))) != 2) = false := bne_eq_false_iff_eq.mpr c75
                      clear c75
                      have H' := Aside0.mk H
                      clear H
                      obtain ⟨Ao76, co76, eo76⟩ := Kd.R_slice HO_6.out
                      subst eo76
                      have p137 : 0 ≤ (x12_4 : Int) := of_decide_eq_true (by first | (with_reducible assumption) | assumption)
                      have q137 : x12_4 < (x6_1.length : Int) := of_decide_eq_true (by first | (with_reducible assumption) | assumption)
                      obtain ⟨ad137, e137, hx137_0⟩ := Kd.at_string (Kd.R_reads' HO_6.out).2.2 x12_4 p137 q137
                      cases e137
                      replace p137 := eq_true p137
                      replace q137 := eq_true q137
                      have hcz77_0 : wr.cell? ⟨gb133, 0, none⟩ = some (u134000) := (blk_cell BK133.out 0).trans rfl
                      have hcz77_1 : wr.cell? ⟨gb133, 1, none⟩ = some (.bool false) := (blk_cell BK133.out 1).trans rfl
                      have hfz77_0 := blk_frozen BK133.out 0
                      have hfz77_1 := blk_frozen BK133.out 1
                      obtain ⟨Ao78, co78, eo78, _⟩ := Kd.Q_slice HO_134000.out
                      subst eo78
                      have p138 : 0 ≤ (0 : Int) := (by omega)
                      have q138 : 0 < (x134000_4.length : Int) := of_decide_eq_true (by first | (with_reducible assumption) | assumption)
                      obtain ⟨ad138, e138, hx138_0⟩ := Kd.at_int (Kd.Q_reads' HO_134000.out).2.2 0 p138 q138
                      cases e138
                      have qi138 : (0 < x134000_4.length) = True := eq_true (by omega)
                      (try rw [show ((0 : Int)).toNat = 0 from rfl] at hx138_0)
                      (try rw [Addr.add_zero'] at hx138_0)
                      replace p138 := eq_true p138
                      replace q138 := eq_true q138
                      have p139 : 0 ≤ (1 : Int) := (by omega)
                      have q139 : 1 < (x134000_4.length : Int) := of_decide_eq_true (by first | (with_reducible assumption) | assumption)
                      obtain ⟨ad139, e139, hx139_0⟩ := Kd.at_int (Kd.Q_reads' HO_134000.out).2.2 1 p139 q139
                      obtain rfl : ad138 = ad139 := (by injection e139)
                      (try simp only [show (1 : Int).toNat = 1 from rfl, Nat.reduceMul, Nat.reduceEqDiff, Go.Addr.add, ↓reduceIte] at hx139_0)
                      have qi139 : (1 < x134000_4.length) = True := eq_true (by omega)
                      (try rw [show ((1 : Int)).toNat = 1 from rfl] at hx139_0)
                      replace p139 := eq_true p139
                      replace q139 := eq_true q139
                      go_wp2_with (first | ((go_at_call 6; go_in)))
                      repeat (go_quiet (fail); try go_wp2_with (first | ((go_at_call 6; go_in))))
                      go_roundg k4
                      case measure => have := HK1.out; have := HJ5.out; have := HK3.out; have := HK4.out; omega
                      case rel => exact ⟨(wrap64 (x12_4 + 1)), ((⟨#[]⟩ : ByteArray)), (false), (x134000_4), (.slice (some ad138) x134000_4.length co78), (by first | rfl | (simp; done) | (simp [*]; done)), (by first | rfl | (simp; done) | (simp [*]; done)), (by first | rfl | (simp; done) | (simp [*]; done)), H', ⟨by have := HK1.out; have := HJ5.out; have := HK3.out; have := HK4.out; omega⟩, ⟨by (with_reducible repeat (first | apply Kd.R_alloc | apply Kd.R_drewN | apply Kd.R_drew)); exact HO_6.out⟩, ⟨by (with_reducible repeat (first | apply Kd.Q_alloc | apply Kd.Q_drewN | apply Kd.Q_drew)); exact HO_134000.out⟩, ⟨by (with_reducible repeat (first | refine blk_drewN ?_ _ | refine blk_drew ?_ | refine blk_alloc ?_ _)); exact BK133.out⟩, ⟨by repeat (first | (with_reducible first | exact HB.out | apply below_alloc | apply pw_below_drewN | apply below_drew1 | refine below_set ?_ GE133.out) | exact HB.out)⟩⟩
                     rw [if_neg c75] at H
                     have c75b0 : ((wrap64 ((wrap64 (2 + (wrap64 ((wrap64 (rd x134000_4 0)) * 256)))) + (wrap64 (rd x134000_4 1)))) == 2) = false := beq_eq_false_iff_ne.mpr c75
                     have c75b1 : ((wrap64 ((wrap64 (2 + (wrap64 ((wrap64 (rd x134000_4 0)) * 256)))) + (wrap64 (rd x134000_4 1)))) != 2) = true := bne_iff_ne.mpr c75
                     by_cases c79 : (x134000_4.length : Int) < (wrap64 ((wrap64 (2 + (wrap64 ((wrap64 (rd x134000_4 0)) * 256)))) + (wrap64 (rd x134000_4 1))))
                     ·
                      rw [if_pos c79] at H
                      have c79b0 : decide ((x134000_4.length : Int) < (wrap64 ((wrap64 (2 + (wrap64 ((wrap64 (rd x134000_4 0)) * 256)))) + (wrap64 (rd x134000_4 1))))) = true := decide_eq_true c79
                      clear c79
                      have H' := Aside0.mk H
                      clear H
                      obtain ⟨Ao80, co80, eo80⟩ := Kd.R_slice HO_6.out
                      subst eo80
                      have p137 : 0 ≤ (x12_4 : Int) := of_decide_eq_true (by first | (with_reducible assumption) | assumption)
                      have q137 : x12_4 < (x6_1.length : Int) := of_decide_eq_true (by first | (with_reducible assumption) | assumption)
                      obtain ⟨ad137, e137, hx137_0⟩ := Kd.at_string (Kd.R_reads' HO_6.out).2.2 x12_4 p137 q137
                      cases e137
                      replace p137 := eq_true p137
                      replace q137 := eq_true q137
                      have hcz81_0 : wr.cell? ⟨gb133, 0, none⟩ = some (u134000) := (blk_cell BK133.out 0).trans rfl
                      have hcz81_1 : wr.cell? ⟨gb133, 1, none⟩ = some (.bool false) := (blk_cell BK133.out 1).trans rfl
                      have hfz81_0 := blk_frozen BK133.out 0
                      have hfz81_1 := blk_frozen BK133.out 1
                      obtain ⟨Ao82, co82, eo82, _⟩ := Kd.Q_slice HO_134000.out
                      subst eo82
                      have p138 : 0 ≤ (0 : Int) := (by omega)
                      have q138 : 0 < (x134000_4.length : Int) := of_decide_eq_true (by first | (with_reducible assumption) | assumption)
                      obtain ⟨ad138, e138, hx138_0⟩ := Kd.at_int (Kd.Q_reads' HO_134000.out).2.2 0 p138 q138
                      cases e138
                      have qi138 : (0 < x134000_4.length) = True := eq_true (by omega)
                      (try rw [show ((0 : Int)).toNat = 0 from rfl] at hx138_0)
                      (try rw [Addr.add_zero'] at hx138_0)
                      replace p138 := eq_true p138
                      replace q138 := eq_true q138
                      have p139 : 0 ≤ (1 : Int) := (by omega)
                      have q139 : 1 < (x134000_4.length : Int) := of_decide_eq_true (by first | (with_reducible assumption) | assumption)
                      obtain ⟨ad139, e139, hx139_0⟩ := Kd.at_int (Kd.Q_reads' HO_134000.out).2.2 1 p139 q139
                      obtain rfl : ad138 = ad139 := (by injection e139)
                      (try simp only [show (1 : Int).toNat = 1 from rfl, Nat.reduceMul, Nat.reduceEqDiff, Go.Addr.add, ↓reduceIte] at hx139_0)
                      have qi139 : (1 < x134000_4.length) = True := eq_true (by omega)
                      (try rw [show ((1 : Int)).toNat = 1 from rfl] at hx139_0)
                      replace p139 := eq_true p139
                      replace q139 := eq_true q139
                      go_wp2_with (first | ((go_at_call 6; go_in)))
                      repeat (go_quiet (fail); try go_wp2_with (first | ((go_at_call 6; go_in))))
                      go_roundg k4
                      case measure => have := HK1.out; have := HJ5.out; have := HK3.out; have := HK4.out; omega
                      case rel => exact ⟨(wrap64 (x12_4 + 1)), ((⟨#[]⟩ : ByteArray)), (false), (x134000_4), (.slice (some ad138) x134000_4.length co82), (by first | rfl | (simp; done) | (simp [*]; done)), (by first | rfl | (simp; done) | (simp [*]; done)), (by first | rfl | (simp; done) | (simp [*]; done)), H', ⟨by have := HK1.out; have := HJ5.out; have := HK3.out; have := HK4.out; omega⟩, ⟨by (with_reducible repeat (first | apply Kd.R_alloc | apply Kd.R_drewN | apply Kd.R_drew)); exact HO_6.out⟩, ⟨by (with_reducible repeat (first | apply Kd.Q_alloc | apply Kd.Q_drewN | apply Kd.Q_drew)); exact HO_134000.out⟩, ⟨by (with_reducible repeat (first | refine blk_drewN ?_ _ | refine blk_drew ?_ | refine blk_alloc ?_ _)); exact BK133.out⟩, ⟨by repeat (first | (with_reducible first | exact HB.out | apply below_alloc | apply pw_below_drewN | apply below_drew1 | refine below_set ?_ GE133.out) | exact HB.out)⟩⟩
                     rw [if_neg c79] at H
                     have c79b0 : decide ((x134000_4.length : Int) < (wrap64 ((wrap64 (2 + (wrap64 ((wrap64 (rd x134000_4 0)) * 256)))) + (wrap64 (rd x134000_4 1))))) = false := decide_eq_false c79
                     clear c79
                     by_cases c83 : 2 ≤ (wrap64 ((wrap64 (2 + (wrap64 ((wrap64 (rd x134000_4 0)) * 256)))) + (wrap64 (rd x134000_4 1))))
                     ·
                      rw [if_pos c83] at H
                      have c83b0 := eq_true c83
                      try (have c83b0q := c83b0; rw [hszn_ji11] at c83b0q)
                      have c83b1 : decide (2 ≤ (wrap64 ((wrap64 (2 + (wrap64 ((wrap64 (rd x134000_4 0)) * 256)))) + (wrap64 (rd x134000_4 1))))) = true := decide_eq_true c83
                      by_cases c84 : (wrap64 ((wrap64 (2 + (wrap64 ((wrap64 (rd x134000_4 0)) * 256)))) + (wrap64 (rd x134000_4 1)))) ≤ (x134000_4.length : Int)
                      ·
                       rw [if_pos c84] at H
                       have c84b0 := eq_true c84
                       try (have c84b0q := c84b0; rw [hszn_ji11] at c84b0q)
                       have c84b1 : decide ((wrap64 ((wrap64 (2 + (wrap64 ((wrap64 (rd x134000_4 0)) * 256)))) + (wrap64 (rd x134000_4 1)))) ≤ (x134000_4.length : Int)) = true := decide_eq_true c84
                       obtain ⟨y140, hy140⟩ : ∃ y_ : List Int, y_ = ((x134000_4.take ((wrap64 ((wrap64 (2 + (wrap64 ((wrap64 (rd x134000_4 0)) * 256)))) + (wrap64 (rd x134000_4 1)))) : Int).toNat).drop 2) := ⟨_, rfl⟩
                       replace H : (if 0 ≤ (wrap64 ((wrap64 (2 + (wrap64 ((wrap64 (rd x134000_4 0)) * 256)))) + (wrap64 (rd x134000_4 1)))) then (rhynelaw23_DoqBack.l2 k4 (wrap64 (1 + (wrap64 (Int.tmod (IntKind.u64.wrap (a1)) 500)))) (x5_3.extract ((ji43) : Int).toNat x5_3.size) x6_1 (wrap64 (x12_4 + 1)) (strOfNums y140) true (x134000_4.drop ((wrap64 ((wrap64 (2 + (wrap64 ((wrap64 (rd x134000_4 0)) * 256)))) + (wrap64 (rd x134000_4 1)))) : Int).toNat) false) else (none)) = some r := by first | (rw [hy140]; with_reducible exact H) | (have H2_ := (Option.bind_some _ _).symm.trans H; rw [hy140]; with_reducible exact H2_) | (have H2_ := (Option.bind_some _ _).symm.trans H; with_reducible exact H2_) | with_reducible exact H | (rw [hy140]; exact H) | exact H
                       have Ny140 := Aside0.mk hy140
                       clear hy140
                       obtain ⟨ji85, hji85⟩ : ∃ j_ : Int, (wrap64 ((wrap64 (2 + (wrap64 ((wrap64 (rd x134000_4 0)) * 256)))) + (wrap64 (rd x134000_4 1)))) = j_ := ⟨_, rfl⟩
                       replace H : (if 0 ≤ (ji85) then (rhynelaw23_DoqBack.l2 k4 (wrap64 (1 + (wrap64 (Int.tmod (IntKind.u64.wrap (a1)) 500)))) (x5_3.extract ((ji43) : Int).toNat x5_3.size) x6_1 (wrap64 (x12_4 + 1)) (strOfNums y140) true (x134000_4.drop ((ji85) : Int).toNat) false) else (none)) = some r := by first | (rw [hji85] at H; exact H) | (simp only [hji85] at H ⊢; exact H)
                       (try rw [hji85] at c75b0)
                       (try rw [hji85] at c75b1)
                       (try rw [hji85] at c79b0)
                       (try rw [hji85] at c83b0)
                       (try rw [hji85] at c83b1)
                       (try rw [hji85] at c83)
                       (try rw [hji85] at c84b0)
                       (try rw [hji85] at c84b1)
                       (try rw [hji85] at c84)
                       (try rw [hji85] at Ny140)
                       (try rw [hji85] at Ny140)
                       have hji85w : (IntKind.i64.wrap ((wrap64 (2 + (wrap64 ((wrap64 (rd x134000_4 0)) * 256)))) + (wrap64 (rd x134000_4 1)))) = ji85 := (i64_w _).trans hji85
                       by_cases c86 : 0 ≤ (ji85)
                       ·
                        rw [if_pos c86] at H
                        have c86b0 := eq_true c86
                        try (have c86b0q := c86b0; rw [hszn_ji11] at c86b0q)
                        have c86b1 : decide (0 ≤ (ji85)) = true := decide_eq_true c86
                        clear c86
                        have c87b0 := eq_true (of_decide_eq_true (by first | (with_reducible assumption) | assumption) : (ji85) ≤ (x134000_4.length : Int))
                        obtain ⟨y144, hy144⟩ : ∃ y_ : List Int, y_ = (x134000_4.drop ((ji85) : Int).toNat) := ⟨_, rfl⟩
                        replace H : (rhynelaw23_DoqBack.l2 k4 (wrap64 (1 + (wrap64 (Int.tmod (IntKind.u64.wrap (a1)) 500)))) (x5_3.extract ((ji43) : Int).toNat x5_3.size) x6_1 (wrap64 (x12_4 + 1)) (strOfNums y140) true y144 false) = some r := by first | (rw [hy144]; with_reducible exact H) | (have H2_ := (Option.bind_some _ _).symm.trans H; rw [hy144]; with_reducible exact H2_) | (have H2_ := (Option.bind_some _ _).symm.trans H; with_reducible exact H2_) | with_reducible exact H | (rw [hy144]; exact H) | exact H
                        have Ny144 := Aside0.mk hy144
                        clear hy144
                        have H' := Aside0.mk H
                        clear H
                        obtain ⟨Ao88, co88, eo88⟩ := Kd.R_slice HO_6.out
                        subst eo88
                        have p137 : 0 ≤ (x12_4 : Int) := of_decide_eq_true (by first | (with_reducible assumption) | assumption)
                        have q137 : x12_4 < (x6_1.length : Int) := of_decide_eq_true (by first | (with_reducible assumption) | assumption)
                        obtain ⟨ad137, e137, hx137_0⟩ := Kd.at_string (Kd.R_reads' HO_6.out).2.2 x12_4 p137 q137
                        cases e137
                        replace p137 := eq_true p137
                        replace q137 := eq_true q137
                        have hcz89_0 : wr.cell? ⟨gb133, 0, none⟩ = some (u134000) := (blk_cell BK133.out 0).trans rfl
                        have hcz89_1 : wr.cell? ⟨gb133, 1, none⟩ = some (.bool false) := (blk_cell BK133.out 1).trans rfl
                        have hfz89_0 := blk_frozen BK133.out 0
                        have hfz89_1 := blk_frozen BK133.out 1
                        obtain ⟨Ao90, co90, eo90, _⟩ := Kd.Q_slice HO_134000.out
                        subst eo90
                        have p138 : 0 ≤ (0 : Int) := (by omega)
                        have q138 : 0 < (x134000_4.length : Int) := of_decide_eq_true (by first | (with_reducible assumption) | assumption)
                        obtain ⟨ad138, e138, hx138_0⟩ := Kd.at_int (Kd.Q_reads' HO_134000.out).2.2 0 p138 q138
                        cases e138
                        have qi138 : (0 < x134000_4.length) = True := eq_true (by omega)
                        (try rw [show ((0 : Int)).toNat = 0 from rfl] at hx138_0)
                        (try rw [Addr.add_zero'] at hx138_0)
                        replace p138 := eq_true p138
                        replace q138 := eq_true q138
                        have p139 : 0 ≤ (1 : Int) := (by omega)
                        have q139 : 1 < (x134000_4.length : Int) := of_decide_eq_true (by first | (with_reducible assumption) | assumption)
                        obtain ⟨ad139, e139, hx139_0⟩ := Kd.at_int (Kd.Q_reads' HO_134000.out).2.2 1 p139 q139
                        obtain rfl : ad138 = ad139 := (by injection e139)
                        (try simp only [show (1 : Int).toNat = 1 from rfl, Nat.reduceMul, Nat.reduceEqDiff, Go.Addr.add, ↓reduceIte] at hx139_0)
                        have qi139 : (1 < x134000_4.length) = True := eq_true (by omega)
                        (try rw [show ((1 : Int)).toNat = 1 from rfl] at hx139_0)
                        replace p139 := eq_true p139
                        replace q139 := eq_true q139
                        have q91 : ((ji85) : Int) ≤ ((x134000_4.length : Int) : Int) := of_decide_eq_true (by first | (with_reducible assumption) | assumption)
                        obtain ⟨i091, hi091, _, hsz91, _⟩ := info_parts info5
                        have hroom91 : x134000_4.length ≤ co90 := (Kd.Q_reads' HO_134000.out).2.1
                        have hC91 : Kd.C (Kd.int .u8) _ (some ad138) x134000_4.length x134000_4 := (Kd.Q_reads' HO_134000.out).2.2
                        have ql91 : (2 : Int) ≤ ((ji85) : Int) := of_decide_eq_true (by first | (with_reducible assumption) | assumption)
                        have hcut91 := cut_mid (P := Try.prog) 23 5 .i64 .i64 Try.underlying23 hi091 1 hsz91 (some ad138) x134000_4.length co90 2 (ji85) (by omega) ql91 q91 hroom91
                        have hr91 := Kd.C_mid (lo := (2 : Int).toNat) (hi := ((ji85) : Int).toNat) (c := co90) hC91 (by omega) (by omega) hroom91
                        obtain ⟨A91, hA91⟩ : ∃ A1, A1 = (if co90 = (2 : Int).toNat then (some ad138) else ((some ad138) : Option Addr).map (·.add ((2 : Int).toNat * 1))) := ⟨_, rfl⟩
                        obtain ⟨c91, hc91⟩ : ∃ c1, c1 = co90 - (2 : Int).toNat := ⟨_, rfl⟩
                        have hy91 : y140.length = ((ji85) : Int).toNat - (2 : Int).toNat := (by rw [Ny140.out, List.length_drop, List.length_take] <;> omega)
                        rw [show ((x134000_4).take ((ji85) : Int).toNat).drop (2 : Int).toNat = y140 from Ny140.out.symm] at hr91
                        replace hr91 : Kd.C (Kd.int .u8) _ A91 y140.length y140 := (by rw [hA91]; exact hr91)
                        rw [← hy91, ← hA91, ← hc91] at hcut91
                        have HR143 := Aside0.mk hr91
                        have HC143 := Aside0.mk (show y140.length ≤ c91 from by rw [hy91, hc91]; exact Nat.sub_le_sub_right (Nat.le_trans (by omega) hroom91) _)
                        clear hr91 hC91 hroom91 hi091 hsz91 hc91
                        have KY91 := Aside0.mk hy91
                        have KA91 := Aside0.mk hA91
                        clear hy91 hA91
                        have KL91 := Aside0.mk (show ((ji85) : Int).toNat ≤ x134000_4.length from by omega)
                        have KM91 := Aside0.mk (show 2 ≤ ((ji85) : Int).toNat from by omega)
                        replace q91 := eq_true q91
                        have hcv92 := Kd.C_string (P := Try.prog) (A := A91) (c := c91) Try.underlying23 Try.underlying5 Try.underlying9 (by repeat (first | (with_reducible exact HR143.out) | (with_reducible refine Kd.C_alloc ?_ _) | (with_reducible refine Kd.C_drewN ?_ _) | (with_reducible refine Kd.C_drew ?_) | exact HR143.out))
                        have hcv93 := fun m_ : Nat => Kd.C_string (P := Try.prog) (A := A91) (c := c91) Try.underlying23 Try.underlying5 Try.underlying9 (Kd.C_drewN (by repeat (first | (with_reducible exact HR143.out) | (with_reducible refine Kd.C_alloc ?_ _) | (with_reducible refine Kd.C_drewN ?_ _) | (with_reducible refine Kd.C_drew ?_) | exact HR143.out)) m_)
                        have q94 : ((ji85) : Int) ≤ ((x134000_4.length : Int) : Int) := of_decide_eq_true (by first | (with_reducible assumption) | assumption)
                        obtain ⟨i094, hi094, _, hsz94, _⟩ := info_parts info5
                        have hcut94 := cut_from (P := Try.prog) 23 5 .i64 Try.underlying23 hi094 1 hsz94 (some ad138) x134000_4.length co90 (ji85) (of_decide_eq_true (by first | (with_reducible assumption) | assumption)) q94
                        have hr94 := Kd.Q_drop (k := ((ji85) : Int).toNat) HO_134000.out (by omega)
                        obtain ⟨A94, hA94⟩ : ∃ A1, A1 = (if co90 = ((ji85) : Int).toNat then (some ad138) else ((some ad138) : Option Addr).map (·.add (((ji85) : Int).toNat * 1))) := ⟨_, rfl⟩
                        obtain ⟨c94, hc94⟩ : ∃ c1, c1 = co90 - ((ji85) : Int).toNat := ⟨_, rfl⟩
                        have hy94 : y144.length = x134000_4.length - ((ji85) : Int).toNat := (by rw [Ny144.out, List.length_drop])
                        rw [← Ny144.out] at hr94
                        rw [← hy94, ← hA94, ← hc94] at hcut94
                        replace hr94 : Kd.Q (Kd.int .u8) 5 wr w.heap.size (fun _ => True) (.slice A94 y144.length c94) y144 := (by rw [hA94, hc94, hy94]; exact hr94)
                        have HE94 : Aside0 ((Value.slice A94 y144.length c94).ownBlock = (.slice (some ad138) x134000_4.length co90 : Value).ownBlock) := ⟨by rw [hA94]; split <;> (first | rfl | (simp [Value.ownBlock, add_block]))⟩
                        clear hy94 hi094 hsz94 HO_134000 hA94 hc94
                        have HO146 := Aside0.mk hr94
                        clear hr94
                        replace q94 := eq_true q94
                        go_wp2_with (first | ((go_at_call 6; go_in)))
                        repeat (go_quiet (fail); try go_wp2_with (first | ((go_at_call 6; go_in))))
                        go_roundg k4
                        case measure => have := HK1.out; have := HJ5.out; have := HK3.out; have := HK4.out; omega
                        case rel => exact ⟨(wrap64 (x12_4 + 1)), (strOfNums y140), (true), (y144), (.slice A94 y144.length c94), (by first | rfl | (simp; done) | (simp [*]; done)), (by first | rfl | (simp; done) | (simp [*]; done)), (by first | rfl | (simp; done) | (simp [*]; done)), H', ⟨by have := HK1.out; have := HJ5.out; have := HK3.out; have := HK4.out; omega⟩, ⟨by (with_reducible repeat (first | apply Kd.R_alloc | apply Kd.R_drewN | apply Kd.R_drew)); exact Kd.R_mono (Kd.R_far (p := ⟨gb133, 0, none⟩) (Kd.R_types HO_6.out BK133.out (by decide)) (fun _ hk => hk.2) (.slice A94 y144.length c94)) (fun _ hk => trivial)⟩, ⟨by (with_reducible repeat (first | apply Kd.Q_alloc | apply Kd.Q_drewN | apply Kd.Q_drew)); exact Kd.Q_mono (Kd.Q_far (p := ⟨gb133, 0, none⟩) (Kd.Q_types HO146.out BK133.out (by decide)) (fun _ hk => hk.2) (.slice A94 y144.length c94)) (fun _ hk => trivial)⟩, ⟨by (with_reducible repeat (first | refine blk_drewN ?_ _ | refine blk_drew ?_ | refine blk_alloc ?_ _)); refine blk_put (cs := #[.slice (some ad138) x134000_4.length co90, .bool false]) ?_ 0 _ rfl; (with_reducible repeat (first | refine blk_drewN ?_ _ | refine blk_drew ?_ | refine blk_alloc ?_ _)); exact BK133.out⟩, ⟨by repeat (first | (with_reducible first | exact HB.out | apply below_alloc | apply pw_below_drewN | apply below_drew1 | refine below_set ?_ GE133.out) | exact HB.out)⟩⟩
                       rw [if_neg c86] at H
                       exact absurd H (by simp)
                      rw [if_neg c84] at H
                      exact absurd H (by simp)
                     rw [if_neg c83] at H
                     exact absurd H (by simp)
                    rw [if_neg c74] at H
                    exact absurd H (by simp)
                   rw [if_neg c73] at H
                   exact absurd H (by simp)
                  rw [if_neg c68] at H
                  have c68b0 : (x14_4.toList == (rdOf ByteArray.empty x6_1 x12_4).toList) = false := beq_eq_false_iff_ne.mpr c68
                  have c68b1 : (x14_4.toList != (rdOf ByteArray.empty x6_1 x12_4).toList) = true := bne_iff_ne.mpr c68
                  obtain rfl := Option.some.inj H
                  obtain ⟨Ao95, co95, eo95⟩ := Kd.R_slice HO_6.out
                  subst eo95
                  have p137 : 0 ≤ (x12_4 : Int) := of_decide_eq_true (by first | (with_reducible assumption) | assumption)
                  have q137 : x12_4 < (x6_1.length : Int) := of_decide_eq_true (by first | (with_reducible assumption) | assumption)
                  obtain ⟨ad137, e137, hx137_0⟩ := Kd.at_string (Kd.R_reads' HO_6.out).2.2 x12_4 p137 q137
                  cases e137
                  replace p137 := eq_true p137
                  replace q137 := eq_true q137
                  go_wp2
                  repeat (go_quiet (fail); try go_wp2)
                  go_ret
                  exact ⟨by first | rfl | (simp [errW_none, errW_some] <;> rfl) | (simp only [← hji43]; first | rfl | (simp [errW_none, errW_some] <;> rfl)) | (simp [*, errW_none, errW_some] <;> rfl), by repeat (first | (with_reducible first | exact HB.out | apply below_alloc | apply pw_below_drewN | apply below_drew1 | refine below_set ?_ GE133.out) | exact HB.out)⟩
                 rw [if_neg c67] at H
                 exact absurd H (by simp)
                rw [if_neg c66] at H
                exact absurd H (by simp)
               replace c63 := Bool.eq_false_iff.mpr c63
               subst c63
               have H1 : (rhynelaw23_DoqBack.l1 k4 (wrap64 (1 + (wrap64 (Int.tmod (IntKind.u64.wrap (a1)) 500)))) (x5_3.extract ((ji43) : Int).toNat x5_3.size) x6_1 x12_4 x134000_4 false) = some r := by rw [if_neg (show ¬ (false = true) by decide)] at H; exact H
               clear H
               have H := H1
               clear H1
               have H' := Aside0.mk H
               clear H
               go_wp2
               repeat (go_quiet (fail); try go_wp2)
               go_roundg k4
               case measure => have := HK1.out; have := HJ5.out; have := HK3.out; have := HK4.out; omega
               case rel => exact ⟨((x5_3.extract ((ji43) : Int).toNat x5_3.size)), (x12_4), (x134000_4), (u134000), (by first | rfl | (simp; done) | (simp only [← hji43] <;> (first | rfl | simp)) | (simp [*]; done)), (by first | rfl | (simp; done) | (simp [*]; done)), H', ⟨by have := HK1.out; have := HJ5.out; have := HK3.out; have := HK4.out; omega⟩, ⟨by (with_reducible repeat (first | apply Kd.R_alloc | apply Kd.R_drewN | apply Kd.R_drew)); exact HO_6.out⟩, ⟨by (with_reducible repeat (first | apply Kd.Q_alloc | apply Kd.Q_drewN | apply Kd.Q_drew)); exact HO_134000.out⟩, ⟨by (with_reducible repeat (first | refine blk_drewN ?_ _ | refine blk_drew ?_ | refine blk_alloc ?_ _)); exact BK133.out⟩, ⟨by repeat (first | (with_reducible first | exact HB.out | apply below_alloc | apply pw_below_drewN | apply below_drew1 | refine below_set ?_ GE133.out) | exact HB.out)⟩⟩
            rw [if_neg c57] at H
            have c57b0 : decide ((y134.length : Int) < 2) = false := decide_eq_false c57
            have c57b1 : decide (y134.length < 2) = false := decide_eq_false (by omega)
            clear c57
            by_cases c96 : 0 < (y134.length : Int)
            ·
             rw [if_pos c96] at H
             have c96b0 : decide (0 < (y134.length : Int)) = true := decide_eq_true c96
             have c96b1 : decide (0 < y134.length) = true := decide_eq_true (by omega)
             clear c96
             by_cases c97 : 1 < (y134.length : Int)
             ·
              rw [if_pos c97] at H
              have c97b0 : decide (1 < (y134.length : Int)) = true := decide_eq_true c97
              have c97b1 : decide (1 < y134.length) = true := decide_eq_true (by omega)
              clear c97
              by_cases c98 : (wrap64 ((wrap64 (2 + (wrap64 ((wrap64 (rd y134 0)) * 256)))) + (wrap64 (rd y134 1)))) = 2
              ·
               rw [if_pos c98] at H
               have c98b0 : ((wrap64 ((wrap64 (2 + (wrap64 ((wrap64 (rd y134 0)) * 256)))) + (wrap64 (rd y134 1)))) == 2) = true := beq_iff_eq.mpr c98
               have c98b1 : ((wrap64 ((wrap64 (2 + (wrap64 ((wrap64 (rd y134 0)) * 256)))) + (wrap64 (rd y134 1)))) != 2) = false := bne_eq_false_iff_eq.mpr c98
               clear c98
               have H' := Aside0.mk H
               clear H
               have hcz99_0 : wr.cell? ⟨gb133, 0, none⟩ = some (u134000) := (blk_cell BK133.out 0).trans rfl
               have hcz99_1 : wr.cell? ⟨gb133, 1, none⟩ = some (.bool false) := (blk_cell BK133.out 1).trans rfl
               have hfz99_0 := blk_frozen BK133.out 0
               have hfz99_1 := blk_frozen BK133.out 1
               obtain ⟨Ao100, co100, eo100, _⟩ := Kd.Q_slice HO_134000.out
               subst eo100
               go_wp2_with (first | ((go_at_call 8; go_in)) | (at_builtin; refine str_appendQ (w0 := w) w.heap.size rfl (.tmp 27) _ 23 9 5 rfl Try.underlying23 Try.underlying9 info5 (.slice Ao100 x134000_3.length co100) x134000_3 (x5_3.extract 0 ((ji43) : Int).toNat) (fun _ => True) rfl rfl ?aF ?aO ?aB ?aS ?aL ?_; (case aB => exact (by repeat (first | (with_reducible first | exact HB.out | apply below_alloc | apply pw_below_drewN | apply below_drew1 | refine below_set ?_ GE133.out) | exact HB.out))); (case aF => exact (fun _ _ => trivial)); (case aO => exact (by (with_reducible repeat (first | apply Kd.Q_alloc | apply Kd.Q_drewN | apply Kd.Q_drew)); exact HO_134000.out)); (case aS => exact (below_size (by repeat (first | (with_reducible first | exact HB.out | apply below_alloc | apply pw_below_drewN | apply below_drew1 | refine below_set ?_ GE133.out) | exact HB.out)))); (case aL => have := LMc53.out; first | omega | exact Nat.le_of_lt this); intro v135 w101 ho hb hg hat; rw [← Ny134.out] at ho; change Kd.Q (Kd.int .u8) 5 w101 w.heap.size (fun _ => True) v135 y134 at ho; have n0_ := Aside0.mk (Kd.R_over' (by (with_reducible repeat (first | apply Kd.R_alloc | apply Kd.R_drewN | apply Kd.R_drew)); exact HO_6.out) (Kd.Q_typed (by (with_reducible repeat (first | apply Kd.Q_alloc | apply Kd.Q_drewN | apply Kd.Q_drew)); exact HO_134000.out)) (by decide) hg); have n1_ := Aside0.mk (blk_grown (g := gb133) (o := .cells #[.slice Ao100 x134000_3.length co100, .bool false] 37 (0, 0)) (by (with_reducible repeat (first | refine blk_drewN ?_ _ | refine blk_drew ?_ | refine blk_alloc ?_ _)); exact BK133.out) hg (Kd.Q_ne HO_134000.out BK133.out (by decide))); have n2_ := Aside0.mk (hb); have n3_ := Aside0.mk (ho); clear HO_6; clear BK133; clear HB; clear HO_134000; have HO_6 := n0_; have BK133 := n1_; have HB := n2_; have HO136 := n3_; clear n0_ n1_ n2_ n3_; clear ho hb hg hat; obtain ⟨Ao102, co102, eo102, _⟩ := Kd.Q_slice HO136.out; subst eo102; have hcz103_0 : w101.cell? ⟨gb133, 0, none⟩ = some (.slice Ao100 x134000_3.length co100) := (blk_cell BK133.out 0).trans rfl; have hcz103_1 : w101.cell? ⟨gb133, 1, none⟩ = some (.bool false) := (blk_cell BK133.out 1).trans rfl; have hfz103_0 := blk_frozen BK133.out 0; have hfz103_1 := blk_frozen BK133.out 1; have p147 : 0 ≤ (0 : Int) := (by omega); have q147 : 0 < (y134.length : Int) := of_decide_eq_true (by first | (with_reducible assumption) | assumption); obtain ⟨ad147, e147, hx147_0⟩ := Kd.at_int (Kd.Q_reads' HO136.out).2.2 0 p147 q147; cases e147; have qi147 : (0 < y134.length) = True := eq_true (by omega); (try rw [show ((0 : Int)).toNat = 0 from rfl] at hx147_0); (try rw [Addr.add_zero'] at hx147_0); have hn147_0 : ad147.block ≠ gb133 := Kd.own_blk (Kd.Q_ne HO136.out BK133.out (by decide)); replace hx147_0 := (cell_far (p := ⟨gb133, 0, none⟩) (by first | (rw [add_block]; exact hn147_0) | (show (Addr.add _ _).block ≠ _; rw [add_block]; exact hn147_0) | exact hn147_0) (.slice (some ad147) y134.length co102)).trans hx147_0; (try have hy147_0 := fun (n_ : Nat) => (show (((w101.drewN n_).setCell ⟨gb133, 0, none⟩ (.slice (some ad147) y134.length co102))).cell? _ = some _ from hx147_0)); clear hn147_0; replace p147 := eq_true p147; replace q147 := eq_true q147; have p148 : 0 ≤ (1 : Int) := (by omega); have q148 : 1 < (y134.length : Int) := of_decide_eq_true (by first | (with_reducible assumption) | assumption); obtain ⟨ad148, e148, hx148_0⟩ := Kd.at_int (Kd.Q_reads' HO136.out).2.2 1 p148 q148; obtain rfl : ad147 = ad148 := (by injection e148); (try simp only [show (1 : Int).toNat = 1 from rfl, Nat.reduceMul, Nat.reduceEqDiff, Go.Addr.add, ↓reduceIte] at hx148_0); have qi148 : (1 < y134.length) = True := eq_true (by omega); (try rw [show ((1 : Int)).toNat = 1 from rfl] at hx148_0); have hn148_0 : ad147.block ≠ gb133 := Kd.own_blk (Kd.Q_ne HO136.out BK133.out (by decide)); replace hx148_0 := (cell_far (p := ⟨gb133, 0, none⟩) (by first | (rw [add_block]; exact hn148_0) | (show (Addr.add _ _).block ≠ _; rw [add_block]; exact hn148_0) | exact hn148_0) (.slice (some ad147) y134.length co102)).trans hx148_0; (try have hy148_0 := fun (n_ : Nat) => (show (((w101.drewN n_).setCell ⟨gb133, 0, none⟩ (.slice (some ad147) y134.length co102))).cell? _ = some _ from hx148_0)); clear hn148_0; replace p148 := eq_true p148; replace q148 := eq_true q148) | ((go_at_call 6; go_in)))
               repeat (go_quiet (fail); try go_wp2_with (first | ((go_at_call 8; go_in)) | (at_builtin; refine str_appendQ (w0 := w) w.heap.size rfl (.tmp 27) _ 23 9 5 rfl Try.underlying23 Try.underlying9 info5 (.slice Ao100 x134000_3.length co100) x134000_3 (x5_3.extract 0 ((ji43) : Int).toNat) (fun _ => True) rfl rfl ?aF ?aO ?aB ?aS ?aL ?_; (case aB => exact (by repeat (first | (with_reducible first | exact HB.out | apply below_alloc | apply pw_below_drewN | apply below_drew1 | refine below_set ?_ GE133.out) | exact HB.out))); (case aF => exact (fun _ _ => trivial)); (case aO => exact (by (with_reducible repeat (first | apply Kd.Q_alloc | apply Kd.Q_drewN | apply Kd.Q_drew)); exact HO_134000.out)); (case aS => exact (below_size (by repeat (first | (with_reducible first | exact HB.out | apply below_alloc | apply pw_below_drewN | apply below_drew1 | refine below_set ?_ GE133.out) | exact HB.out)))); (case aL => have := LMc53.out; first | omega | exact Nat.le_of_lt this); intro v135 w101 ho hb hg hat; rw [← Ny134.out] at ho; change Kd.Q (Kd.int .u8) 5 w101 w.heap.size (fun _ => True) v135 y134 at ho; have n0_ := Aside0.mk (Kd.R_over' (by (with_reducible repeat (first | apply Kd.R_alloc | apply Kd.R_drewN | apply Kd.R_drew)); exact HO_6.out) (Kd.Q_typed (by (with_reducible repeat (first | apply Kd.Q_alloc | apply Kd.Q_drewN | apply Kd.Q_drew)); exact HO_134000.out)) (by decide) hg); have n1_ := Aside0.mk (blk_grown (g := gb133) (o := .cells #[.slice Ao100 x134000_3.length co100, .bool false] 37 (0, 0)) (by (with_reducible repeat (first | refine blk_drewN ?_ _ | refine blk_drew ?_ | refine blk_alloc ?_ _)); exact BK133.out) hg (Kd.Q_ne HO_134000.out BK133.out (by decide))); have n2_ := Aside0.mk (hb); have n3_ := Aside0.mk (ho); clear HO_6; clear BK133; clear HB; clear HO_134000; have HO_6 := n0_; have BK133 := n1_; have HB := n2_; have HO136 := n3_; clear n0_ n1_ n2_ n3_; clear ho hb hg hat; obtain ⟨Ao102, co102, eo102, _⟩ := Kd.Q_slice HO136.out; subst eo102; have hcz103_0 : w101.cell? ⟨gb133, 0, none⟩ = some (.slice Ao100 x134000_3.length co100) := (blk_cell BK133.out 0).trans rfl; have hcz103_1 : w101.cell? ⟨gb133, 1, none⟩ = some (.bool false) := (blk_cell BK133.out 1).trans rfl; have hfz103_0 := blk_frozen BK133.out 0; have hfz103_1 := blk_frozen BK133.out 1; have p147 : 0 ≤ (0 : Int) := (by omega); have q147 : 0 < (y134.length : Int) := of_decide_eq_true (by first | (with_reducible assumption) | assumption); obtain ⟨ad147, e147, hx147_0⟩ := Kd.at_int (Kd.Q_reads' HO136.out).2.2 0 p147 q147; cases e147; have qi147 : (0 < y134.length) = True := eq_true (by omega); (try rw [show ((0 : Int)).toNat = 0 from rfl] at hx147_0); (try rw [Addr.add_zero'] at hx147_0); have hn147_0 : ad147.block ≠ gb133 := Kd.own_blk (Kd.Q_ne HO136.out BK133.out (by decide)); replace hx147_0 := (cell_far (p := ⟨gb133, 0, none⟩) (by first | (rw [add_block]; exact hn147_0) | (show (Addr.add _ _).block ≠ _; rw [add_block]; exact hn147_0) | exact hn147_0) (.slice (some ad147) y134.length co102)).trans hx147_0; (try have hy147_0 := fun (n_ : Nat) => (show (((w101.drewN n_).setCell ⟨gb133, 0, none⟩ (.slice (some ad147) y134.length co102))).cell? _ = some _ from hx147_0)); clear hn147_0; replace p147 := eq_true p147; replace q147 := eq_true q147; have p148 : 0 ≤ (1 : Int) := (by omega); have q148 : 1 < (y134.length : Int) := of_decide_eq_true (by first | (with_reducible assumption) | assumption); obtain ⟨ad148, e148, hx148_0⟩ := Kd.at_int (Kd.Q_reads' HO136.out).2.2 1 p148 q148; obtain rfl : ad147 = ad148 := (by injection e148); (try simp only [show (1 : Int).toNat = 1 from rfl, Nat.reduceMul, Nat.reduceEqDiff, Go.Addr.add, ↓reduceIte] at hx148_0); have qi148 : (1 < y134.length) = True := eq_true (by omega); (try rw [show ((1 : Int)).toNat = 1 from rfl] at hx148_0); have hn148_0 : ad147.block ≠ gb133 := Kd.own_blk (Kd.Q_ne HO136.out BK133.out (by decide)); replace hx148_0 := (cell_far (p := ⟨gb133, 0, none⟩) (by first | (rw [add_block]; exact hn148_0) | (show (Addr.add _ _).block ≠ _; rw [add_block]; exact hn148_0) | exact hn148_0) (.slice (some ad147) y134.length co102)).trans hx148_0; (try have hy148_0 := fun (n_ : Nat) => (show (((w101.drewN n_).setCell ⟨gb133, 0, none⟩ (.slice (some ad147) y134.length co102))).cell? _ = some _ from hx148_0)); clear hn148_0; replace p148 := eq_true p148; replace q148 := eq_true q148) | ((go_at_call 6; go_in))))
               go_loopg [12, 14, 15] k3 (fun kq v12 v14 v15 w' => ∃ (x12_4 : Int) (x14_4 : ByteArray) (x15_4 : Bool) (x134000_4 : List Int) (u134000 : Value), v12 = .int .i64 x12_4 ∧ v14 = .string x14_4 ∧ v15 = .bool x15_4 ∧ Aside0 (rhynelaw23_DoqBack.l2 kq (wrap64 (1 + (wrap64 (Int.tmod (IntKind.u64.wrap (a1)) 500)))) (x5_3.extract ((ji43) : Int).toNat x5_3.size) x6_1 x12_4 x14_4 x15_4 x134000_4 false = some r) ∧ Aside0 (kq ≤ k3) ∧ Aside0 (Kd.R Kd.string 9 w' w.heap.size (fun _ => True) u6 x6_1) ∧ Aside0 (Kd.Q (Kd.int .u8) 5 w' w.heap.size (fun _ => True) u134000 x134000_4) ∧ Aside0 (w'.heap[gb133]? = some (.cells #[u134000, .bool false] 37 (0, 0))) ∧ Aside0 (Below w.heap.size w w'))
               case atStart => exact ⟨(x12_3), ((⟨#[]⟩ : ByteArray)), (false), (y134), (.slice (some ad147) y134.length co102), (by first | rfl | (simp; done) | (simp [*]; done)), (by first | rfl | (simp; done) | (simp [*]; done)), (by first | rfl | (simp; done) | (simp [*]; done)), H', ⟨Nat.le_refl _⟩, ⟨by (with_reducible repeat (first | apply Kd.R_alloc | apply Kd.R_drewN | apply Kd.R_drew)); exact Kd.R_mono (Kd.R_far (p := ⟨gb133, 0, none⟩) (Kd.R_types HO_6.out BK133.out (by decide)) (fun _ hk => hk.2) (.slice (some ad147) y134.length co102)) (fun _ hk => trivial)⟩, ⟨by (with_reducible repeat (first | apply Kd.Q_alloc | apply Kd.Q_drewN | apply Kd.Q_drew)); exact Kd.Q_mono (Kd.Q_far (p := ⟨gb133, 0, none⟩) (Kd.Q_types HO136.out BK133.out (by decide)) (fun _ hk => hk.2) (.slice (some ad147) y134.length co102)) (fun _ hk => trivial)⟩, ⟨by (with_reducible repeat (first | refine blk_drewN ?_ _ | refine blk_drew ?_ | refine blk_alloc ?_ _)); refine blk_put (cs := #[.slice Ao100 x134000_3.length co100, .bool false]) ?_ 0 _ rfl; (with_reducible repeat (first | refine blk_drewN ?_ _ | refine blk_drew ?_ | refine blk_alloc ?_ _)); exact BK133.out⟩, ⟨by repeat (first | (with_reducible first | exact HB.out | apply below_alloc | apply pw_below_drewN | apply below_drew1 | refine below_set ?_ GE133.out) | exact HB.out)⟩⟩
               case round => as_aux_lemma =>
                clear H'
                (try clear c1); (try clear p1); (try clear q1); (try clear hx1); (try clear qi1); (try clear p2); (try clear hcv2); (try clear c3); (try clear c4); (try clear c5); (try clear c6); (try clear p6); (try clear c7); (try clear c7b0); (try clear c8); (try clear c9); (try clear c9b0); (try clear q9); (try clear hcv9); (try clear c10); (try clear c10b0); (try clear c12); (try clear c12b0); (try clear c12b1); (try clear p12); (try clear q12); (try clear hx12); (try clear c13); (try clear c13b0); (try clear c13b1); (try clear p13); (try clear q13); (try clear hx13); (try clear qi13); (try clear c14); (try clear c14b0); (try clear c14b1); (try clear c14b2); (try clear p14); (try clear q14); (try clear hx14); (try clear qi14); (try clear c16); (try clear c16b0); (try clear c16b1); (try clear c17); (try clear c17b0); (try clear c17b1); (try clear c17b2); (try clear c18); (try clear hcv23); (try clear hcv24); (try clear c31); (try clear c31b0); (try clear c31b1); (try clear c32); (try clear c32b0); (try clear c32b1); (try clear c33); (try clear c33b0); (try clear c33b1); (try clear c34); (try clear c34b0); (try clear c34b1); (try clear c38); (try clear c38b0); (try clear c38b1); (try clear c44); (try clear c44b0); (try clear c44b1); (try clear c45); (try clear c45b0); (try clear c45b1); (try clear c46); (try clear c47); (try clear c47b0); (try clear c47b1); (try clear c49); (try clear c49b0); (try clear c50); (try clear c50b0); (try clear c50b1); (try clear c53); (try clear c54); (try clear c54b0); (try clear c54b1); (try clear c55); (try clear c55b0); (try clear c56); (try clear c56b0); (try clear c57); (try clear c57b0); (try clear c57b1); (try clear c63); (try clear c64); (try clear c64b0); (try clear p64); (try clear c66); (try clear c66b0); (try clear c67); (try clear c67b0); (try clear c68); (try clear c68b0); (try clear c68b1); (try clear c69); (try clear c69b0); (try clear c69b1); (try clear c73); (try clear c73b0); (try clear c73b1); (try clear c74); (try clear c74b0); (try clear c74b1); (try clear c75); (try clear c75b0); (try clear c75b1); (try clear c79); (try clear c79b0); (try clear c83); (try clear c83b0); (try clear c83b1); (try clear c84); (try clear c84b0); (try clear c84b1); (try clear c86); (try clear c86b0); (try clear c86b1); (try clear c87); (try clear c87b0); (try clear c91); (try clear q91); (try clear hcv92); (try clear hcv93); (try clear c94); (try clear q94); (try clear c96); (try clear c96b0); (try clear c96b1); (try clear c97); (try clear c97b0); (try clear c97b1); (try clear c98); (try clear c98b0); (try clear c98b1); (try clear hcz103_0); (try clear hcz103_1); (try clear hcz36_0); (try clear hcz36_1); (try clear hcz40_0); (try clear hcz40_1); (try clear hcz48_0); (try clear hcz48_1); (try clear hcz51_0); (try clear hcz51_1); (try clear hcz58_0); (try clear hcz58_1); (try clear hcz62_0); (try clear hcz62_1); (try clear hcz71_0); (try clear hcz71_1); (try clear hcz77_0); (try clear hcz77_1); (try clear hcz81_0); (try clear hcz81_1); (try clear hcz89_0); (try clear hcz89_1); (try clear hcz99_0); (try clear hcz99_1); (try clear hfz103_0); (try clear hfz103_1); (try clear hfz36_0); (try clear hfz36_1); (try clear hfz40_0); (try clear hfz40_1); (try clear hfz48_0); (try clear hfz48_1); (try clear hfz51_0); (try clear hfz51_1); (try clear hfz58_0); (try clear hfz58_1); (try clear hfz62_0); (try clear hfz62_1); (try clear hfz71_0); (try clear hfz71_1); (try clear hfz77_0); (try clear hfz77_1); (try clear hfz81_0); (try clear hfz81_1); (try clear hfz89_0); (try clear hfz89_1); (try clear hfz99_0); (try clear hfz99_1); (try clear hx121_0); (try clear hx122_0); (try clear hx137_0); (try clear hx138_0); (try clear hx139_0); (try clear hx147_0); (try clear hx148_0); (try clear p1); (try clear p12); (try clear p121); (try clear p122); (try clear p137); (try clear p138); (try clear p139); (try clear p147); (try clear p148); (try clear p2); (try clear p6); (try clear q1); (try clear q12); (try clear q121); (try clear q122); (try clear q137); (try clear q138); (try clear q139); (try clear q147); (try clear q148); (try clear q91); (try clear q94)
                obtain ⟨x12_4, x14_4, x15_4, x134000_4, u134000, rfl, rfl, rfl, HA, HK4, HO_6, HO_134000, BK133, HB⟩ := hrel
                cases gk with
                | zero => exact absurd HA.out (by simp [rhynelaw23_DoqBack.l2])
                | succ k4 =>
                 have H := HA.out
                 clear HA
                 simp only [rhynelaw23_DoqBack.l2] at H
                 by_cases c104 : x15_4 = true
                 ·
                  subst c104
                  have H1 : (if x12_4 ≥ (x6_1.length : Int) then (some false) else (if 0 ≤ x12_4 then (if x12_4 < (x6_1.length : Int) then (if x14_4.toList = (rdOf ByteArray.empty x6_1 x12_4).toList then (if (x134000_4.length : Int) < 2 then (rhynelaw23_DoqBack.l2 k4 (wrap64 (1 + (wrap64 (Int.tmod (IntKind.u64.wrap (a1)) 500)))) (x5_3.extract ((ji43) : Int).toNat x5_3.size) x6_1 (wrap64 (x12_4 + 1)) (⟨#[]⟩ : ByteArray) false x134000_4 false) else (if 0 < (x134000_4.length : Int) then (if 1 < (x134000_4.length : Int) then (if (wrap64 ((wrap64 (2 + (wrap64 ((wrap64 (rd x134000_4 0)) * 256)))) + (wrap64 (rd x134000_4 1)))) = 2 then (rhynelaw23_DoqBack.l2 k4 (wrap64 (1 + (wrap64 (Int.tmod (IntKind.u64.wrap (a1)) 500)))) (x5_3.extract ((ji43) : Int).toNat x5_3.size) x6_1 (wrap64 (x12_4 + 1)) (⟨#[]⟩ : ByteArray) false x134000_4 false) else (if (x134000_4.length : Int) < (wrap64 ((wrap64 (2 + (wrap64 ((wrap64 (rd x134000_4 0)) * 256)))) + (wrap64 (rd x134000_4 1)))) then (rhynelaw23_DoqBack.l2 k4 (wrap64 (1 + (wrap64 (Int.tmod (IntKind.u64.wrap (a1)) 500)))) (x5_3.extract ((ji43) : Int).toNat x5_3.size) x6_1 (wrap64 (x12_4 + 1)) (⟨#[]⟩ : ByteArray) false x134000_4 false) else (if 2 ≤ (wrap64 ((wrap64 (2 + (wrap64 ((wrap64 (rd x134000_4 0)) * 256)))) + (wrap64 (rd x134000_4 1)))) then (if (wrap64 ((wrap64 (2 + (wrap64 ((wrap64 (rd x134000_4 0)) * 256)))) + (wrap64 (rd x134000_4 1)))) ≤ (x134000_4.length : Int) then (if 0 ≤ (wrap64 ((wrap64 (2 + (wrap64 ((wrap64 (rd x134000_4 0)) * 256)))) + (wrap64 (rd x134000_4 1)))) then (rhynelaw23_DoqBack.l2 k4 (wrap64 (1 + (wrap64 (Int.tmod (IntKind.u64.wrap (a1)) 500)))) (x5_3.extract ((ji43) : Int).toNat x5_3.size) x6_1 (wrap64 (x12_4 + 1)) (strOfNums ((x134000_4.take ((wrap64 ((wrap64 (2 + (wrap64 ((wrap64 (rd x134000_4 0)) * 256)))) + (wrap64 (rd x134000_4 1)))) : Int).toNat).drop 2)) true (x134000_4.drop ((wrap64 ((wrap64 (2 + (wrap64 ((wrap64 (rd x134000_4 0)) * 256)))) + (wrap64 (rd x134000_4 1)))) : Int).toNat) false) else (none)) else (none)) else (none)))) else (none)) else (none))) else (some false)) else (none)) else (none))) = some r := by rw [if_pos rfl] at H; exact H
                  clear H
                  have H := H1
                  clear H1
                  by_cases c105 : x12_4 ≥ (x6_1.length : Int)
                  ·
                   rw [if_pos c105] at H
                   have c105b0 : decide ((x6_1.length : Int) ≤ x12_4) = true := decide_eq_true c105
                   clear c105
                   obtain rfl := Option.some.inj H
                   obtain ⟨Ao106, co106, eo106⟩ := Kd.R_slice HO_6.out
                   subst eo106
                   go_wp2
                   repeat (go_quiet (fail); try go_wp2)
                   go_ret
                   exact ⟨by first | rfl | (simp [errW_none, errW_some] <;> rfl) | (simp only [← hji43]; first | rfl | (simp [errW_none, errW_some] <;> rfl)) | (simp [*, errW_none, errW_some] <;> rfl), by repeat (first | (with_reducible first | exact HB.out | apply below_alloc | apply pw_below_drewN | apply below_drew1 | refine below_set ?_ GE133.out) | exact HB.out)⟩
                  rw [if_neg c105] at H
                  have c105b0 : decide ((x6_1.length : Int) ≤ x12_4) = false := decide_eq_false c105
                  clear c105
                  by_cases c107 : 0 ≤ x12_4
                  ·
                   rw [if_pos c107] at H
                   have c107b0 : decide (0 ≤ x12_4) = true := decide_eq_true c107
                   clear c107
                   by_cases c108 : x12_4 < (x6_1.length : Int)
                   ·
                    rw [if_pos c108] at H
                    have c108b0 : decide (x12_4 < (x6_1.length : Int)) = true := decide_eq_true c108
                    clear c108
                    by_cases c109 : x14_4.toList = (rdOf ByteArray.empty x6_1 x12_4).toList
                    ·
                     rw [if_pos c109] at H
                     have c109b0 : (x14_4.toList == (rdOf ByteArray.empty x6_1 x12_4).toList) = true := beq_iff_eq.mpr c109
                     have c109b1 : (x14_4.toList != (rdOf ByteArray.empty x6_1 x12_4).toList) = false := bne_eq_false_iff_eq.mpr c109
                     clear c109
                     by_cases c110 : (x134000_4.length : Int) < 2
                     ·
                      rw [if_pos c110] at H
                      have c110b0 : decide ((x134000_4.length : Int) < 2) = true := decide_eq_true c110
                      have c110b1 : decide (x134000_4.length < 2) = true := decide_eq_true (by omega)
                      clear c110
                      have H' := Aside0.mk H
                      clear H
                      obtain ⟨Ao111, co111, eo111⟩ := Kd.R_slice HO_6.out
                      subst eo111
                      have p137 : 0 ≤ (x12_4 : Int) := of_decide_eq_true (by first | (with_reducible assumption) | assumption)
                      have q137 : x12_4 < (x6_1.length : Int) := of_decide_eq_true (by first | (with_reducible assumption) | assumption)
                      obtain ⟨ad137, e137, hx137_0⟩ := Kd.at_string (Kd.R_reads' HO_6.out).2.2 x12_4 p137 q137
                      cases e137
                      replace p137 := eq_true p137
                      replace q137 := eq_true q137
                      have hcz112_0 : wr.cell? ⟨gb133, 0, none⟩ = some (u134000) := (blk_cell BK133.out 0).trans rfl
                      have hcz112_1 : wr.cell? ⟨gb133, 1, none⟩ = some (.bool false) := (blk_cell BK133.out 1).trans rfl
                      have hfz112_0 := blk_frozen BK133.out 0
                      have hfz112_1 := blk_frozen BK133.out 1
                      obtain ⟨Ao113, co113, eo113, _⟩ := Kd.Q_slice HO_134000.out
                      subst eo113
                      go_wp2_with (first | ((go_at_call 6; go_in)))
                      repeat (go_quiet (fail); try go_wp2_with (first | ((go_at_call 6; go_in))))
                      go_roundg k4
                      case measure => have := HK1.out; have := HJ5.out; have := HK3.out; have := HK4.out; omega
                      case rel => exact ⟨(wrap64 (x12_4 + 1)), ((⟨#[]⟩ : ByteArray)), (false), (x134000_4), (.slice Ao113 x134000_4.length co113), (by first | rfl | (simp; done) | (simp [*]; done)), (by first | rfl | (simp; done) | (simp [*]; done)), (by first | rfl | (simp; done) | (simp [*]; done)), H', ⟨by have := HK1.out; have := HJ5.out; have := HK3.out; have := HK4.out; omega⟩, ⟨by (with_reducible repeat (first | apply Kd.R_alloc | apply Kd.R_drewN | apply Kd.R_drew)); exact HO_6.out⟩, ⟨by (with_reducible repeat (first | apply Kd.Q_alloc | apply Kd.Q_drewN | apply Kd.Q_drew)); exact HO_134000.out⟩, ⟨by (with_reducible repeat (first | refine blk_drewN ?_ _ | refine blk_drew ?_ | refine blk_alloc ?_ _)); exact BK133.out⟩, ⟨by repeat (first | (with_reducible first | exact HB.out | apply below_alloc | apply pw_below_drewN | apply below_drew1 | refine below_set ?_ GE133.out) | exact HB.out)⟩⟩
                     rw [if_neg c110] at H
                     have c110b0 : decide ((x134000_4.length : Int) < 2) = false := decide_eq_false c110
                     have c110b1 : decide (x134000_4.length < 2) = false := decide_eq_false (by omega)
                     clear c110
                     by_cases c114 : 0 < (x134000_4.length : Int)
                     ·
                      rw [if_pos c114] at H
                      have c114b0 : decide (0 < (x134000_4.length : Int)) = true := decide_eq_true c114
                      have c114b1 : decide (0 < x134000_4.length) = true := decide_eq_true (by omega)
                      clear c114
                      by_cases c115 : 1 < (x134000_4.length : Int)
                      ·
                       rw [if_pos c115] at H
                       have c115b0 : decide (1 < (x134000_4.length : Int)) = true := decide_eq_true c115
                       have c115b1 : decide (1 < x134000_4.length) = true := decide_eq_true (by omega)
                       clear c115
                       by_cases c116 : (wrap64 ((wrap64 (2 + (wrap64 ((wrap64 (rd x134000_4 0)) * 256)))) + (wrap64 (rd x134000_4 1)))) = 2
                       ·
                        rw [if_pos c116] at H
                        have c116b0 : ((wrap64 ((wrap64 (2 + (wrap64 ((wrap64 (rd x134000_4 0)) * 256)))) + (wrap64 (rd x134000_4 1)))) == 2) = true := beq_iff_eq.mpr c116
                        have c116b1 : ((wrap64 ((wrap64 (2 + (wrap64 ((wrap64 (rd x134000_4 0)) * 256)))) + (wrap64 (rd x134000_4 1)))) != 2) = false := bne_eq_false_iff_eq.mpr c116
                        clear c116
                        have H' := Aside0.mk H
                        clear H
                        obtain ⟨Ao117, co117, eo117⟩ := Kd.R_slice HO_6.out
                        subst eo117
                        have p137 : 0 ≤ (x12_4 : Int) := of_decide_eq_true (by first | (with_reducible assumption) | assumption)
                        have q137 : x12_4 < (x6_1.length : Int) := of_decide_eq_true (by first | (with_reducible assumption) | assumption)
                        obtain ⟨ad137, e137, hx137_0⟩ := Kd.at_string (Kd.R_reads' HO_6.out).2.2 x12_4 p137 q137
                        cases e137
                        replace p137 := eq_true p137
                        replace q137 := eq_true q137
                        have hcz118_0 : wr.cell? ⟨gb133, 0, none⟩ = some (u134000) := (blk_cell BK133.out 0).trans rfl
                        have hcz118_1 : wr.cell? ⟨gb133, 1, none⟩ = some (.bool false) := (blk_cell BK133.out 1).trans rfl
                        have hfz118_0 := blk_frozen BK133.out 0
                        have hfz118_1 := blk_frozen BK133.out 1
                        obtain ⟨Ao119, co119, eo119, _⟩ := Kd.Q_slice HO_134000.out
                        subst eo119
                        have p138 : 0 ≤ (0 : Int) := (by omega)
                        have q138 : 0 < (x134000_4.length : Int) := of_decide_eq_true (by first | (with_reducible assumption) | assumption)
                        obtain ⟨ad138, e138, hx138_0⟩ := Kd.at_int (Kd.Q_reads' HO_134000.out).2.2 0 p138 q138
                        cases e138
                        have qi138 : (0 < x134000_4.length) = True := eq_true (by omega)
                        (try rw [show ((0 : Int)).toNat = 0 from rfl] at hx138_0)
                        (try rw [Addr.add_zero'] at hx138_0)
                        replace p138 := eq_true p138
                        replace q138 := eq_true q138
                        have p139 : 0 ≤ (1 : Int) := (by omega)
                        have q139 : 1 < (x134000_4.length : Int) := of_decide_eq_true (by first | (with_reducible assumption) | assumption)
                        obtain ⟨ad139, e139, hx139_0⟩ := Kd.at_int (Kd.Q_reads' HO_134000.out).2.2 1 p139 q139
                        obtain rfl : ad138 = ad139 := (by injection e139)
                        (try simp only [show (1 : Int).toNat = 1 from rfl, Nat.reduceMul, Nat.reduceEqDiff, Go.Addr.add, ↓reduceIte] at hx139_0)
                        have qi139 : (1 < x134000_4.length) = True := eq_true (by omega)
                        (try rw [show ((1 : Int)).toNat = 1 from rfl] at hx139_0)
                        replace p139 := eq_true p139
                        replace q139 := eq_true q139
                        go_wp2_with (first | ((go_at_call 6; go_in)))
                        repeat (go_quiet (fail); try go_wp2_with (first | ((go_at_call 6; go_in))))
                        go_roundg k4
                        case measure => have := HK1.out; have := HJ5.out; have := HK3.out; have := HK4.out; omega
                        case rel => exact ⟨(wrap64 (x12_4 + 1)), ((⟨#[]⟩ : ByteArray)), (false), (x134000_4), (.slice (some ad138) x134000_4.length co119), (by first | rfl | (simp; done) | (simp [*]; done)), (by first | rfl | (simp; done) | (simp [*]; done)), (by first | rfl | (simp; done) | (simp [*]; done)), H', ⟨by have := HK1.out; have := HJ5.out; have := HK3.out; have := HK4.out; omega⟩, ⟨by (with_reducible repeat (first | apply Kd.R_alloc | apply Kd.R_drewN | apply Kd.R_drew)); exact HO_6.out⟩, ⟨by (with_reducible repeat (first | apply Kd.Q_alloc | apply Kd.Q_drewN | apply Kd.Q_drew)); exact HO_134000.out⟩, ⟨by (with_reducible repeat (first | refine blk_drewN ?_ _ | refine blk_drew ?_ | refine blk_alloc ?_ _)); exact BK133.out⟩, ⟨by repeat (first | (with_reducible first | exact HB.out | apply below_alloc | apply pw_below_drewN | apply below_drew1 | refine below_set ?_ GE133.out) | exact HB.out)⟩⟩
                       rw [if_neg c116] at H
                       have c116b0 : ((wrap64 ((wrap64 (2 + (wrap64 ((wrap64 (rd x134000_4 0)) * 256)))) + (wrap64 (rd x134000_4 1)))) == 2) = false := beq_eq_false_iff_ne.mpr c116
                       have c116b1 : ((wrap64 ((wrap64 (2 + (wrap64 ((wrap64 (rd x134000_4 0)) * 256)))) + (wrap64 (rd x134000_4 1)))) != 2) = true := bne_iff_ne.mpr c116
                       by_cases c120 : (x134000_4.length : Int) < (wrap64 ((wrap64 (2 + (wrap64 ((wrap64 (rd x134000_4 0)) * 256)))) + (wrap64 (rd x134000_4 1))))
                       ·
                        rw [if_pos c120] at H
                        have c120b0 : decide ((x134000_4.length : Int) < (wrap64 ((wrap64 (2 + (wrap64 ((wrap64 (rd x134000_4 0)) * 256)))) + (wrap64 (rd x134000_4 1))))) = true := decide_eq_true c120
                        clear c120
                        have H' := Aside0.mk H
                        clear H
                        obtain ⟨Ao121, co121, eo121⟩ := Kd.R_slice HO_6.out
                        subst eo121
                        have p137 : 0 ≤ (x12_4 : Int) := of_decide_eq_true (by first | (with_reducible assumption) | assumption)
                        have q137 : x12_4 < (x6_1.length : Int) := of_decide_eq_true (by first | (with_reducible assumption) | assumption)
                        obtain ⟨ad137, e137, hx137_0⟩ := Kd.at_string (Kd.R_reads' HO_6.out).2.2 x12_4 p137 q137
                        cases e137
                        replace p137 := eq_true p137
                        replace q137 := eq_true q137
                        have hcz122_0 : wr.cell? ⟨gb133, 0, none⟩ = some (u134000) := (blk_cell BK133.out 0).trans rfl
                        have hcz122_1 : wr.cell? ⟨gb133, 1, none⟩ = some (.bool false) := (blk_cell BK133.out 1).trans rfl
                        have hfz122_0 := blk_frozen BK133.out 0
                        have hfz122_1 := blk_frozen BK133.out 1
                        obtain ⟨Ao123, co123, eo123, _⟩ := Kd.Q_slice HO_134000.out
                        subst eo123
                        have p138 : 0 ≤ (0 : Int) := (by omega)
                        have q138 : 0 < (x134000_4.length : Int) := of_decide_eq_true (by first | (with_reducible assumption) | assumption)
                        obtain ⟨ad138, e138, hx138_0⟩ := Kd.at_int (Kd.Q_reads' HO_134000.out).2.2 0 p138 q138
                        cases e138
                        have qi138 : (0 < x134000_4.length) = True := eq_true (by omega)
                        (try rw [show ((0 : Int)).toNat = 0 from rfl] at hx138_0)
                        (try rw [Addr.add_zero'] at hx138_0)
                        replace p138 := eq_true p138
                        replace q138 := eq_true q138
                        have p139 : 0 ≤ (1 : Int) := (by omega)
                        have q139 : 1 < (x134000_4.length : Int) := of_decide_eq_true (by first | (with_reducible assumption) | assumption)
                        obtain ⟨ad139, e139, hx139_0⟩ := Kd.at_int (Kd.Q_reads' HO_134000.out).2.2 1 p139 q139
                        obtain rfl : ad138 = ad139 := (by injection e139)
                        (try simp only [show (1 : Int).toNat = 1 from rfl, Nat.reduceMul, Nat.reduceEqDiff, Go.Addr.add, ↓reduceIte] at hx139_0)
                        have qi139 : (1 < x134000_4.length) = True := eq_true (by omega)
                        (try rw [show ((1 : Int)).toNat = 1 from rfl] at hx139_0)
                        replace p139 := eq_true p139
                        replace q139 := eq_true q139
                        go_wp2_with (first | ((go_at_call 6; go_in)))
                        repeat (go_quiet (fail); try go_wp2_with (first | ((go_at_call 6; go_in))))
                        go_roundg k4
                        case measure => have := HK1.out; have := HJ5.out; have := HK3.out; have := HK4.out; omega
                        case rel => exact ⟨(wrap64 (x12_4 + 1)), ((⟨#[]⟩ : ByteArray)), (false), (x134000_4), (.slice (some ad138) x134000_4.length co123), (by first | rfl | (simp; done) | (simp [*]; done)), (by first | rfl | (simp; done) | (simp [*]; done)), (by first | rfl | (simp; done) | (simp [*]; done)), H', ⟨by have := HK1.out; have := HJ5.out; have := HK3.out; have := HK4.out; omega⟩, ⟨by (with_reducible repeat (first | apply Kd.R_alloc | apply Kd.R_drewN | apply Kd.R_drew)); exact HO_6.out⟩, ⟨by (with_reducible repeat (first | apply Kd.Q_alloc | apply Kd.Q_drewN | apply Kd.Q_drew)); exact HO_134000.out⟩, ⟨by (with_reducible repeat (first | refine blk_drewN ?_ _ | refine blk_drew ?_ | refine blk_alloc ?_ _)); exact BK133.out⟩, ⟨by repeat (first | (with_reducible first | exact HB.out | apply below_alloc | apply pw_below_drewN | apply below_drew1 | refine below_set ?_ GE133.out) | exact HB.out)⟩⟩
                       rw [if_neg c120] at H
                       have c120b0 : decide ((x134000_4.length : Int) < (wrap64 ((wrap64 (2 + (wrap64 ((wrap64 (rd x134000_4 0)) * 256)))) + (wrap64 (rd x134000_4 1))))) = false := decide_eq_false c120
                       clear c120
                       by_cases c124 : 2 ≤ (wrap64 ((wrap64 (2 + (wrap64 ((wrap64 (rd x134000_4 0)) * 256)))) + (wrap64 (rd x134000_4 1))))
                       ·
                        rw [if_pos c124] at H
                        have c124b0 := eq_true c124
                        try (have c124b0q := c124b0; rw [hszn_ji11] at c124b0q)
                        have c124b1 : decide (2 ≤ (wrap64 ((wrap64 (2 + (wrap64 ((wrap64 (rd x134000_4 0)) * 256)))) + (wrap64 (rd x134000_4 1))))) = true := decide_eq_true c124
                        by_cases c125 : (wrap64 ((wrap64 (2 + (wrap64 ((wrap64 (rd x134000_4 0)) * 256)))) + (wrap64 (rd x134000_4 1)))) ≤ (x134000_4.length : Int)
                        ·
                         rw [if_pos c125] at H
                         have c125b0 := eq_true c125
                         try (have c125b0q := c125b0; rw [hszn_ji11] at c125b0q)
                         have c125b1 : decide ((wrap64 ((wrap64 (2 + (wrap64 ((wrap64 (rd x134000_4 0)) * 256)))) + (wrap64 (rd x134000_4 1)))) ≤ (x134000_4.length : Int)) = true := decide_eq_true c125
                         obtain ⟨y140, hy140⟩ : ∃ y_ : List Int, y_ = ((x134000_4.take ((wrap64 ((wrap64 (2 + (wrap64 ((wrap64 (rd x134000_4 0)) * 256)))) + (wrap64 (rd x134000_4 1)))) : Int).toNat).drop 2) := ⟨_, rfl⟩
                         replace H : (if 0 ≤ (wrap64 ((wrap64 (2 + (wrap64 ((wrap64 (rd x134000_4 0)) * 256)))) + (wrap64 (rd x134000_4 1)))) then (rhynelaw23_DoqBack.l2 k4 (wrap64 (1 + (wrap64 (Int.tmod (IntKind.u64.wrap (a1)) 500)))) (x5_3.extract ((ji43) : Int).toNat x5_3.size) x6_1 (wrap64 (x12_4 + 1)) (strOfNums y140) true (x134000_4.drop ((wrap64 ((wrap64 (2 + (wrap64 ((wrap64 (rd x134000_4 0)) * 256)))) + (wrap64 (rd x134000_4 1)))) : Int).toNat) false) else (none)) = some r := by first | (rw [hy140]; with_reducible exact H) | (have H2_ := (Option.bind_some _ _).symm.trans H; rw [hy140]; with_reducible exact H2_) | (have H2_ := (Option.bind_some _ _).symm.trans H; with_reducible exact H2_) | with_reducible exact H | (rw [hy140]; exact H) | exact H
                         have Ny140 := Aside0.mk hy140
                         clear hy140
                         obtain ⟨ji126, hji126⟩ : ∃ j_ : Int, (wrap64 ((wrap64 (2 + (wrap64 ((wrap64 (rd x134000_4 0)) * 256)))) + (wrap64 (rd x134000_4 1)))) = j_ := ⟨_, rfl⟩
                         replace H : (if 0 ≤ (ji126) then (rhynelaw23_DoqBack.l2 k4 (wrap64 (1 + (wrap64 (Int.tmod (IntKind.u64.wrap (a1)) 500)))) (x5_3.extract ((ji43) : Int).toNat x5_3.size) x6_1 (wrap64 (x12_4 + 1)) (strOfNums y140) true (x134000_4.drop ((ji126) : Int).toNat) false) else (none)) = some r := by first | (rw [hji126] at H; exact H) | (simp only [hji126] at H ⊢; exact H)
                         (try rw [hji126] at c116b0)
                         (try rw [hji126] at c116b1)
                         (try rw [hji126] at c120b0)
                         (try rw [hji126] at c124b0)
                         (try rw [hji126] at c124b1)
                         (try rw [hji126] at c124)
                         (try rw [hji126] at c125b0)
                         (try rw [hji126] at c125b1)
                         (try rw [hji126] at c125)
                         (try rw [hji126] at Ny140)
                         (try rw [hji126] at Ny140)
                         have hji126w : (IntKind.i64.wrap ((wrap64 (2 + (wrap64 ((wrap64 (rd x134000_4 0)) * 256)))) + (wrap64 (rd x134000_4 1)))) = ji126 := (i64_w _).trans hji126
                         by_cases c127 : 0 ≤ (ji126)
                         ·
                          rw [if_pos c127] at H
                          have c127b0 := eq_true c127
                          try (have c127b0q := c127b0; rw [hszn_ji11] at c127b0q)
                          have c127b1 : decide (0 ≤ (ji126)) = true := decide_eq_true c127
                          clear c127
                          have c128b0 := eq_true (of_decide_eq_true (by first | (with_reducible assumption) | assumption) : (ji126) ≤ (x134000_4.length : Int))
                          obtain ⟨y144, hy144⟩ : ∃ y_ : List Int, y_ = (x134000_4.drop ((ji126) : Int).toNat) := ⟨_, rfl⟩
                          replace H : (rhynelaw23_DoqBack.l2 k4 (wrap64 (1 + (wrap64 (Int.tmod (IntKind.u64.wrap (a1)) 500)))) (x5_3.extract ((ji43) : Int).toNat x5_3.size) x6_1 (wrap64 (x12_4 + 1)) (strOfNums y140) true y144 false) = some r := by first | (rw [hy144]; with_reducible exact H) | (have H2_ := (Option.bind_some _ _).symm.trans H; rw [hy144]; with_reducible exact H2_) | (have H2_ := (Option.bind_some _ _).symm.trans H; with_reducible exact H2_) | with_reducible exact H | (rw [hy144]; exact H) | exact H
                          have Ny144 := Aside0.mk hy144
                          clear hy144
                          have H' := Aside0.mk H
                          clear H
                          obtain ⟨Ao129, co129, eo129⟩ := Kd.R_slice HO_6.out
                          subst eo129
                          have p137 : 0 ≤ (x12_4 : Int) := of_decide_eq_true (by first | (with_reducible assumption) | assumption)
                          have q137 : x12_4 < (x6_1.length : Int) := of_decide_eq_true (by first | (with_reducible assumption) | assumption)
                          obtain ⟨ad137, e137, hx137_0⟩ := Kd.at_string (Kd.R_reads' HO_6.out).2.2 x12_4 p137 q137
                          cases e137
                          replace p137 := eq_true p137
                          replace q137 := eq_true q137
                          have hcz130_0 : wr.cell? ⟨gb133, 0, none⟩ = some (u134000) := (blk_cell BK133.out 0).trans rfl
                          have hcz130_1 : wr.cell? ⟨gb133, 1, none⟩ = some (.bool false) := (blk_cell BK133.out 1).trans rfl
                          have hfz130_0 := blk_frozen BK133.out 0
                          have hfz130_1 := blk_frozen BK133.out 1
                          obtain ⟨Ao131, co131, eo131, _⟩ := Kd.Q_slice HO_134000.out
                          subst eo131
                          have p138 : 0 ≤ (0 : Int) := (by omega)
                          have q138 : 0 < (x134000_4.length : Int) := of_decide_eq_true (by first | (with_reducible assumption) | assumption)
                          obtain ⟨ad138, e138, hx138_0⟩ := Kd.at_int (Kd.Q_reads' HO_134000.out).2.2 0 p138 q138
                          cases e138
                          have qi138 : (0 < x134000_4.length) = True := eq_true (by omega)
                          (try rw [show ((0 : Int)).toNat = 0 from rfl] at hx138_0)
                          (try rw [Addr.add_zero'] at hx138_0)
                          replace p138 := eq_true p138
                          replace q138 := eq_true q138
                          have p139 : 0 ≤ (1 : Int) := (by omega)
                          have q139 : 1 < (x134000_4.length : Int) := of_decide_eq_true (by first | (with_reducible assumption) | assumption)
                          obtain ⟨ad139, e139, hx139_0⟩ := Kd.at_int (Kd.Q_reads' HO_134000.out).2.2 1 p139 q139
                          obtain rfl : ad138 = ad139 := (by injection e139)
                          (try simp only [show (1 : Int).toNat = 1 from rfl, Nat.reduceMul, Nat.reduceEqDiff, Go.Addr.add, ↓reduceIte] at hx139_0)
                          have qi139 : (1 < x134000_4.length) = True := eq_true (by omega)
                          (try rw [show ((1 : Int)).toNat = 1 from rfl] at hx139_0)
                          replace p139 := eq_true p139
                          replace q139 := eq_true q139
                          have q132 : ((ji126) : Int) ≤ ((x134000_4.length : Int) : Int) := of_decide_eq_true (by first | (with_reducible assumption) | assumption)
                          obtain ⟨i0132, hi0132, _, hsz132, _⟩ := info_parts info5
                          have hroom132 : x134000_4.length ≤ co131 := (Kd.Q_reads' HO_134000.out).2.1
                          have hC132 : Kd.C (Kd.int .u8) _ (some ad138) x134000_4.length x134000_4 := (Kd.Q_reads' HO_134000.out).2.2
                          have ql132 : (2 : Int) ≤ ((ji126) : Int) := of_decide_eq_true (by first | (with_reducible assumption) | assumption)
                          have hcut132 := cut_mid (P := Try.prog) 23 5 .i64 .i64 Try.underlying23 hi0132 1 hsz132 (some ad138) x134000_4.length co131 2 (ji126) (by omega) ql132 q132 hroom132
                          have hr132 := Kd.C_mid (lo := (2 : Int).toNat) (hi := ((ji126) : Int).toNat) (c := co131) hC132 (by omega) (by omega) hroom132
                          obtain ⟨A132, hA132⟩ : ∃ A1, A1 = (if co131 = (2 : Int).toNat then (some ad138) else ((some ad138) : Option Addr).map (·.add ((2 : Int).toNat * 1))) := ⟨_, rfl⟩
                          obtain ⟨c132, hc132⟩ : ∃ c1, c1 = co131 - (2 : Int).toNat := ⟨_, rfl⟩
                          have hy132 : y140.length = ((ji126) : Int).toNat - (2 : Int).toNat := (by rw [Ny140.out, List.length_drop, List.length_take] <;> omega)
                          rw [show ((x134000_4).take ((ji126) : Int).toNat).drop (2 : Int).toNat = y140 from Ny140.out.symm] at hr132
                          replace hr132 : Kd.C (Kd.int .u8) _ A132 y140.length y140 := (by rw [hA132]; exact hr132)
                          rw [← hy132, ← hA132, ← hc132] at hcut132
                          have HR143 := Aside0.mk hr132
                          have HC143 := Aside0.mk (show y140.length ≤ c132 from by rw [hy132, hc132]; exact Nat.sub_le_sub_right (Nat.le_trans (by omega) hroom132) _)
                          clear hr132 hC132 hroom132 hi0132 hsz132 hc132
                          have KY132 := Aside0.mk hy132
                          have KA132 := Aside0.mk hA132
                          clear hy132 hA132
                          have KL132 := Aside0.mk (show ((ji126) : Int).toNat ≤ x134000_4.length from by omega)
                          have KM132 := Aside0.mk (show 2 ≤ ((ji126) : Int).toNat from by omega)
                          replace q132 := eq_true q132
                          have hcv133 := Kd.C_string (P := Try.prog) (A := A132) (c := c132) Try.underlying23 Try.underlying5 Try.underlying9 (by repeat (first | (with_reducible exact HR143.out) | (with_reducible refine Kd.C_alloc ?_ _) | (with_reducible refine Kd.C_drewN ?_ _) | (with_reducible refine Kd.C_drew ?_) | exact HR143.out))
                          have hcv134 := fun m_ : Nat => Kd.C_string (P := Try.prog) (A := A132) (c := c132) Try.underlying23 Try.underlying5 Try.underlying9 (Kd.C_drewN (by repeat (first | (with_reducible exact HR143.out) | (with_reducible refine Kd.C_alloc ?_ _) | (with_reducible refine Kd.C_drewN ?_ _) | (with_reducible refine Kd.C_drew ?_) | exact HR143.out)) m_)
                          have q135 : ((ji126) : Int) ≤ ((x134000_4.length : Int) : Int) := of_decide_eq_true (by first | (with_reducible assumption) | assumption)
                          obtain ⟨i0135, hi0135, _, hsz135, _⟩ := info_parts info5
                          have hcut135 := cut_from (P := Try.prog) 23 5 .i64 Try.underlying23 hi0135 1 hsz135 (some ad138) x134000_4.length co131 (ji126) (of_decide_eq_true (by first | (with_reducible assumption) | assumption)) q135
                          have hr135 := Kd.Q_drop (k := ((ji126) : Int).toNat) HO_134000.out (by omega)
                          obtain ⟨A135, hA135⟩ : ∃ A1, A1 = (if co131 = ((ji126) : Int).toNat then (some ad138) else ((some ad138) : Option Addr).map (·.add (((ji126) : Int).toNat * 1))) := ⟨_, rfl⟩
                          obtain ⟨c135, hc135⟩ : ∃ c1, c1 = co131 - ((ji126) : Int).toNat := ⟨_, rfl⟩
                          have hy135 : y144.length = x134000_4.length - ((ji126) : Int).toNat := (by rw [Ny144.out, List.length_drop])
                          rw [← Ny144.out] at hr135
                          rw [← hy135, ← hA135, ← hc135] at hcut135
                          replace hr135 : Kd.Q (Kd.int .u8) 5 wr w.heap.size (fun _ => True) (.slice A135 y144.length c135) y144 := (by rw [hA135, hc135, hy135]; exact hr135)
                          have HE135 : Aside0 ((Value.slice A135 y144.length c135).ownBlock = (.slice (some ad138) x134000_4.length co131 : Value).ownBlock) := ⟨by rw [hA135]; split <;> (first | rfl | (simp [Value.ownBlock, add_block]))⟩
                          clear hy135 hi0135 hsz135 HO_134000 hA135 hc135
                          have HO146 := Aside0.mk hr135
                          clear hr135
                          replace q135 := eq_true q135
                          go_wp2_with (first | ((go_at_call 6; go_in)))
                          repeat (go_quiet (fail); try go_wp2_with (first | ((go_at_call 6; go_in))))
                          go_roundg k4
                          case measure => have := HK1.out; have := HJ5.out; have := HK3.out; have := HK4.out; omega
                          case rel => exact ⟨(wrap64 (x12_4 + 1)), (strOfNums y140), (true), (y144), (.slice A135 y144.length c135), (by first | rfl | (simp; done) | (simp [*]; done)), (by first | rfl | (simp; done) | (simp [*]; done)), (by first | rfl | (simp; done) | (simp [*]; done)), H', ⟨by have := HK1.out; have := HJ5.out; have := HK3.out; have := HK4.out; omega⟩, ⟨by (with_reducible repeat (first | apply Kd.R_alloc | apply Kd.R_drewN | apply Kd.R_drew)); exact Kd.R_mono (Kd.R_far (p := ⟨gb133, 0, none⟩) (Kd.R_types HO_6.out BK133.out (by decide)) (fun _ hk => hk.2) (.slice A135 y144.length c135)) (fun _ hk => trivial)⟩, ⟨by (with_reducible repeat (first | apply Kd.Q_alloc | apply Kd.Q_drewN | apply Kd.Q_drew)); exact Kd.Q_mono (Kd.Q_far (p := ⟨gb133, 0, none⟩) (Kd.Q_types HO146.out BK133.out (by decide)) (fun _ hk => hk.2) (.slice A135 y144.length c135)) (fun _ hk => trivial)⟩, ⟨by (with_reducible repeat (first | refine blk_drewN ?_ _ | refine blk_drew ?_ | refine blk_alloc ?_ _)); refine blk_put (cs := #[.slice (some ad138) x134000_4.length co131, .bool false]) ?_ 0 _ rfl; (with_reducible repeat (first | refine blk_drewN ?_ _ | refine blk_drew ?_ | refine blk_alloc ?_ _)); exact BK133.out⟩, ⟨by repeat (first | (with_reducible first | exact HB.out | apply below_alloc | apply pw_below_drewN | apply below_drew1 | refine below_set ?_ GE133.out) | exact HB.out)⟩⟩
                         rw [if_neg c127] at H
                         exact absurd H (by simp)
                        rw [if_neg c125] at H
                        exact absurd H (by simp)
                       rw [if_neg c124] at H
                       exact absurd H (by simp)
                      rw [if_neg c115] at H
                      exact absurd H (by simp)
                     rw [if_neg c114] at H
                     exact absurd H (by simp)
                    rw [if_neg c109] at H
                    have c109b0 : (x14_4.toList == (rdOf ByteArray.empty x6_1 x12_4).toList) = false := beq_eq_false_iff_ne.mpr c109
                    have c109b1 : (x14_4.toList != (rdOf ByteArray.empty x6_1 x12_4).toList) = true := bne_iff_ne.mpr c109
                    obtain rfl := Option.some.inj H
                    obtain ⟨Ao136, co136, eo136⟩ := Kd.R_slice HO_6.out
                    subst eo136
                    have p137 : 0 ≤ (x12_4 : Int) := of_decide_eq_true (by first | (with_reducible assumption) | assumption)
                    have q137 : x12_4 < (x6_1.length : Int) := of_decide_eq_true (by first | (with_reducible assumption) | assumption)
                    obtain ⟨ad137, e137, hx137_0⟩ := Kd.at_string (Kd.R_reads' HO_6.out).2.2 x12_4 p137 q137
                    cases e137
                    replace p137 := eq_true p137
                    replace q137 := eq_true q137
                    go_wp2
                    repeat (go_quiet (fail); try go_wp2)
                    go_ret
                    exact ⟨by first | rfl | (simp [errW_none, errW_some] <;> rfl) | (simp only [← hji43]; first | rfl | (simp [errW_none, errW_some] <;> rfl)) | (simp [*, errW_none, errW_some] <;> rfl), by repeat (first | (with_reducible first | exact HB.out | apply below_alloc | apply pw_below_drewN | apply below_drew1 | refine below_set ?_ GE133.out) | exact HB.out)⟩
                   rw [if_neg c108] at H
                   exact absurd H (by simp)
                  rw [if_neg c107] at H
                  exact absurd H (by simp)
                 replace c104 := Bool.eq_false_iff.mpr c104
                 subst c104
                 have H1 : (rhynelaw23_DoqBack.l1 k4 (wrap64 (1 + (wrap64 (Int.tmod (IntKind.u64.wrap (a1)) 500)))) (x5_3.extract ((ji43) : Int).toNat x5_3.size) x6_1 x12_4 x134000_4 false) = some r := by rw [if_neg (show ¬ (false = true) by decide)] at H; exact H
                 clear H
                 have H := H1
                 clear H1
                 have H' := Aside0.mk H
                 clear H
                 go_wp2
                 repeat (go_quiet (fail); try go_wp2)
                 go_roundg k4
                 case measure => have := HK1.out; have := HJ5.out; have := HK3.out; have := HK4.out; omega
                 case rel => exact ⟨((x5_3.extract ((ji43) : Int).toNat x5_3.size)), (x12_4), (x134000_4), (u134000), (by first | rfl | (simp; done) | (simp only [← hji43] <;> (first | rfl | simp)) | (simp [*]; done)), (by first | rfl | (simp; done) | (simp [*]; done)), H', ⟨by have := HK1.out; have := HJ5.out; have := HK3.out; have := HK4.out; omega⟩, ⟨by (with_reducible repeat (first | apply Kd.R_alloc | apply Kd.R_drewN | apply Kd.R_drew)); exact HO_6.out⟩, ⟨by (with_reducible repeat (first | apply Kd.Q_alloc | apply Kd.Q_drewN | apply Kd.Q_drew)); exact HO_134000.out⟩, ⟨by (with_reducible repeat (first | refine blk_drewN ?_ _ | refine blk_drew ?_ | refine blk_alloc ?_ _)); exact BK133.out⟩, ⟨by repeat (first | (with_reducible first | exact HB.out | apply below_alloc | apply pw_below_drewN | apply below_drew1 | refine below_set ?_ GE133.out) | exact HB.out)⟩⟩
              rw [if_neg c98] at H
              have c98b0 : ((wrap64 ((wrap64 (2 + (wrap64 ((wrap64 (rd y134 0)) * 256)))) + (wrap64 (rd y134 1)))) == 2) = false := beq_eq_false_iff_ne.mpr c98
              have c98b1 : ((wrap64 ((wrap64 (2 + (wrap64 ((wrap64 (rd y134 0)) * 256)))) + (wrap64 (rd y134 1)))) != 2) = true := bne_iff_ne.mpr c98
              by_cases c137 : (y134.length : Int) < (wrap64 ((wrap64 (2 + (wrap64 ((wrap64 (rd y134 0)) * 256)))) + (wrap64 (rd y134 1))))
              ·
               rw [if_pos c137] at H
               have c137b0 : decide ((y134.length : Int) < (wrap64 ((wrap64 (2 + (wrap64 ((wrap64 (rd y134 0)) * 256)))) + (wrap64 (rd y134 1))))) = true := decide_eq_true c137
               clear c137
               have H' := Aside0.mk H
               clear H
               have hcz138_0 : wr.cell? ⟨gb133, 0, none⟩ = some (u134000) := (blk_cell BK133.out 0).trans rfl
               have hcz138_1 : wr.cell? ⟨gb133, 1, none⟩ = some (.bool false) := (blk_cell BK133.out 1).trans rfl
               have hfz138_0 := blk_frozen BK133.out 0
               have hfz138_1 := blk_frozen BK133.out 1
               obtain ⟨Ao139, co139, eo139, _⟩ := Kd.Q_slice HO_134000.out
               subst eo139
               go_wp2_with (first | ((go_at_call 8; go_in)) | (at_builtin; refine str_appendQ (w0 := w) w.heap.size rfl (.tmp 27) _ 23 9 5 rfl Try.underlying23 Try.underlying9 info5 (.slice Ao139 x134000_3.length co139) x134000_3 (x5_3.extract 0 ((ji43) : Int).toNat) (fun _ => True) rfl rfl ?aF ?aO ?aB ?aS ?aL ?_; (case aB => exact (by repeat (first | (with_reducible first | exact HB.out | apply below_alloc | apply pw_below_drewN | apply below_drew1 | refine below_set ?_ GE133.out) | exact HB.out))); (case aF => exact (fun _ _ => trivial)); (case aO => exact (by (with_reducible repeat (first | apply Kd.Q_alloc | apply Kd.Q_drewN | apply Kd.Q_drew)); exact HO_134000.out)); (case aS => exact (below_size (by repeat (first | (with_reducible first | exact HB.out | apply below_alloc | apply pw_below_drewN | apply below_drew1 | refine below_set ?_ GE133.out) | exact HB.out)))); (case aL => have := LMc53.out; first | omega | exact Nat.le_of_lt this); intro v135 w140 ho hb hg hat; rw [← Ny134.out] at ho; change Kd.Q (Kd.int .u8) 5 w140 w.heap.size (fun _ => True) v135 y134 at ho; have n0_ := Aside0.mk (Kd.R_over' (by (with_reducible repeat (first | apply Kd.R_alloc | apply Kd.R_drewN | apply Kd.R_drew)); exact HO_6.out) (Kd.Q_typed (by (with_reducible repeat (first | apply Kd.Q_alloc | apply Kd.Q_drewN | apply Kd.Q_drew)); exact HO_134000.out)) (by decide) hg); have n1_ := Aside0.mk (blk_grown (g := gb133) (o := .cells #[.slice Ao139 x134000_3.length co139, .bool false] 37 (0, 0)) (by (with_reducible repeat (first | refine blk_drewN ?_ _ | refine blk_drew ?_ | refine blk_alloc ?_ _)); exact BK133.out) hg (Kd.Q_ne HO_134000.out BK133.out (by decide))); have n2_ := Aside0.mk (hb); have n3_ := Aside0.mk (ho); clear HO_6; clear BK133; clear HB; clear HO_134000; have HO_6 := n0_; have BK133 := n1_; have HB := n2_; have HO136 := n3_; clear n0_ n1_ n2_ n3_; clear ho hb hg hat; obtain ⟨Ao141, co141, eo141, _⟩ := Kd.Q_slice HO136.out; subst eo141; have hcz142_0 : w140.cell? ⟨gb133, 0, none⟩ = some (.slice Ao139 x134000_3.length co139) := (blk_cell BK133.out 0).trans rfl; have hcz142_1 : w140.cell? ⟨gb133, 1, none⟩ = some (.bool false) := (blk_cell BK133.out 1).trans rfl; have hfz142_0 := blk_frozen BK133.out 0; have hfz142_1 := blk_frozen BK133.out 1; have p147 : 0 ≤ (0 : Int) := (by omega); have q147 : 0 < (y134.length : Int) := of_decide_eq_true (by first | (with_reducible assumption) | assumption); obtain ⟨ad147, e147, hx147_0⟩ := Kd.at_int (Kd.Q_reads' HO136.out).2.2 0 p147 q147; cases e147; have qi147 : (0 < y134.length) = True := eq_true (by omega); (try rw [show ((0 : Int)).toNat = 0 from rfl] at hx147_0); (try rw [Addr.add_zero'] at hx147_0); have hn147_0 : ad147.block ≠ gb133 := Kd.own_blk (Kd.Q_ne HO136.out BK133.out (by decide)); replace hx147_0 := (cell_far (p := ⟨gb133, 0, none⟩) (by first | (rw [add_block]; exact hn147_0) | (show (Addr.add _ _).block ≠ _; rw [add_block]; exact hn147_0) | exact hn147_0) (.slice (some ad147) y134.length co141)).trans hx147_0; (try have hy147_0 := fun (n_ : Nat) => (show (((w140.drewN n_).setCell ⟨gb133, 0, none⟩ (.slice (some ad147) y134.length co141))).cell? _ = some _ from hx147_0)); clear hn147_0; replace p147 := eq_true p147; replace q147 := eq_true q147; have p148 : 0 ≤ (1 : Int) := (by omega); have q148 : 1 < (y134.length : Int) := of_decide_eq_true (by first | (with_reducible assumption) | assumption); obtain ⟨ad148, e148, hx148_0⟩ := Kd.at_int (Kd.Q_reads' HO136.out).2.2 1 p148 q148; obtain rfl : ad147 = ad148 := (by injection e148); (try simp only [show (1 : Int).toNat = 1 from rfl, Nat.reduceMul, Nat.reduceEqDiff, Go.Addr.add, ↓reduceIte] at hx148_0); have qi148 : (1 < y134.length) = True := eq_true (by omega); (try rw [show ((1 : Int)).toNat = 1 from rfl] at hx148_0); have hn148_0 : ad147.block ≠ gb133 := Kd.own_blk (Kd.Q_ne HO136.out BK133.out (by decide)); replace hx148_0 := (cell_far (p := ⟨gb133, 0, none⟩) (by first | (rw [add_block]; exact hn148_0) | (show (Addr.add _ _).block ≠ _; rw [add_block]; exact hn148_0) | exact hn148_0) (.slice (some ad147) y134.length co141)).trans hx148_0; (try have hy148_0 := fun (n_ : Nat) => (show (((w140.drewN n_).setCell ⟨gb133, 0, none⟩ (.slice (some ad147) y134.length co141))).cell? _ = some _ from hx148_0)); clear hn148_0; replace p148 := eq_true p148; replace q148 := eq_true q148) | ((go_at_call 6; go_in)))
               repeat (go_quiet (fail); try go_wp2_with (first | ((go_at_call 8; go_in)) | (at_builtin; refine str_appendQ (w0 := w) w.heap.size rfl (.tmp 27) _ 23 9 5 rfl Try.underlying23 Try.underlying9 info5 (.slice Ao139 x134000_3.length co139) x134000_3 (x5_3.extract 0 ((ji43) : Int).toNat) (fun _ => True) rfl rfl ?aF ?aO ?aB ?aS ?aL ?_; (case aB => exact (by repeat (first | (with_reducible first | exact HB.out | apply below_alloc | apply pw_below_drewN | apply below_drew1 | refine below_set ?_ GE133.out) | exact HB.out))); (case aF => exact (fun _ _ => trivial)); (case aO => exact (by (with_reducible repeat (first | apply Kd.Q_alloc | apply Kd.Q_drewN | apply Kd.Q_drew)); exact HO_134000.out)); (case aS => exact (below_size (by repeat (first | (with_reducible first | exact HB.out | apply below_alloc | apply pw_below_drewN | apply below_drew1 | refine below_set ?_ GE133.out) | exact HB.out)))); (case aL => have := LMc53.out; first | omega | exact Nat.le_of_lt this); intro v135 w140 ho hb hg hat; rw [← Ny134.out] at ho; change Kd.Q (Kd.int .u8) 5 w140 w.heap.size (fun _ => True) v135 y134 at ho; have n0_ := Aside0.mk (Kd.R_over' (by (with_reducible repeat (first | apply Kd.R_alloc | apply Kd.R_drewN | apply Kd.R_drew)); exact HO_6.out) (Kd.Q_typed (by (with_reducible repeat (first | apply Kd.Q_alloc | apply Kd.Q_drewN | apply Kd.Q_drew)); exact HO_134000.out)) (by decide) hg); have n1_ := Aside0.mk (blk_grown (g := gb133) (o := .cells #[.slice Ao139 x134000_3.length co139, .bool false] 37 (0, 0)) (by (with_reducible repeat (first | refine blk_drewN ?_ _ | refine blk_drew ?_ | refine blk_alloc ?_ _)); exact BK133.out) hg (Kd.Q_ne HO_134000.out BK133.out (by decide))); have n2_ := Aside0.mk (hb); have n3_ := Aside0.mk (ho); clear HO_6; clear BK133; clear HB; clear HO_134000; have HO_6 := n0_; have BK133 := n1_; have HB := n2_; have HO136 := n3_; clear n0_ n1_ n2_ n3_; clear ho hb hg hat; obtain ⟨Ao141, co141, eo141, _⟩ := Kd.Q_slice HO136.out; subst eo141; have hcz142_0 : w140.cell? ⟨gb133, 0, none⟩ = some (.slice Ao139 x134000_3.length co139) := (blk_cell BK133.out 0).trans rfl; have hcz142_1 : w140.cell? ⟨gb133, 1, none⟩ = some (.bool false) := (blk_cell BK133.out 1).trans rfl; have hfz142_0 := blk_frozen BK133.out 0; have hfz142_1 := blk_frozen BK133.out 1; have p147 : 0 ≤ (0 : Int) := (by omega); have q147 : 0 < (y134.length : Int) := of_decide_eq_true (by first | (with_reducible assumption) | assumption); obtain ⟨ad147, e147, hx147_0⟩ := Kd.at_int (Kd.Q_reads' HO136.out).2.2 0 p147 q147; cases e147; have qi147 : (0 < y134.length) = True := eq_true (by omega); (try rw [show ((0 : Int)).toNat = 0 from rfl] at hx147_0); (try rw [Addr.add_zero'] at hx147_0); have hn147_0 : ad147.block ≠ gb133 := Kd.own_blk (Kd.Q_ne HO136.out BK133.out (by decide)); replace hx147_0 := (cell_far (p := ⟨gb133, 0, none⟩) (by first | (rw [add_block]; exact hn147_0) | (show (Addr.add _ _).block ≠ _; rw [add_block]; exact hn147_0) | exact hn147_0) (.slice (some ad147) y134.length co141)).trans hx147_0; (try have hy147_0 := fun (n_ : Nat) => (show (((w140.drewN n_).setCell ⟨gb133, 0, none⟩ (.slice (some ad147) y134.length co141))).cell? _ = some _ from hx147_0)); clear hn147_0; replace p147 := eq_true p147; replace q147 := eq_true q147; have p148 : 0 ≤ (1 : Int) := (by omega); have q148 : 1 < (y134.length : Int) := of_decide_eq_true (by first | (with_reducible assumption) | assumption); obtain ⟨ad148, e148, hx148_0⟩ := Kd.at_int (Kd.Q_reads' HO136.out).2.2 1 p148 q148; obtain rfl : ad147 = ad148 := (by injection e148); (try simp only [show (1 : Int).toNat = 1 from rfl, Nat.reduceMul, Nat.reduceEqDiff, Go.Addr.add, ↓reduceIte] at hx148_0); have qi148 : (1 < y134.length) = True := eq_true (by omega); (try rw [show ((1 : Int)).toNat = 1 from rfl] at hx148_0); have hn148_0 : ad147.block ≠ gb133 := Kd.own_blk (Kd.Q_ne HO136.out BK133.out (by decide)); replace hx148_0 := (cell_far (p := ⟨gb133, 0, none⟩) (by first | (rw [add_block]; exact hn148_0) | (show (Addr.add _ _).block ≠ _; rw [add_block]; exact hn148_0) | exact hn148_0) (.slice (some ad147) y134.length co141)).trans hx148_0; (try have hy148_0 := fun (n_ : Nat) => (show (((w140.drewN n_).setCell ⟨gb133, 0, none⟩ (.slice (some ad147) y134.length co141))).cell? _ = some _ from hx148_0)); clear hn148_0; replace p148 := eq_true p148; replace q148 := eq_true q148) | ((go_at_call 6; go_in))))
               go_loopg [12, 14, 15] k3 (fun kq v12 v14 v15 w' => ∃ (x12_4 : Int) (x14_4 : ByteArray) (x15_4 : Bool) (x134000_4 : List Int) (u134000 : Value), v12 = .int .i64 x12_4 ∧ v14 = .string x14_4 ∧ v15 = .bool x15_4 ∧ Aside0 (rhynelaw23_DoqBack.l2 kq (wrap64 (1 + (wrap64 (Int.tmod (IntKind.u64.wrap (a1)) 500)))) (x5_3.extract ((ji43) : Int).toNat x5_3.size) x6_1 x12_4 x14_4 x15_4 x134000_4 false = some r) ∧ Aside0 (kq ≤ k3) ∧ Aside0 (Kd.R Kd.string 9 w' w.heap.size (fun _ => True) u6 x6_1) ∧ Aside0 (Kd.Q (Kd.int .u8) 5 w' w.heap.size (fun _ => True) u134000 x134000_4) ∧ Aside0 (w'.heap[gb133]? = some (.cells #[u134000, .bool false] 37 (0, 0))) ∧ Aside0 (Below w.heap.size w w'))
               case atStart => exact ⟨(x12_3), ((⟨#[]⟩ : ByteArray)), (false), (y134), (.slice (some ad147) y134.length co141), (by first | rfl | (simp; done) | (simp [*]; done)), (by first | rfl | (simp; done) | (simp [*]; done)), (by first | rfl | (simp; done) | (simp [*]; done)), H', ⟨Nat.le_refl _⟩, ⟨by (with_reducible repeat (first | apply Kd.R_alloc | apply Kd.R_drewN | apply Kd.R_drew)); exact Kd.R_mono (Kd.R_far (p := ⟨gb133, 0, none⟩) (Kd.R_types HO_6.out BK133.out (by decide)) (fun _ hk => hk.2) (.slice (some ad147) y134.length co141)) (fun _ hk => trivial)⟩, ⟨by (with_reducible repeat (first | apply Kd.Q_alloc | apply Kd.Q_drewN | apply Kd.Q_drew)); exact Kd.Q_mono (Kd.Q_far (p := ⟨gb133, 0, none⟩) (Kd.Q_types HO136.out BK133.out (by decide)) (fun _ hk => hk.2) (.slice (some ad147) y134.length co141)) (fun _ hk => trivial)⟩, ⟨by (with_reducible repeat (first | refine blk_drewN ?_ _ | refine blk_drew ?_ | refine blk_alloc ?_ _)); refine blk_put (cs := #[.slice Ao139 x134000_3.length co139, .bool false]) ?_ 0 _ rfl; (with_reducible repeat (first | refine blk_drewN ?_ _ | refine blk_drew ?_ | refine blk_alloc ?_ _)); exact BK133.out⟩, ⟨by repeat (first | (with_reducible first | exact HB.out | apply below_alloc | apply pw_below_drewN | apply below_drew1 | refine below_set ?_ GE133.out) | exact HB.out)⟩⟩
               case round => as_aux_lemma =>
                clear H'
                (try clear c1); (try clear p1); (try clear q1); (try clear hx1); (try clear hcv1); (try clear qi1); (try clear p2); (try clear hcv2); (try clear c3); (try clear c4); (try clear c5); (try clear c6); (try clear p6); (try clear c7); (try clear c7b0); (try clear c8); (try clear c9); (try clear c9b0); (try clear q9); (try clear hcv9); (try clear c10); (try clear c10b0); (try clear c11); (try clear c12); (try clear c12b0); (try clear c12b1); (try clear p12); (try clear q12); (try clear hx12); (try clear c13); (try clear c13b0); (try clear c13b1); (try clear p13); (try clear q13); (try clear hx13); (try clear hcv13); (try clear qi13); (try clear c14); (try clear c14b0); (try clear c14b1); (try clear c14b2); (try clear p14); (try clear q14); (try clear hx14); (try clear qi14); (try clear c16); (try clear c16b0); (try clear c16b1); (try clear c17); (try clear c17b0); (try clear c17b1); (try clear c17b2); (try clear c18); (try clear hcv23); (try clear hcv24); (try clear c31); (try clear c31b0); (try clear c31b1); (try clear c32); (try clear c32b0); (try clear c32b1); (try clear c33); (try clear c33b0); (try clear c33b1); (try clear c34); (try clear c34b0); (try clear c34b1); (try clear c38); (try clear c38b0); (try clear c38b1); (try clear c44); (try clear c44b0); (try clear c44b1); (try clear c45); (try clear c45b0); (try clear c45b1); (try clear c46); (try clear c47); (try clear c47b0); (try clear c47b1); (try clear c49); (try clear c49b0); (try clear c50); (try clear c50b0); (try clear c50b1); (try clear c53); (try clear c54); (try clear c54b0); (try clear c54b1); (try clear c55); (try clear c55b0); (try clear c56); (try clear c56b0); (try clear c57); (try clear c57b0); (try clear c57b1); (try clear c63); (try clear c64); (try clear c64b0); (try clear p64); (try clear c66); (try clear c66b0); (try clear c67); (try clear c67b0); (try clear c68); (try clear c68b0); (try clear c68b1); (try clear c69); (try clear c69b0); (try clear c69b1); (try clear c73); (try clear c73b0); (try clear c73b1); (try clear c74); (try clear c74b0); (try clear c74b1); (try clear c75); (try clear c75b0); (try clear c75b1); (try clear c79); (try clear c79b0); (try clear c83); (try clear c83b0); (try clear c83b1); (try clear c84); (try clear c84b0); (try clear c84b1); (try clear c86); (try clear c86b0); (try clear c86b1); (try clear c87); (try clear c87b0); (try clear c91); (try clear q91); (try clear hcv92); (try clear hcv93); (try clear c94); (try clear q94); (try clear c96); (try clear c96b0); (try clear c96b1); (try clear c97); (try clear c97b0); (try clear c97b1); (try clear c98); (try clear c98b0); (try clear c98b1); (try clear c104); (try clear c105); (try clear c105b0); (try clear c107); (try clear c107b0); (try clear c108); (try clear c108b0); (try clear c109); (try clear c109b0); (try clear c109b1); (try clear c110); (try clear c110b0); (try clear c110b1); (try clear c114); (try clear c114b0); (try clear c114b1); (try clear c115); (try clear c115b0); (try clear c115b1); (try clear c116); (try clear c116b0); (try clear c116b1); (try clear c120); (try clear c120b0); (try clear p121); (try clear q121); (try clear hx121); (try clear p122); (try clear q122); (try clear hx122); (try clear c124); (try clear c124b0); (try clear c124b1); (try clear c125); (try clear c125b0); (try clear c125b1); (try clear c127); (try clear c127b0); (try clear c127b1); (try clear c128); (try clear c128b0); (try clear c132); (try clear q132); (try clear hcv133); (try clear hcv134); (try clear c135); (try clear q135); (try clear c137); (try clear c137b0); (try clear p137); (try clear q137); (try clear hx137); (try clear p138); (try clear q138); (try clear hx138); (try clear qi138); (try clear p139); (try clear q139); (try clear hx139); (try clear qi139); (try clear hcz103_0); (try clear hcz103_1); (try clear hcz112_0); (try clear hcz112_1); (try clear hcz118_0); (try clear hcz118_1); (try clear hcz122_0); (try clear hcz122_1); (try clear hcz130_0); (try clear hcz130_1); (try clear hcz138_0); (try clear hcz138_1); (try clear hcz142_0); (try clear hcz142_1); (try clear hcz36_0); (try clear hcz36_1); (try clear hcz40_0); (try clear hcz40_1); (try clear hcz48_0); (try clear hcz48_1); (try clear hcz51_0); (try clear hcz51_1); (try clear hcz58_0); (try clear hcz58_1); (try clear hcz62_0); (try clear hcz62_1); (try clear hcz71_0); (try clear hcz71_1); (try clear hcz77_0); (try clear hcz77_1); (try clear hcz81_0); (try clear hcz81_1); (try clear hcz89_0); (try clear hcz89_1); (try clear hcz99_0); (try clear hcz99_1); (try clear hfz103_0); (try clear hfz103_1); (try clear hfz112_0); (try clear hfz112_1); (try clear hfz118_0); (try clear hfz118_1); (try clear hfz122_0); (try clear hfz122_1); (try clear hfz130_0); (try clear hfz130_1); (try clear hfz138_0); (try clear hfz138_1); (try clear hfz142_0); (try clear hfz142_1); (try clear hfz36_0); (try clear hfz36_1); (try clear hfz40_0); (try clear hfz40_1); (try clear hfz48_0); (try clear hfz48_1); (try clear hfz51_0); (try clear hfz51_1); (try clear hfz58_0); (try clear hfz58_1); (try clear hfz62_0); (try clear hfz62_1); (try clear hfz71_0); (try clear hfz71_1); (try clear hfz77_0); (try clear hfz77_1); (try clear hfz81_0); (try clear hfz81_1); (try clear hfz89_0); (try clear hfz89_1); (try clear hfz99_0); (try clear hfz99_1); (try clear hx121_0); (try clear hx122_0); (try clear hx137_0); (try clear hx138_0); (try clear hx139_0); (try clear hx147_0); (try clear hx148_0); (try clear p1); (try clear p12); (try clear p121); (try clear p122); (try clear p13); (try clear p137); (try clear p138); (try clear p139); (try clear p14); (try clear p147); (try clear p148); (try clear p2); (try clear p6); (try clear p64); (try clear q1); (try clear q12); (try clear q121); (try clear q122); (try clear q13); (try clear q132); (try clear q135); (try clear q137); (try clear q138); (try clear q139); (try clear q14); (try clear q147); (try clear q148); (try clear q9); (try clear q91); (try clear q94)
                obtain ⟨x12_4, x14_4, x15_4, x134000_4, u134000, rfl, rfl, rfl, HA, HK4, HO_6, HO_134000, BK133, HB⟩ := hrel
                cases gk with
                | zero => exact absurd HA.out (by simp [rhynelaw23_DoqBack.l2])
                | succ k4 =>
                 have H := HA.out
                 clear HA
                 simp only [rhynelaw23_DoqBack.l2] at H
                 by_cases c143 : x15_4 = true
                 ·
                  subst c143
                  have H1 : (if x12_4 ≥ (x6_1.length : Int) then (some false) else (if 0 ≤ x12_4 then (if x12_4 < (x6_1.length : Int) then (if x14_4.toList = (rdOf ByteArray.empty x6_1 x12_4).toList then (if (x134000_4.length : Int) < 2 then (rhynelaw23_DoqBack.l2 k4 (wrap64 (1 + (wrap64 (Int.tmod (IntKind.u64.wrap (a1)) 500)))) (x5_3.extract ((ji43) : Int).toNat x5_3.size) x6_1 (wrap64 (x12_4 + 1)) (⟨#[]⟩ : ByteArray) false x134000_4 false) else (if 0 < (x134000_4.length : Int) then (if 1 < (x134000_4.length : Int) then (if (wrap64 ((wrap64 (2 + (wrap64 ((wrap64 (rd x134000_4 0)) * 256)))) + (wrap64 (rd x134000_4 1)))) = 2 then (rhynelaw23_DoqBack.l2 k4 (wrap64 (1 + (wrap64 (Int.tmod (IntKind.u64.wrap (a1)) 500)))) (x5_3.extract ((ji43) : Int).toNat x5_3.size) x6_1 (wrap64 (x12_4 + 1)) (⟨#[]⟩ : ByteArray) false x134000_4 false) else (if (x134000_4.length : Int) < (wrap64 ((wrap64 (2 + (wrap64 ((wrap64 (rd x134000_4 0)) * 256)))) + (wrap64 (rd x134000_4 1)))) then (rhynelaw23_DoqBack.l2 k4 (wrap64 (1 + (wrap64 (Int.tmod (IntKind.u64.wrap (a1)) 500)))) (x5_3.extract ((ji43) : Int).toNat x5_3.size) x6_1 (wrap64 (x12_4 + 1)) (⟨#[]⟩ : ByteArray) false x134000_4 false) else (if 2 ≤ (wrap64 ((wrap64 (2 + (wrap64 ((wrap64 (rd x134000_4 0)) * 256)))) + (wrap64 (rd x134000_4 1)))) then (if (wrap64 ((wrap64 (2 + (wrap64 ((wrap64 (rd x134000_4 0)) * 256)))) + (wrap64 (rd x134000_4 1)))) ≤ (x134000_4.length : Int) then (if 0 ≤ (wrap64 ((wrap64 (2 + (wrap64 ((wrap64 (rd x134000_4 0)) * 256)))) + (wrap64 (rd x134000_4 1)))) then (rhynelaw23_DoqBack.l2 k4 (wrap64 (1 + (wrap64 (Int.tmod (IntKind.u64.wrap (a1)) 500)))) (x5_3.extract ((ji43) : Int).toNat x5_3.size) x6_1 (wrap64 (x12_4 + 1)) (strOfNums ((x134000_4.take ((wrap64 ((wrap64 (2 + (wrap64 ((wrap64 (rd x134000_4 0)) * 256)))) + (wrap64 (rd x134000_4 1)))) : Int).toNat).drop 2)) true (x134000_4.drop ((wrap64 ((wrap64 (2 + (wrap64 ((wrap64 (rd x134000_4 0)) * 256)))) + (wrap64 (rd x134000_4 1)))) : Int).toNat) false) else (none)) else (none)) else (none)))) else (none)) else (none))) else (some false)) else (none)) else (none))) = some r := by rw [if_pos rfl] at H; exact H
                  clear H
                  have H := H1
                  clear H1
                  by_cases c144 : x12_4 ≥ (x6_1.length : Int)
                  ·
                   rw [if_pos c144] at H
                   have c144b0 : decide ((x6_1.length : Int) ≤ x12_4) = true := decide_eq_true c144
                   clear c144
                   obtain rfl := Option.some.inj H
                   obtain ⟨Ao145, co145, eo145⟩ := Kd.R_slice HO_6.out
                   subst eo145
                   go_wp2
                   repeat (go_quiet (fail); try go_wp2)
                   go_ret
                   exact ⟨by first | rfl | (simp [errW_none, errW_some] <;> rfl) | (simp only [← hji43]; first | rfl | (simp [errW_none, errW_some] <;> rfl)) | (simp [*, errW_none, errW_some] <;> rfl), by repeat (first | (with_reducible first | exact HB.out | apply below_alloc | apply pw_below_drewN | apply below_drew1 | refine below_set ?_ GE133.out) | exact HB.out)⟩
                  rw [if_neg c144] at H
                  have c144b0 : decide ((x6_1.length : Int) ≤ x12_4) = false := decide_eq_false c144
                  clear c144
                  by_cases c146 : 0 ≤ x12_4
                  ·
                   rw [if_pos c146] at H
                   have c146b0 : decide (0 ≤ x12_4) = true := decide_eq_true c146
                   clear c146
                   by_cases c147 : x12_4 < (x6_1.length : Int)
                   ·
                    rw [if_pos c147] at H
                    have c147b0 : decide (x12_4 < (x6_1.length : Int)) = true := decide_eq_true c147
                    clear c147
                    by_cases c148 : x14_4.toList = (rdOf ByteArray.empty x6_1 x12_4).toList
                    ·
                     rw [if_pos c148] at H
                     have c148b0 : (x14_4.toList == (rdOf ByteArray.empty x6_1 x12_4).toList) = true := beq_iff_eq.mpr c148
                     have c148b1 : (x14_4.toList != (rdOf ByteArray.empty x6_1 x12_4).toList) = false := bne_eq_false_iff_eq.mpr c148
                     clear c148
                     by_cases c149 : (x134000_4.length : Int) < 2
                     ·
                      rw [if_pos c149] at H
                      have c149b0 : decide ((x134000_4.length : Int) < 2) = true := decide_eq_true c149
                      have c149b1 : decide (x134000_4.length < 2) = true := decide_eq_true (by omega)
                      clear c149
                      have H' := Aside0.mk H
                      clear H
                      obtain ⟨Ao150, co150, eo150⟩ := Kd.R_slice HO_6.out
                      subst eo150
                      have p137 : 0 ≤ (x12_4 : Int) := of_decide_eq_true (by first | (with_reducible assumption) | assumption)
                      have q137 : x12_4 < (x6_1.length : Int) := of_decide_eq_true (by first | (with_reducible assumption) | assumption)
                      obtain ⟨ad137, e137, hx137_0⟩ := Kd.at_string (Kd.R_reads' HO_6.out).2.2 x12_4 p137 q137
                      cases e137
                      replace p137 := eq_true p137
                      replace q137 := eq_true q137
                      have hcz151_0 : wr.cell? ⟨gb133, 0, none⟩ = some (u134000) := (blk_cell BK133.out 0).trans rfl
                      have hcz151_1 : wr.cell? ⟨gb133, 1, none⟩ = some (.bool false) := (blk_cell BK133.out 1).trans rfl
                      have hfz151_0 := blk_frozen BK133.out 0
                      have hfz151_1 := blk_frozen BK133.out 1
                      obtain ⟨Ao152, co152, eo152, _⟩ := Kd.Q_slice HO_134000.out
                      subst eo152
                      go_wp2_with (first | ((go_at_call 6; go_in)))
                      repeat (go_quiet (fail); try go_wp2_with (first | ((go_at_call 6; go_in))))
                      go_roundg k4
                      case measure => have := HK1.out; have := HJ5.out; have := HK3.out; have := HK4.out; omega
                      case rel => exact ⟨(wrap64 (x12_4 + 1)), ((⟨#[]⟩ : ByteArray)), (false), (x134000_4), (.slice Ao152 x134000_4.length co152), (by first | rfl | (simp; done) | (simp [*]; done)), (by first | rfl | (simp; done) | (simp [*]; done)), (by first | rfl | (simp; done) | (simp [*]; done)), H', ⟨by have := HK1.out; have := HJ5.out; have := HK3.out; have := HK4.out; omega⟩, ⟨by (with_reducible repeat (first | apply Kd.R_alloc | apply Kd.R_drewN | apply Kd.R_drew)); exact HO_6.out⟩, ⟨by (with_reducible repeat (first | apply Kd.Q_alloc | apply Kd.Q_drewN | apply Kd.Q_drew)); exact HO_134000.out⟩, ⟨by (with_reducible repeat (first | refine blk_drewN ?_ _ | refine blk_drew ?_ | refine blk_alloc ?_ _)); exact BK133.out⟩, ⟨by repeat (first | (with_reducible first | exact HB.out | apply below_alloc | apply pw_below_drewN | apply below_drew1 | refine below_set ?_ GE133.out) | exact HB.out)⟩⟩
                     rw [if_neg c149] at H
                     have c149b0 : decide ((x134000_4.length : Int) < 2) = false := decide_eq_false c149
                     have c149b1 : decide (x134000_4.length < 2) = false := decide_eq_false (by omega)
                     clear c149
                     by_cases c153 : 0 < (x134000_4.length : Int)
                     ·
                      rw [if_pos c153] at H
                      have c153b0 : decide (0 < (x134000_4.length : Int)) = true := decide_eq_true c153
                      have c153b1 : decide (0 < x134000_4.length) = true := decide_eq_true (by omega)
                      clear c153
                      by_cases c154 : 1 < (x134000_4.length : Int)
                      ·
                       rw [if_pos c154] at H
                       have c154b0 : decide (1 < (x134000_4.length : Int)) = true := decide_eq_true c154
                       have c154b1 : decide (1 < x134000_4.length) = true := decide_eq_true (by omega)
                       clear c154
                       by_cases c155 : (wrap64 ((wrap64 (2 + (wrap64 ((wrap64 (rd x134000_4 0)) * 256)))) + (wrap64 (rd x134000_4 1)))) = 2
                       ·
                        rw [if_pos c155] at H
                        have c155b0 : ((wrap64 ((wrap64 (2 + (wrap64 ((wrap64 (rd x134000_4 0)) * 256)))) + (wrap64 (rd x134000_4 1)))) == 2) = true := beq_iff_eq.mpr c155
                        have c155b1 : ((wrap64 ((wrap64 (2 + (wrap64 ((wrap64 (rd x134000_4 0)) * 256)))) + (wrap64 (rd x134000_4 1)))) != 2) = false := bne_eq_false_iff_eq.mpr c155
                        clear c155
                        have H' := Aside0.mk H
                        clear H
                        obtain ⟨Ao156, co156, eo156⟩ := Kd.R_slice HO_6.out
                        subst eo156
                        have p137 : 0 ≤ (x12_4 : Int) := of_decide_eq_true (by first | (with_reducible assumption) | assumption)
                        have q137 : x12_4 < (x6_1.length : Int) := of_decide_eq_true (by first | (with_reducible assumption) | assumption)
                        obtain ⟨ad137, e137, hx137_0⟩ := Kd.at_string (Kd.R_reads' HO_6.out).2.2 x12_4 p137 q137
                        cases e137
                        replace p137 := eq_true p137
                        replace q137 := eq_true q137
                        have hcz157_0 : wr.cell? ⟨gb133, 0, none⟩ = some (u134000) := (blk_cell BK133.out 0).trans rfl
                        have hcz157_1 : wr.cell? ⟨gb133, 1, none⟩ = some (.bool false) := (blk_cell BK133.out 1).trans rfl
                        have hfz157_0 := blk_frozen BK133.out 0
                        have hfz157_1 := blk_frozen BK133.out 1
                        obtain ⟨Ao158, co158, eo158, _⟩ := Kd.Q_slice HO_134000.out
                        subst eo158
                        have p138 : 0 ≤ (0 : Int) := (by omega)
                        have q138 : 0 < (x134000_4.length : Int) := of_decide_eq_true (by first | (with_reducible assumption) | assumption)
                        obtain ⟨ad138, e138, hx138_0⟩ := Kd.at_int (Kd.Q_reads' HO_134000.out).2.2 0 p138 q138
                        cases e138
                        have qi138 : (0 < x134000_4.length) = True := eq_true (by omega)
                        (try rw [show ((0 : Int)).toNat = 0 from rfl] at hx138_0)
                        (try rw [Addr.add_zero'] at hx138_0)
                        replace p138 := eq_true p138
                        replace q138 := eq_true q138
                        have p139 : 0 ≤ (1 : Int) := (by omega)
                        have q139 : 1 < (x134000_4.length : Int) := of_decide_eq_true (by first | (with_reducible assumption) | assumption)
                        obtain ⟨ad139, e139, hx139_0⟩ := Kd.at_int (Kd.Q_reads' HO_134000.out).2.2 1 p139 q139
                        obtain rfl : ad138 = ad139 := (by injection e139)
                        (try simp only [show (1 : Int).toNat = 1 from rfl, Nat.reduceMul, Nat.reduceEqDiff, Go.Addr.add, ↓reduceIte] at hx139_0)
                        have qi139 : (1 < x134000_4.length) = True := eq_true (by omega)
                        (try rw [show ((1 : Int)).toNat = 1 from rfl] at hx139_0)
                        replace p139 := eq_true p139
                        replace q139 := eq_true q139
                        go_wp2_with (first | ((go_at_call 6; go_in)))
                        repeat (go_quiet (fail); try go_wp2_with (first | ((go_at_call 6; go_in))))
                        go_roundg k4
                        case measure => have := HK1.out; have := HJ5.out; have := HK3.out; have := HK4.out; omega
                        case rel => exact ⟨(wrap64 (x12_4 + 1)), ((⟨#[]⟩ : ByteArray)), (false), (x134000_4), (.slice (some ad138) x134000_4.length co158), (by first | rfl | (simp; done) | (simp [*]; done)), (by first | rfl | (simp; done) | (simp [*]; done)), (by first | rfl | (simp; done) | (simp [*]; done)), H', ⟨by have := HK1.out; have := HJ5.out; have := HK3.out; have := HK4.out; omega⟩, ⟨by (with_reducible repeat (first | apply Kd.R_alloc | apply Kd.R_drewN | apply Kd.R_drew)); exact HO_6.out⟩, ⟨by (with_reducible repeat (first | apply Kd.Q_alloc | apply Kd.Q_drewN | apply Kd.Q_drew)); exact HO_134000.out⟩, ⟨by (with_reducible repeat (first | refine blk_drewN ?_ _ | refine blk_drew ?_ | refine blk_alloc ?_ _)); exact BK133.out⟩, ⟨by repeat (first | (with_reducible first | exact HB.out | apply below_alloc | apply pw_below_drewN | apply below_drew1 | refine below_set ?_ GE133.out) | exact HB.out)⟩⟩
                       rw [if_neg c155] at H
                       have c155b0 : ((wrap64 ((wrap64 (2 + (wrap64 ((wrap64 (rd x134000_4 0)) * 256)))) + (wrap64 (rd x134000_4 1)))) == 2) = false := beq_eq_false_iff_ne.mpr c155
                       have c155b1 : ((wrap64 ((wrap64 (2 + (wrap64 ((wrap64 (rd x134000_4 0)) * 256)))) + (wrap64 (rd x134000_4 1)))) != 2) = true := bne_iff_ne.mpr c155
                       by_cases c159 : (x134000_4.length : Int) < (wrap64 ((wrap64 (2 + (wrap64 ((wrap64 (rd x134000_4 0)) * 256)))) + (wrap64 (rd x134000_4 1))))
                       ·
                        rw [if_pos c159] at H
                        have c159b0 : decide ((x134000_4.length : Int) < (wrap64 ((wrap64 (2 + (wrap64 ((wrap64 (rd x134000_4 0)) * 256)))) + (wrap64 (rd x134000_4 1))))) = true := decide_eq_true c159
                        clear c159
                        have H' := Aside0.mk H
                        clear H
                        obtain ⟨Ao160, co160, eo160⟩ := Kd.R_slice HO_6.out
                        subst eo160
                        have p137 : 0 ≤ (x12_4 : Int) := of_decide_eq_true (by first | (with_reducible assumption) | assumption)
                        have q137 : x12_4 < (x6_1.length : Int) := of_decide_eq_true (by first | (with_reducible assumption) | assumption)
                        obtain ⟨ad137, e137, hx137_0⟩ := Kd.at_string (Kd.R_reads' HO_6.out).2.2 x12_4 p137 q137
                        cases e137
                        replace p137 := eq_true p137
                        replace q137 := eq_true q137
                        have hcz161_0 : wr.cell? ⟨gb133, 0, none⟩ = some (u134000) := (blk_cell BK133.out 0).trans rfl
                        have hcz161_1 : wr.cell? ⟨gb133, 1, none⟩ = some (.bool false) := (blk_cell BK133.out 1).trans rfl
                        have hfz161_0 := blk_frozen BK133.out 0
                        have hfz161_1 := blk_frozen BK133.out 1
                        obtain ⟨Ao162, co162, eo162, _⟩ := Kd.Q_slice HO_134000.out
                        subst eo162
                        have p138 : 0 ≤ (0 : Int) := (by omega)
                        have q138 : 0 < (x134000_4.length : Int) := of_decide_eq_true (by first | (with_reducible assumption) | assumption)
                        obtain ⟨ad138, e138, hx138_0⟩ := Kd.at_int (Kd.Q_reads' HO_134000.out).2.2 0 p138 q138
                        cases e138
                        have qi138 : (0 < x134000_4.length) = True := eq_true (by omega)
                        (try rw [show ((0 : Int)).toNat = 0 from rfl] at hx138_0)
                        (try rw [Addr.add_zero'] at hx138_0)
                        replace p138 := eq_true p138
                        replace q138 := eq_true q138
                        have p139 : 0 ≤ (1 : Int) := (by omega)
                        have q139 : 1 < (x134000_4.length : Int) := of_decide_eq_true (by first | (with_reducible assumption) | assumption)
                        obtain ⟨ad139, e139, hx139_0⟩ := Kd.at_int (Kd.Q_reads' HO_134000.out).2.2 1 p139 q139
                        obtain rfl : ad138 = ad139 := (by injection e139)
                        (try simp only [show (1 : Int).toNat = 1 from rfl, Nat.reduceMul, Nat.reduceEqDiff, Go.Addr.add, ↓reduceIte] at hx139_0)
                        have qi139 : (1 < x134000_4.length) = True := eq_true (by omega)
                        (try rw [show ((1 : Int)).toNat = 1 from rfl] at hx139_0)
                        replace p139 := eq_true p139
                        replace q139 := eq_true q139
                        go_wp2_with (first | ((go_at_call 6; go_in)))
                        repeat (go_quiet (fail); try go_wp2_with (first | ((go_at_call 6; go_in))))
                        go_roundg k4
                        case measure => have := HK1.out; have := HJ5.out; have := HK3.out; have := HK4.out; omega
                        case rel => exact ⟨(wrap64 (x12_4 + 1)), ((⟨#[]⟩ : ByteArray)), (false), (x134000_4), (.slice (some ad138) x134000_4.length co162), (by first | rfl | (simp; done) | (simp [*]; done)), (by first | rfl | (simp; done) | (simp [*]; done)), (by first | rfl | (simp; done) | (simp [*]; done)), H', ⟨by have := HK1.out; have := HJ5.out; have := HK3.out; have := HK4.out; omega⟩, ⟨by (with_reducible repeat (first | apply Kd.R_alloc | apply Kd.R_drewN | apply Kd.R_drew)); exact HO_6.out⟩, ⟨by (with_reducible repeat (first | apply Kd.Q_alloc | apply Kd.Q_drewN | apply Kd.Q_drew)); exact HO_134000.out⟩, ⟨by (with_reducible repeat (first | refine blk_drewN ?_ _ | refine blk_drew ?_ | refine blk_alloc ?_ _)); exact BK133.out⟩, ⟨by repeat (first | (with_reducible first | exact HB.out | apply below_alloc | apply pw_below_drewN | apply below_drew1 | refine below_set ?_ GE133.out) | exact HB.out)⟩⟩
                       rw [if_neg c159] at H
                       have c159b0 : decide ((x134000_4.length : Int) < (wrap64 ((wrap64 (2 + (wrap64 ((wrap64 (rd x134000_4 0)) * 256)))) + (wrap64 (rd x134000_4 1))))) = false := decide_eq_false c159
                       clear c159
                       by_cases c163 : 2 ≤ (wrap64 ((wrap64 (2 + (wrap64 ((wrap64 (rd x134000_4 0)) * 256)))) + (wrap64 (rd x134000_4 1))))
                       ·
                        rw [if_pos c163] at H
                        have c163b0 := eq_true c163
                        try (have c163b0q := c163b0; rw [hszn_ji11] at c163b0q)
                        have c163b1 : decide (2 ≤ (wrap64 ((wrap64 (2 + (wrap64 ((wrap64 (rd x134000_4 0)) * 256)))) + (wrap64 (rd x134000_4 1))))) = true := decide_eq_true c163
                        by_cases c164 : (wrap64 ((wrap64 (2 + (wrap64 ((wrap64 (rd x134000_4 0)) * 256)))) + (wrap64 (rd x134000_4 1)))) ≤ (x134000_4.length : Int)
                        ·
                         rw [if_pos c164] at H
                         have c164b0 := eq_true c164
                         try (have c164b0q := c164b0; rw [hszn_ji11] at c164b0q)
                         have c164b1 : decide ((wrap64 ((wrap64 (2 + (wrap64 ((wrap64 (rd x134000_4 0)) * 256)))) + (wrap64 (rd x134000_4 1)))) ≤ (x134000_4.length : Int)) = true := decide_eq_true c164
                         obtain ⟨y140, hy140⟩ : ∃ y_ : List Int, y_ = ((x134000_4.take ((wrap64 ((wrap64 (2 + (wrap64 ((wrap64 (rd x134000_4 0)) * 256)))) + (wrap64 (rd x134000_4 1)))) : Int).toNat).drop 2) := ⟨_, rfl⟩
                         replace H : (if 0 ≤ (wrap64 ((wrap64 (2 + (wrap64 ((wrap64 (rd x134000_4 0)) * 256)))) + (wrap64 (rd x134000_4 1)))) then (rhynelaw23_DoqBack.l2 k4 (wrap64 (1 + (wrap64 (Int.tmod (IntKind.u64.wrap (a1)) 500)))) (x5_3.extract ((ji43) : Int).toNat x5_3.size) x6_1 (wrap64 (x12_4 + 1)) (strOfNums y140) true (x134000_4.drop ((wrap64 ((wrap64 (2 + (wrap64 ((wrap64 (rd x134000_4 0)) * 256)))) + (wrap64 (rd x134000_4 1)))) : Int).toNat) false) else (none)) = some r := by first | (rw [hy140]; with_reducible exact H) | (have H2_ := (Option.bind_some _ _).symm.trans H; rw [hy140]; with_reducible exact H2_) | (have H2_ := (Option.bind_some _ _).symm.trans H; with_reducible exact H2_) | with_reducible exact H | (rw [hy140]; exact H) | exact H
                         have Ny140 := Aside0.mk hy140
                         clear hy140
                         obtain ⟨ji165, hji165⟩ : ∃ j_ : Int, (wrap64 ((wrap64 (2 + (wrap64 ((wrap64 (rd x134000_4 0)) * 256)))) + (wrap64 (rd x134000_4 1)))) = j_ := ⟨_, rfl⟩
                         replace H : (if 0 ≤ (ji165) then (rhynelaw23_DoqBack.l2 k4 (wrap64 (1 + (wrap64 (Int.tmod (IntKind.u64.wrap (a1)) 500)))) (x5_3.extract ((ji43) : Int).toNat x5_3.size) x6_1 (wrap64 (x12_4 + 1)) (strOfNums y140) true (x134000_4.drop ((ji165) : Int).toNat) false) else (none)) = some r := by first | (rw [hji165] at H; exact H) | (simp only [hji165] at H ⊢; exact H)
                         (try rw [hji165] at c155b0)
                         (try rw [hji165] at c155b1)
                         (try rw [hji165] at c159b0)
                         (try rw [hji165] at c163b0)
                         (try rw [hji165] at c163b1)
                         (try rw [hji165] at c163)
                         (try rw [hji165] at c164b0)
                         (try rw [hji165] at c164b1)
                         (try rw [hji165] at c164)
                         (try rw [hji165] at Ny140)
                         (try rw [hji165] at Ny140)
                         have hji165w : (IntKind.i64.wrap ((wrap64 (2 + (wrap64 ((wrap64 (rd x134000_4 0)) * 256)))) + (wrap64 (rd x134000_4 1)))) = ji165 := (i64_w _).trans hji165
                         by_cases c166 : 0 ≤ (ji165)
                         ·
                          rw [if_pos c166] at H
                          have c166b0 := eq_true c166
                          try (have c166b0q := c166b0; rw [hszn_ji11] at c166b0q)
                          have c166b1 : decide (0 ≤ (ji165)) = true := decide_eq_true c166
                          clear c166
                          have c167b0 := eq_true (of_decide_eq_true (by first | (with_reducible assumption) | assumption) : (ji165) ≤ (x134000_4.length : Int))
                          obtain ⟨y144, hy144⟩ : ∃ y_ : List Int, y_ = (x134000_4.drop ((ji165) : Int).toNat) := ⟨_, rfl⟩
                          replace H : (rhynelaw23_DoqBack.l2 k4 (wrap64 (1 + (wrap64 (Int.tmod (IntKind.u64.wrap (a1)) 500)))) (x5_3.extract ((ji43) : Int).toNat x5_3.size) x6_1 (wrap64 (x12_4 + 1)) (strOfNums y140) true y144 false) = some r := by first | (rw [hy144]; with_reducible exact H) | (have H2_ := (Option.bind_some _ _).symm.trans H; rw [hy144]; with_reducible exact H2_) | (have H2_ := (Option.bind_some _ _).symm.trans H; with_reducible exact H2_) | with_reducible exact H | (rw [hy144]; exact H) | exact H
                          have Ny144 := Aside0.mk hy144
                          clear hy144
                          have H' := Aside0.mk H
                          clear H
                          obtain ⟨Ao168, co168, eo168⟩ := Kd.R_slice HO_6.out
                          subst eo168
                          have p137 : 0 ≤ (x12_4 : Int) := of_decide_eq_true (by first | (with_reducible assumption) | assumption)
                          have q137 : x12_4 < (x6_1.length : Int) := of_decide_eq_true (by first | (with_reducible assumption) | assumption)
                          obtain ⟨ad137, e137, hx137_0⟩ := Kd.at_string (Kd.R_reads' HO_6.out).2.2 x12_4 p137 q137
                          cases e137
                          replace p137 := eq_true p137
                          replace q137 := eq_true q137
                          have hcz169_0 : wr.cell? ⟨gb133, 0, none⟩ = some (u134000) := (blk_cell BK133.out 0).trans rfl
                          have hcz169_1 : wr.cell? ⟨gb133, 1, none⟩ = some (.bool false) := (blk_cell BK133.out 1).trans rfl
                          have hfz169_0 := blk_frozen BK133.out 0
                          have hfz169_1 := blk_frozen BK133.out 1
                          obtain ⟨Ao170, co170, eo170, _⟩ := Kd.Q_slice HO_134000.out
                          subst eo170
                          have p138 : 0 ≤ (0 : Int) := (by omega)
                          have q138 : 0 < (x134000_4.length : Int) := of_decide_eq_true (by first | (with_reducible assumption) | assumption)
                          obtain ⟨ad138, e138, hx138_0⟩ := Kd.at_int (Kd.Q_reads' HO_134000.out).2.2 0 p138 q138
                          cases e138
                          have qi138 : (0 < x134000_4.length) = True := eq_true (by omega)
                          (try rw [show ((0 : Int)).toNat = 0 from rfl] at hx138_0)
                          (try rw [Addr.add_zero'] at hx138_0)
                          replace p138 := eq_true p138
                          replace q138 := eq_true q138
                          have p139 : 0 ≤ (1 : Int) := (by omega)
                          have q139 : 1 < (x134000_4.length : Int) := of_decide_eq_true (by first | (with_reducible assumption) | assumption)
                          obtain ⟨ad139, e139, hx139_0⟩ := Kd.at_int (Kd.Q_reads' HO_134000.out).2.2 1 p139 q139
                          obtain rfl : ad138 = ad139 := (by injection e139)
                          (try simp only [show (1 : Int).toNat = 1 from rfl, Nat.reduceMul, Nat.reduceEqDiff, Go.Addr.add, ↓reduceIte] at hx139_0)
                          have qi139 : (1 < x134000_4.length) = True := eq_true (by omega)
                          (try rw [show ((1 : Int)).toNat = 1 from rfl] at hx139_0)
                          replace p139 := eq_true p139
                          replace q139 := eq_true q139
                          have q171 : ((ji165) : Int) ≤ ((x134000_4.length : Int) : Int) := of_decide_eq_true (by first | (with_reducible assumption) | assumption)
                          obtain ⟨i0171, hi0171, _, hsz171, _⟩ := info_parts info5
                          have hroom171 : x134000_4.length ≤ co170 := (Kd.Q_reads' HO_134000.out).2.1
                          have hC171 : Kd.C (Kd.int .u8) _ (some ad138) x134000_4.length x134000_4 := (Kd.Q_reads' HO_134000.out).2.2
                          have ql171 : (2 : Int) ≤ ((ji165) : Int) := of_decide_eq_true (by first | (with_reducible assumption) | assumption)
                          have hcut171 := cut_mid (P := Try.prog) 23 5 .i64 .i64 Try.underlying23 hi0171 1 hsz171 (some ad138) x134000_4.length co170 2 (ji165) (by omega) ql171 q171 hroom171
                          have hr171 := Kd.C_mid (lo := (2 : Int).toNat) (hi := ((ji165) : Int).toNat) (c := co170) hC171 (by omega) (by omega) hroom171
                          obtain ⟨A171, hA171⟩ : ∃ A1, A1 = (if co170 = (2 : Int).toNat then (some ad138) else ((some ad138) : Option Addr).map (·.add ((2 : Int).toNat * 1))) := ⟨_, rfl⟩
                          obtain ⟨c171, hc171⟩ : ∃ c1, c1 = co170 - (2 : Int).toNat := ⟨_, rfl⟩
                          have hy171 : y140.length = ((ji165) : Int).toNat - (2 : Int).toNat := (by rw [Ny140.out, List.length_drop, List.length_take] <;> omega)
                          rw [show ((x134000_4).take ((ji165) : Int).toNat).drop (2 : Int).toNat = y140 from Ny140.out.symm] at hr171
                          replace hr171 : Kd.C (Kd.int .u8) _ A171 y140.length y140 := (by rw [hA171]; exact hr171)
                          rw [← hy171, ← hA171, ← hc171] at hcut171
                          have HR143 := Aside0.mk hr171
                          have HC143 := Aside0.mk (show y140.length ≤ c171 from by rw [hy171, hc171]; exact Nat.sub_le_sub_right (Nat.le_trans (by omega) hroom171) _)
                          clear hr171 hC171 hroom171 hi0171 hsz171 hc171
                          have KY171 := Aside0.mk hy171
                          have KA171 := Aside0.mk hA171
                          clear hy171 hA171
                          have KL171 := Aside0.mk (show ((ji165) : Int).toNat ≤ x134000_4.length from by omega)
                          have KM171 := Aside0.mk (show 2 ≤ ((ji165) : Int).toNat from by omega)
                          replace q171 := eq_true q171
                          have hcv172 := Kd.C_string (P := Try.prog) (A := A171) (c := c171) Try.underlying23 Try.underlying5 Try.underlying9 (by repeat (first | (with_reducible exact HR143.out) | (with_reducible refine Kd.C_alloc ?_ _) | (with_reducible refine Kd.C_drewN ?_ _) | (with_reducible refine Kd.C_drew ?_) | exact HR143.out))
                          have hcv173 := fun m_ : Nat => Kd.C_string (P := Try.prog) (A := A171) (c := c171) Try.underlying23 Try.underlying5 Try.underlying9 (Kd.C_drewN (by repeat (first | (with_reducible exact HR143.out) | (with_reducible refine Kd.C_alloc ?_ _) | (with_reducible refine Kd.C_drewN ?_ _) | (with_reducible refine Kd.C_drew ?_) | exact HR143.out)) m_)
                          have q174 : ((ji165) : Int) ≤ ((x134000_4.length : Int) : Int) := of_decide_eq_true (by first | (with_reducible assumption) | assumption)
                          obtain ⟨i0174, hi0174, _, hsz174, _⟩ := info_parts info5
                          have hcut174 := cut_from (P := Try.prog) 23 5 .i64 Try.underlying23 hi0174 1 hsz174 (some ad138) x134000_4.length co170 (ji165) (of_decide_eq_true (by first | (with_reducible assumption) | assumption)) q174
                          have hr174 := Kd.Q_drop (k := ((ji165) : Int).toNat) HO_134000.out (by omega)
                          obtain ⟨A174, hA174⟩ : ∃ A1, A1 = (if co170 = ((ji165) : Int).toNat then (some ad138) else ((some ad138) : Option Addr).map (·.add (((ji165) : Int).toNat * 1))) := ⟨_, rfl⟩
                          obtain ⟨c174, hc174⟩ : ∃ c1, c1 = co170 - ((ji165) : Int).toNat := ⟨_, rfl⟩
                          have hy174 : y144.length = x134000_4.length - ((ji165) : Int).toNat := (by rw [Ny144.out, List.length_drop])
                          rw [← Ny144.out] at hr174
                          rw [← hy174, ← hA174, ← hc174] at hcut174
                          replace hr174 : Kd.Q (Kd.int .u8) 5 wr w.heap.size (fun _ => True) (.slice A174 y144.length c174) y144 := (by rw [hA174, hc174, hy174]; exact hr174)
                          have HE174 : Aside0 ((Value.slice A174 y144.length c174).ownBlock = (.slice (some ad138) x134000_4.length co170 : Value).ownBlock) := ⟨by rw [hA174]; split <;> (first | rfl | (simp [Value.ownBlock, add_block]))⟩
                          clear hy174 hi0174 hsz174 HO_134000 hA174 hc174
                          have HO146 := Aside0.mk hr174
                          clear hr174
                          replace q174 := eq_true q174
                          go_wp2_with (first | ((go_at_call 6; go_in)))
                          repeat (go_quiet (fail); try go_wp2_with (first | ((go_at_call 6; go_in))))
                          go_roundg k4
                          case measure => have := HK1.out; have := HJ5.out; have := HK3.out; have := HK4.out; omega
                          case rel => exact ⟨(wrap64 (x12_4 + 1)), (strOfNums y140), (true), (y144), (.slice A174 y144.length c174), (by first | rfl | (simp; done) | (simp [*]; done)), (by first | rfl | (simp; done) | (simp [*]; done)), (by first | rfl | (simp; done) | (simp [*]; done)), H', ⟨by have := HK1.out; have := HJ5.out; have := HK3.out; have := HK4.out; omega⟩, ⟨by (with_reducible repeat (first | apply Kd.R_alloc | apply Kd.R_drewN | apply Kd.R_drew)); exact Kd.R_mono (Kd.R_far (p := ⟨gb133, 0, none⟩) (Kd.R_types HO_6.out BK133.out (by decide)) (fun _ hk => hk.2) (.slice A174 y144.length c174)) (fun _ hk => trivial)⟩, ⟨by (with_reducible repeat (first | apply Kd.Q_alloc | apply Kd.Q_drewN | apply Kd.Q_drew)); exact Kd.Q_mono (Kd.Q_far (p := ⟨gb133, 0, none⟩) (Kd.Q_types HO146.out BK133.out (by decide)) (fun _ hk => hk.2) (.slice A174 y144.length c174)) (fun _ hk => trivial)⟩, ⟨by (with_reducible repeat (first | refine blk_drewN ?_ _ | refine blk_drew ?_ | refine blk_alloc ?_ _)); refine blk_put (cs := #[.slice (some ad138) x134000_4.length co170, .bool false]) ?_ 0 _ rfl; (with_reducible repeat (first | refine blk_drewN ?_ _ | refine blk_drew ?_ | refine blk_alloc ?_ _)); exact BK133.out⟩, ⟨by repeat (first | (with_reducible first | exact HB.out | apply below_alloc | apply pw_below_drewN | apply below_drew1 | refine below_set ?_ GE133.out) | exact HB.out)⟩⟩
                         rw [if_neg c166] at H
                         exact absurd H (by simp)
                        rw [if_neg c164] at H
                        exact absurd H (by simp)
                       rw [if_neg c163] at H
                       exact absurd H (by simp)
                      rw [if_neg c154] at H
                      exact absurd H (by simp)
                     rw [if_neg c153] at H
                     exact absurd H (by simp)
                    rw [if_neg c148] at H
                    have c148b0 : (x14_4.toList == (rdOf ByteArray.empty x6_1 x12_4).toList) = false := beq_eq_false_iff_ne.mpr c148
                    have c148b1 : (x14_4.toList != (rdOf ByteArray.empty x6_1 x12_4).toList) = true := bne_iff_ne.mpr c148
                    obtain rfl := Option.some.inj H
                    obtain ⟨Ao175, co175, eo175⟩ := Kd.R_slice HO_6.out
                    subst eo175
                    have p137 : 0 ≤ (x12_4 : Int) := of_decide_eq_true (by first | (with_reducible assumption) | assumption)
                    have q137 : x12_4 < (x6_1.length : Int) := of_decide_eq_true (by first | (with_reducible assumption) | assumption)
                    obtain ⟨ad137, e137, hx137_0⟩ := Kd.at_string (Kd.R_reads' HO_6.out).2.2 x12_4 p137 q137
                    cases e137
                    replace p137 := eq_true p137
                    replace q137 := eq_true q137
                    go_wp2
                    repeat (go_quiet (fail); try go_wp2)
                    go_ret
                    exact ⟨by first | rfl | (simp [errW_none, errW_some] <;> rfl) | (simp only [← hji43]; first | rfl | (simp [errW_none, errW_some] <;> rfl)) | (simp [*, errW_none, errW_some] <;> rfl), by repeat (first | (with_reducible first | exact HB.out | apply below_alloc | apply pw_below_drewN | apply below_drew1 | refine below_set ?_ GE133.out) | exact HB.out)⟩
                   rw [if_neg c147] at H
                   exact absurd H (by simp)
                  rw [if_neg c146] at H
                  exact absurd H (by simp)
                 replace c143 := Bool.eq_false_iff.mpr c143
                 subst c143
                 have H1 : (rhynelaw23_DoqBack.l1 k4 (wrap64 (1 + (wrap64 (Int.tmod (IntKind.u64.wrap (a1)) 500)))) (x5_3.extract ((ji43) : Int).toNat x5_3.size) x6_1 x12_4 x134000_4 false) = some r := by rw [if_neg (show ¬ (false = true) by decide)] at H; exact H
                 clear H
                 have H := H1
                 clear H1
                 have H' := Aside0.mk H
                 clear H
                 go_wp2
                 repeat (go_quiet (fail); try go_wp2)
                 go_roundg k4
                 case measure => have := HK1.out; have := HJ5.out; have := HK3.out; have := HK4.out; omega
                 case rel => exact ⟨((x5_3.extract ((ji43) : Int).toNat x5_3.size)), (x12_4), (x134000_4), (u134000), (by first | rfl | (simp; done) | (simp only [← hji43] <;> (first | rfl | simp)) | (simp [*]; done)), (by first | rfl | (simp; done) | (simp [*]; done)), H', ⟨by have := HK1.out; have := HJ5.out; have := HK3.out; have := HK4.out; omega⟩, ⟨by (with_reducible repeat (first | apply Kd.R_alloc | apply Kd.R_drewN | apply Kd.R_drew)); exact HO_6.out⟩, ⟨by (with_reducible repeat (first | apply Kd.Q_alloc | apply Kd.Q_drewN | apply Kd.Q_drew)); exact HO_134000.out⟩, ⟨by (with_reducible repeat (first | refine blk_drewN ?_ _ | refine blk_drew ?_ | refine blk_alloc ?_ _)); exact BK133.out⟩, ⟨by repeat (first | (with_reducible first | exact HB.out | apply below_alloc | apply pw_below_drewN | apply below_drew1 | refine below_set ?_ GE133.out) | exact HB.out)⟩⟩
              rw [if_neg c137] at H
              have c137b0 : decide ((y134.length : Int) < (wrap64 ((wrap64 (2 + (wrap64 ((wrap64 (rd y134 0)) * 256)))) + (wrap64 (rd y134 1))))) = false := decide_eq_false c137
              clear c137
              by_cases c176 : 2 ≤ (wrap64 ((wrap64 (2 + (wrap64 ((wrap64 (rd y134 0)) * 256)))) + (wrap64 (rd y134 1))))
              ·
               rw [if_pos c176] at H
               have c176b0 := eq_true c176
               try (have c176b0q := c176b0; rw [hszn_ji11] at c176b0q)
               have c176b1 : decide (2 ≤ (wrap64 ((wrap64 (2 + (wrap64 ((wrap64 (rd y134 0)) * 256)))) + (wrap64 (rd y134 1))))) = true := decide_eq_true c176
               by_cases c177 : (wrap64 ((wrap64 (2 + (wrap64 ((wrap64 (rd y134 0)) * 256)))) + (wrap64 (rd y134 1)))) ≤ (y134.length : Int)
               ·
                rw [if_pos c177] at H
                have c177b0 := eq_true c177
                try (have c177b0q := c177b0; rw [hszn_ji11] at c177b0q)
                have c177b1 : decide ((wrap64 ((wrap64 (2 + (wrap64 ((wrap64 (rd y134 0)) * 256)))) + (wrap64 (rd y134 1)))) ≤ (y134.length : Int)) = true := decide_eq_true c177
                obtain ⟨y149, hy149⟩ : ∃ y_ : List Int, y_ = ((y134.take ((wrap64 ((wrap64 (2 + (wrap64 ((wrap64 (rd y134 0)) * 256)))) + (wrap64 (rd y134 1)))) : Int).toNat).drop 2) := ⟨_, rfl⟩
                replace H : (if 0 ≤ (wrap64 ((wrap64 (2 + (wrap64 ((wrap64 (rd y134 0)) * 256)))) + (wrap64 (rd y134 1)))) then (rhynelaw23_DoqBack.l2 k3 (wrap64 (1 + (wrap64 (Int.tmod (IntKind.u64.wrap (a1)) 500)))) (x5_3.extract ((ji43) : Int).toNat x5_3.size) x6_1 x12_3 (strOfNums y149) true (y134.drop ((wrap64 ((wrap64 (2 + (wrap64 ((wrap64 (rd y134 0)) * 256)))) + (wrap64 (rd y134 1)))) : Int).toNat) false) else (none)) = some r := by first | (rw [hy149]; with_reducible exact H) | (have H2_ := (Option.bind_some _ _).symm.trans H; rw [hy149]; with_reducible exact H2_) | (have H2_ := (Option.bind_some _ _).symm.trans H; with_reducible exact H2_) | with_reducible exact H | (rw [hy149]; exact H) | exact H
                have Ny149 := Aside0.mk hy149
                clear hy149
                obtain ⟨ji178, hji178⟩ : ∃ j_ : Int, (wrap64 ((wrap64 (2 + (wrap64 ((wrap64 (rd y134 0)) * 256)))) + (wrap64 (rd y134 1)))) = j_ := ⟨_, rfl⟩
                replace H : (if 0 ≤ (ji178) then (rhynelaw23_DoqBack.l2 k3 (wrap64 (1 + (wrap64 (Int.tmod (IntKind.u64.wrap (a1)) 500)))) (x5_3.extract ((ji43) : Int).toNat x5_3.size) x6_1 x12_3 (strOfNums y149) true (y134.drop ((ji178) : Int).toNat) false) else (none)) = some r := by first | (rw [hji178] at H; exact H) | (simp only [hji178] at H ⊢; exact H)
                (try rw [hji178] at c98b0)
                (try rw [hji178] at c98b1)
                (try rw [hji178] at c137b0)
                (try rw [hji178] at c176b0)
                (try rw [hji178] at c176b1)
                (try rw [hji178] at c176)
                (try rw [hji178] at c177b0)
                (try rw [hji178] at c177b1)
                (try rw [hji178] at c177)
                (try rw [hji178] at Ny149)
                (try rw [hji178] at Ny149)
                have hji178w : (IntKind.i64.wrap ((wrap64 (2 + (wrap64 ((wrap64 (rd y134 0)) * 256)))) + (wrap64 (rd y134 1)))) = ji178 := (i64_w _).trans hji178
                by_cases c179 : 0 ≤ (ji178)
                ·
                 rw [if_pos c179] at H
                 have c179b0 := eq_true c179
                 try (have c179b0q := c179b0; rw [hszn_ji11] at c179b0q)
                 have c179b1 : decide (0 ≤ (ji178)) = true := decide_eq_true c179
                 clear c179
                 have c180b0 := eq_true (of_decide_eq_true (by first | (with_reducible assumption) | assumption) : (ji178) ≤ (y134.length : Int))
                 obtain ⟨y153, hy153⟩ : ∃ y_ : List Int, y_ = (y134.drop ((ji178) : Int).toNat) := ⟨_, rfl⟩
                 replace H : (rhynelaw23_DoqBack.l2 k3 (wrap64 (1 + (wrap64 (Int.tmod (IntKind.u64.wrap (a1)) 500)))) (x5_3.extract ((ji43) : Int).toNat x5_3.size) x6_1 x12_3 (strOfNums y149) true y153 false) = some r := by first | (rw [hy153]; with_reducible exact H) | (have H2_ := (Option.bind_some _ _).symm.trans H; rw [hy153]; with_reducible exact H2_) | (have H2_ := (Option.bind_some _ _).symm.trans H; with_reducible exact H2_) | with_reducible exact H | (rw [hy153]; exact H) | exact H
                 have Ny153 := Aside0.mk hy153
                 clear hy153
                 have H' := Aside0.mk H
                 clear H
                 have hcz181_0 : wr.cell? ⟨gb133, 0, none⟩ = some (u134000) := (blk_cell BK133.out 0).trans rfl
                 have hcz181_1 : wr.cell? ⟨gb133, 1, none⟩ = some (.bool false) := (blk_cell BK133.out 1).trans rfl
                 have hfz181_0 := blk_frozen BK133.out 0
                 have hfz181_1 := blk_frozen BK133.out 1
                 obtain ⟨Ao182, co182, eo182, _⟩ := Kd.Q_slice HO_134000.out
                 subst eo182
                 go_wp2_with (first | ((go_at_call 8; go_in)) | (at_builtin; refine str_appendQ (w0 := w) w.heap.size rfl (.tmp 27) _ 23 9 5 rfl Try.underlying23 Try.underlying9 info5 (.slice Ao182 x134000_3.length co182) x134000_3 (x5_3.extract 0 ((ji43) : Int).toNat) (fun _ => True) rfl rfl ?aF ?aO ?aB ?aS ?aL ?_; (case aB => exact (by repeat (first | (with_reducible first | exact HB.out | apply below_alloc | apply pw_below_drewN | apply below_drew1 | refine below_set ?_ GE133.out) | exact HB.out))); (case aF => exact (fun _ _ => trivial)); (case aO => exact (by (with_reducible repeat (first | apply Kd.Q_alloc | apply Kd.Q_drewN | apply Kd.Q_drew)); exact HO_134000.out)); (case aS => exact (below_size (by repeat (first | (with_reducible first | exact HB.out | apply below_alloc | apply pw_below_drewN | apply below_drew1 | refine below_set ?_ GE133.out) | exact HB.out)))); (case aL => have := LMc53.out; first | omega | exact Nat.le_of_lt this); intro v135 w183 ho hb hg hat; rw [← Ny134.out] at ho; change Kd.Q (Kd.int .u8) 5 w183 w.heap.size (fun _ => True) v135 y134 at ho; have n0_ := Aside0.mk (Kd.R_over' (by (with_reducible repeat (first | apply Kd.R_alloc | apply Kd.R_drewN | apply Kd.R_drew)); exact HO_6.out) (Kd.Q_typed (by (with_reducible repeat (first | apply Kd.Q_alloc | apply Kd.Q_drewN | apply Kd.Q_drew)); exact HO_134000.out)) (by decide) hg); have n1_ := Aside0.mk (blk_grown (g := gb133) (o := .cells #[.slice Ao182 x134000_3.length co182, .bool false] 37 (0, 0)) (by (with_reducible repeat (first | refine blk_drewN ?_ _ | refine blk_drew ?_ | refine blk_alloc ?_ _)); exact BK133.out) hg (Kd.Q_ne HO_134000.out BK133.out (by decide))); have n2_ := Aside0.mk (hb); have n3_ := Aside0.mk (ho); clear HO_6; clear BK133; clear HB; clear HO_134000; have HO_6 := n0_; have BK133 := n1_; have HB := n2_; have HO136 := n3_; clear n0_ n1_ n2_ n3_; clear ho hb hg hat; obtain ⟨Ao184, co184, eo184, _⟩ := Kd.Q_slice HO136.out; subst eo184; have hcz185_0 : w183.cell? ⟨gb133, 0, none⟩ = some (.slice Ao182 x134000_3.length co182) := (blk_cell BK133.out 0).trans rfl; have hcz185_1 : w183.cell? ⟨gb133, 1, none⟩ = some (.bool false) := (blk_cell BK133.out 1).trans rfl; have hfz185_0 := blk_frozen BK133.out 0; have hfz185_1 := blk_frozen BK133.out 1) | ((with_reducible refine gate_store (t := 23) (p := 31) rfl ?_); (try (rw [drewN_self w183]; generalize hq_ : World.drewN w183 _ = w183; have n0_ := Aside0.mk (Kd.R_at hq_ HO_6.out); have n1_ := Aside0.mk (Kd.Q_at hq_ HO136.out); have n2_ := Aside0.mk (blk_at hq_ BK133.out); have n3_ := Aside0.mk (below_at hq_ HB.out); clear hq_ HO_6 HO136 BK133 HB; have HO_6 := n0_; have HO136 := n1_; have BK133 := n2_; have HB := n3_; clear n0_ n1_ n2_ n3_)); refine store_event (t := 23) (p := 31) (v := ?vo_w186) (w1 := (w183.setCell ⟨gb133, 0, none⟩ (.slice Ao184 y134.length co184))) ?hg ?ho ?hn ?hr ?_; (case ho => rfl); (case hg => rfl); (case hn => rfl); (case hr => first | (go_simp; done) | (go_simp; rfl)); intro w186 hw; have n0_ : Aside0 (Kd.R Kd.string 9 w186 w.heap.size (fun _ => True) u6 x6_1) := ⟨(by rw [hw]; exact (by (with_reducible repeat (first | apply Kd.R_alloc | apply Kd.R_drewN | apply Kd.R_drew)); exact Kd.R_mono (Kd.R_far (p := ⟨gb133, 0, none⟩) (Kd.R_types HO_6.out BK133.out (by decide)) (fun _ hk => hk.2) (.slice Ao184 y134.length co184)) (fun _ hk => trivial)))⟩; have n1_ : Aside0 (Kd.Q (Kd.int .u8) 5 w186 w.heap.size (fun _ => True) (.slice Ao184 y134.length co184) y134) := ⟨(by rw [hw]; exact (by (with_reducible repeat (first | apply Kd.Q_alloc | apply Kd.Q_drewN | apply Kd.Q_drew)); exact Kd.Q_mono (Kd.Q_far (p := ⟨gb133, 0, none⟩) (Kd.Q_types HO136.out BK133.out (by decide)) (fun _ hk => hk.2) (.slice Ao184 y134.length co184)) (fun _ hk => trivial)))⟩; have n2_ : Aside0 (w186.heap[gb133]? = some (.cells #[.slice Ao184 y134.length co184, .bool false] 37 (0, 0))) := ⟨(by rw [hw]; exact (by (with_reducible repeat (first | refine blk_drewN ?_ _ | refine blk_drew ?_ | refine blk_alloc ?_ _)); refine blk_put (cs := #[.slice Ao182 x134000_3.length co182, .bool false]) ?_ 0 _ rfl; (with_reducible repeat (first | refine blk_drewN ?_ _ | refine blk_drew ?_ | refine blk_alloc ?_ _)); exact BK133.out))⟩; have n3_ : Aside0 (Below w.heap.size w w186) := ⟨(by rw [hw]; exact (by repeat (first | (with_reducible first | exact HB.out | apply below_alloc | apply pw_below_drewN | apply below_drew1 | refine below_set ?_ GE133.out) | exact HB.out)))⟩; clear hw; clear HO_6; clear HO136; clear BK133; clear HB; have HO_6 := n0_; have HO136 := n1_; have BK133 := n2_; have HB := n3_; clear n0_ n1_ n2_ n3_; have hcz187_0 : w186.cell? ⟨gb133, 0, none⟩ = some (.slice Ao184 y134.length co184) := (blk_cell BK133.out 0).trans rfl; have hcz187_1 : w186.cell? ⟨gb133, 1, none⟩ = some (.bool false) := (blk_cell BK133.out 1).trans rfl; have hfz187_0 := blk_frozen BK133.out 0; have hfz187_1 := blk_frozen BK133.out 1; have p147 : 0 ≤ (0 : Int) := (by omega); have q147 : 0 < (y134.length : Int) := of_decide_eq_true (by first | (with_reducible assumption) | assumption); obtain ⟨ad147, e147, hx147_0⟩ := Kd.at_int (Kd.Q_reads' HO136.out).2.2 0 p147 q147; cases e147; have qi147 : (0 < y134.length) = True := eq_true (by omega); (try rw [show ((0 : Int)).toNat = 0 from rfl] at hx147_0); (try rw [Addr.add_zero'] at hx147_0); replace p147 := eq_true p147; replace q147 := eq_true q147; have p148 : 0 ≤ (1 : Int) := (by omega); have q148 : 1 < (y134.length : Int) := of_decide_eq_true (by first | (with_reducible assumption) | assumption); obtain ⟨ad148, e148, hx148_0⟩ := Kd.at_int (Kd.Q_reads' HO136.out).2.2 1 p148 q148; obtain rfl : ad147 = ad148 := (by injection e148); (try simp only [show (1 : Int).toNat = 1 from rfl, Nat.reduceMul, Nat.reduceEqDiff, Go.Addr.add, ↓reduceIte] at hx148_0); have qi148 : (1 < y134.length) = True := eq_true (by omega); (try rw [show ((1 : Int)).toNat = 1 from rfl] at hx148_0); replace p148 := eq_true p148; replace q148 := eq_true q148; have q188 : ((ji178) : Int) ≤ ((y134.length : Int) : Int) := of_decide_eq_true (by first | (with_reducible assumption) | assumption); obtain ⟨i0188, hi0188, _, hsz188, _⟩ := info_parts info5; have hroom188 : y134.length ≤ co184 := (Kd.Q_reads' HO136.out).2.1; have hC188 : Kd.C (Kd.int .u8) _ (some ad147) y134.length y134 := (Kd.Q_reads' HO136.out).2.2; have ql188 : (2 : Int) ≤ ((ji178) : Int) := of_decide_eq_true (by first | (with_reducible assumption) | assumption); have hcut188 := cut_mid (P := Try.prog) 23 5 .i64 .i64 Try.underlying23 hi0188 1 hsz188 (some ad147) y134.length co184 2 (ji178) (by omega) ql188 q188 hroom188; have hr188 := Kd.C_mid (lo := (2 : Int).toNat) (hi := ((ji178) : Int).toNat) (c := co184) hC188 (by omega) (by omega) hroom188; obtain ⟨A188, hA188⟩ : ∃ A1, A1 = (if co184 = (2 : Int).toNat then (some ad147) else ((some ad147) : Option Addr).map (·.add ((2 : Int).toNat * 1))) := ⟨_, rfl⟩; obtain ⟨c188, hc188⟩ : ∃ c1, c1 = co184 - (2 : Int).toNat := ⟨_, rfl⟩; have hy188 : y149.length = ((ji178) : Int).toNat - (2 : Int).toNat := (by rw [Ny149.out, List.length_drop, List.length_take] <;> omega); rw [show ((y134).take ((ji178) : Int).toNat).drop (2 : Int).toNat = y149 from Ny149.out.symm] at hr188; replace hr188 : Kd.C (Kd.int .u8) _ A188 y149.length y149 := (by rw [hA188]; exact hr188); rw [← hy188, ← hA188, ← hc188] at hcut188; have HR152 := Aside0.mk hr188; have HC152 := Aside0.mk (show y149.length ≤ c188 from by rw [hy188, hc188]; exact Nat.sub_le_sub_right (Nat.le_trans (by omega) hroom188) _); clear hr188 hC188 hroom188 hi0188 hsz188 hc188; have KY188 := Aside0.mk hy188; have KA188 := Aside0.mk hA188; clear hy188 hA188; have KL188 := Aside0.mk (show ((ji178) : Int).toNat ≤ y134.length from by omega); have KM188 := Aside0.mk (show 2 ≤ ((ji178) : Int).toNat from by omega); replace q188 := eq_true q188; have hcv189 := Kd.C_string (P := Try.prog) (A := A188) (c := c188) Try.underlying23 Try.underlying5 Try.underlying9 (by repeat (first | (with_reducible exact HR152.out) | (with_reducible refine Kd.C_alloc ?_ _) | (with_reducible refine Kd.C_drewN ?_ _) | (with_reducible refine Kd.C_drew ?_) | exact HR152.out)); have hcv190 := fun m_ : Nat => Kd.C_string (P := Try.prog) (A := A188) (c := c188) Try.underlying23 Try.underlying5 Try.underlying9 (Kd.C_drewN (by repeat (first | (with_reducible exact HR152.out) | (with_reducible refine Kd.C_alloc ?_ _) | (with_reducible refine Kd.C_drewN ?_ _) | (with_reducible refine Kd.C_drew ?_) | exact HR152.out)) m_); have q191 : ((ji178) : Int) ≤ ((y134.length : Int) : Int) := of_decide_eq_true (by first | (with_reducible assumption) | assumption); obtain ⟨i0191, hi0191, _, hsz191, _⟩ := info_parts info5; have hcut191 := cut_from (P := Try.prog) 23 5 .i64 Try.underlying23 hi0191 1 hsz191 (some ad147) y134.length co184 (ji178) (of_decide_eq_true (by first | (with_reducible assumption) | assumption)) q191; have hr191 := Kd.Q_drop (k := ((ji178) : Int).toNat) HO136.out (by omega); obtain ⟨A191, hA191⟩ : ∃ A1, A1 = (if co184 = ((ji178) : Int).toNat then (some ad147) else ((some ad147) : Option Addr).map (·.add (((ji178) : Int).toNat * 1))) := ⟨_, rfl⟩; obtain ⟨c191, hc191⟩ : ∃ c1, c1 = co184 - ((ji178) : Int).toNat := ⟨_, rfl⟩; have hy191 : y153.length = y134.length - ((ji178) : Int).toNat := (by rw [Ny153.out, List.length_drop]); rw [← Ny153.out] at hr191; rw [← hy191, ← hA191, ← hc191] at hcut191; replace hr191 : Kd.Q (Kd.int .u8) 5 w186 w.heap.size (fun _ => True) (.slice A191 y153.length c191) y153 := (by rw [hA191, hc191, hy191]; exact hr191); have HE191 : Aside0 ((Value.slice A191 y153.length c191).ownBlock = (.slice (some ad147) y134.length co184 : Value).ownBlock) := ⟨by rw [hA191]; split <;> (first | rfl | (simp [Value.ownBlock, add_block]))⟩; clear hy191 hi0191 hsz191 HO136 hA191 hc191; have HO155 := Aside0.mk hr191; clear hr191; replace q191 := eq_true q191) | ((go_at_call 6; go_in)))
                 repeat (go_quiet (fail); try go_wp2_with (first | ((go_at_call 8; go_in)) | (at_builtin; refine str_appendQ (w0 := w) w.heap.size rfl (.tmp 27) _ 23 9 5 rfl Try.underlying23 Try.underlying9 info5 (.slice Ao182 x134000_3.length co182) x134000_3 (x5_3.extract 0 ((ji43) : Int).toNat) (fun _ => True) rfl rfl ?aF ?aO ?aB ?aS ?aL ?_; (case aB => exact (by repeat (first | (with_reducible first | exact HB.out | apply below_alloc | apply pw_below_drewN | apply below_drew1 | refine below_set ?_ GE133.out) | exact HB.out))); (case aF => exact (fun _ _ => trivial)); (case aO => exact (by (with_reducible repeat (first | apply Kd.Q_alloc | apply Kd.Q_drewN | apply Kd.Q_drew)); exact HO_134000.out)); (case aS => exact (below_size (by repeat (first | (with_reducible first | exact HB.out | apply below_alloc | apply pw_below_drewN | apply below_drew1 | refine below_set ?_ GE133.out) | exact HB.out)))); (case aL => have := LMc53.out; first | omega | exact Nat.le_of_lt this); intro v135 w183 ho hb hg hat; rw [← Ny134.out] at ho; change Kd.Q (Kd.int .u8) 5 w183 w.heap.size (fun _ => True) v135 y134 at ho; have n0_ := Aside0.mk (Kd.R_over' (by (with_reducible repeat (first | apply Kd.R_alloc | apply Kd.R_drewN | apply Kd.R_drew)); exact HO_6.out) (Kd.Q_typed (by (with_reducible repeat (first | apply Kd.Q_alloc | apply Kd.Q_drewN | apply Kd.Q_drew)); exact HO_134000.out)) (by decide) hg); have n1_ := Aside0.mk (blk_grown (g := gb133) (o := .cells #[.slice Ao182 x134000_3.length co182, .bool false] 37 (0, 0)) (by (with_reducible repeat (first | refine blk_drewN ?_ _ | refine blk_drew ?_ | refine blk_alloc ?_ _)); exact BK133.out) hg (Kd.Q_ne HO_134000.out BK133.out (by decide))); have n2_ := Aside0.mk (hb); have n3_ := Aside0.mk (ho); clear HO_6; clear BK133; clear HB; clear HO_134000; have HO_6 := n0_; have BK133 := n1_; have HB := n2_; have HO136 := n3_; clear n0_ n1_ n2_ n3_; clear ho hb hg hat; obtain ⟨Ao184, co184, eo184, _⟩ := Kd.Q_slice HO136.out; subst eo184; have hcz185_0 : w183.cell? ⟨gb133, 0, none⟩ = some (.slice Ao182 x134000_3.length co182) := (blk_cell BK133.out 0).trans rfl; have hcz185_1 : w183.cell? ⟨gb133, 1, none⟩ = some (.bool false) := (blk_cell BK133.out 1).trans rfl; have hfz185_0 := blk_frozen BK133.out 0; have hfz185_1 := blk_frozen BK133.out 1) | ((with_reducible refine gate_store (t := 23) (p := 31) rfl ?_); (try (rw [drewN_self w183]; generalize hq_ : World.drewN w183 _ = w183; have n0_ := Aside0.mk (Kd.R_at hq_ HO_6.out); have n1_ := Aside0.mk (Kd.Q_at hq_ HO136.out); have n2_ := Aside0.mk (blk_at hq_ BK133.out); have n3_ := Aside0.mk (below_at hq_ HB.out); clear hq_ HO_6 HO136 BK133 HB; have HO_6 := n0_; have HO136 := n1_; have BK133 := n2_; have HB := n3_; clear n0_ n1_ n2_ n3_)); refine store_event (t := 23) (p := 31) (v := ?vo_w186) (w1 := (w183.setCell ⟨gb133, 0, none⟩ (.slice Ao184 y134.length co184))) ?hg ?ho ?hn ?hr ?_; (case ho => rfl); (case hg => rfl); (case hn => rfl); (case hr => first | (go_simp; done) | (go_simp; rfl)); intro w186 hw; have n0_ : Aside0 (Kd.R Kd.string 9 w186 w.heap.size (fun _ => True) u6 x6_1) := ⟨(by rw [hw]; exact (by (with_reducible repeat (first | apply Kd.R_alloc | apply Kd.R_drewN | apply Kd.R_drew)); exact Kd.R_mono (Kd.R_far (p := ⟨gb133, 0, none⟩) (Kd.R_types HO_6.out BK133.out (by decide)) (fun _ hk => hk.2) (.slice Ao184 y134.length co184)) (fun _ hk => trivial)))⟩; have n1_ : Aside0 (Kd.Q (Kd.int .u8) 5 w186 w.heap.size (fun _ => True) (.slice Ao184 y134.length co184) y134) := ⟨(by rw [hw]; exact (by (with_reducible repeat (first | apply Kd.Q_alloc | apply Kd.Q_drewN | apply Kd.Q_drew)); exact Kd.Q_mono (Kd.Q_far (p := ⟨gb133, 0, none⟩) (Kd.Q_types HO136.out BK133.out (by decide)) (fun _ hk => hk.2) (.slice Ao184 y134.length co184)) (fun _ hk => trivial)))⟩; have n2_ : Aside0 (w186.heap[gb133]? = some (.cells #[.slice Ao184 y134.length co184, .bool false] 37 (0, 0))) := ⟨(by rw [hw]; exact (by (with_reducible repeat (first | refine blk_drewN ?_ _ | refine blk_drew ?_ | refine blk_alloc ?_ _)); refine blk_put (cs := #[.slice Ao182 x134000_3.length co182, .bool false]) ?_ 0 _ rfl; (with_reducible repeat (first | refine blk_drewN ?_ _ | refine blk_drew ?_ | refine blk_alloc ?_ _)); exact BK133.out))⟩; have n3_ : Aside0 (Below w.heap.size w w186) := ⟨(by rw [hw]; exact (by repeat (first | (with_reducible first | exact HB.out | apply below_alloc | apply pw_below_drewN | apply below_drew1 | refine below_set ?_ GE133.out) | exact HB.out)))⟩; clear hw; clear HO_6; clear HO136; clear BK133; clear HB; have HO_6 := n0_; have HO136 := n1_; have BK133 := n2_; have HB := n3_; clear n0_ n1_ n2_ n3_; have hcz187_0 : w186.cell? ⟨gb133, 0, none⟩ = some (.slice Ao184 y134.length co184) := (blk_cell BK133.out 0).trans rfl; have hcz187_1 : w186.cell? ⟨gb133, 1, none⟩ = some (.bool false) := (blk_cell BK133.out 1).trans rfl; have hfz187_0 := blk_frozen BK133.out 0; have hfz187_1 := blk_frozen BK133.out 1; have p147 : 0 ≤ (0 : Int) := (by omega); have q147 : 0 < (y134.length : Int) := of_decide_eq_true (by first | (with_reducible assumption) | assumption); obtain ⟨ad147, e147, hx147_0⟩ := Kd.at_int (Kd.Q_reads' HO136.out).2.2 0 p147 q147; cases e147; have qi147 : (0 < y134.length) = True := eq_true (by omega); (try rw [show ((0 : Int)).toNat = 0 from rfl] at hx147_0); (try rw [Addr.add_zero'] at hx147_0); replace p147 := eq_true p147; replace q147 := eq_true q147; have p148 : 0 ≤ (1 : Int) := (by omega); have q148 : 1 < (y134.length : Int) := of_decide_eq_true (by first | (with_reducible assumption) | assumption); obtain ⟨ad148, e148, hx148_0⟩ := Kd.at_int (Kd.Q_reads' HO136.out).2.2 1 p148 q148; obtain rfl : ad147 = ad148 := (by injection e148); (try simp only [show (1 : Int).toNat = 1 from rfl, Nat.reduceMul, Nat.reduceEqDiff, Go.Addr.add, ↓reduceIte] at hx148_0); have qi148 : (1 < y134.length) = True := eq_true (by omega); (try rw [show ((1 : Int)).toNat = 1 from rfl] at hx148_0); replace p148 := eq_true p148; replace q148 := eq_true q148; have q188 : ((ji178) : Int) ≤ ((y134.length : Int) : Int) := of_decide_eq_true (by first | (with_reducible assumption) | assumption); obtain ⟨i0188, hi0188, _, hsz188, _⟩ := info_parts info5; have hroom188 : y134.length ≤ co184 := (Kd.Q_reads' HO136.out).2.1; have hC188 : Kd.C (Kd.int .u8) _ (some ad147) y134.length y134 := (Kd.Q_reads' HO136.out).2.2; have ql188 : (2 : Int) ≤ ((ji178) : Int) := of_decide_eq_true (by first | (with_reducible assumption) | assumption); have hcut188 := cut_mid (P := Try.prog) 23 5 .i64 .i64 Try.underlying23 hi0188 1 hsz188 (some ad147) y134.length co184 2 (ji178) (by omega) ql188 q188 hroom188; have hr188 := Kd.C_mid (lo := (2 : Int).toNat) (hi := ((ji178) : Int).toNat) (c := co184) hC188 (by omega) (by omega) hroom188; obtain ⟨A188, hA188⟩ : ∃ A1, A1 = (if co184 = (2 : Int).toNat then (some ad147) else ((some ad147) : Option Addr).map (·.add ((2 : Int).toNat * 1))) := ⟨_, rfl⟩; obtain ⟨c188, hc188⟩ : ∃ c1, c1 = co184 - (2 : Int).toNat := ⟨_, rfl⟩; have hy188 : y149.length = ((ji178) : Int).toNat - (2 : Int).toNat := (by rw [Ny149.out, List.length_drop, List.length_take] <;> omega); rw [show ((y134).take ((ji178) : Int).toNat).drop (2 : Int).toNat = y149 from Ny149.out.symm] at hr188; replace hr188 : Kd.C (Kd.int .u8) _ A188 y149.length y149 := (by rw [hA188]; exact hr188); rw [← hy188, ← hA188, ← hc188] at hcut188; have HR152 := Aside0.mk hr188; have HC152 := Aside0.mk (show y149.length ≤ c188 from by rw [hy188, hc188]; exact Nat.sub_le_sub_right (Nat.le_trans (by omega) hroom188) _); clear hr188 hC188 hroom188 hi0188 hsz188 hc188; have KY188 := Aside0.mk hy188; have KA188 := Aside0.mk hA188; clear hy188 hA188; have KL188 := Aside0.mk (show ((ji178) : Int).toNat ≤ y134.length from by omega); have KM188 := Aside0.mk (show 2 ≤ ((ji178) : Int).toNat from by omega); replace q188 := eq_true q188; have hcv189 := Kd.C_string (P := Try.prog) (A := A188) (c := c188) Try.underlying23 Try.underlying5 Try.underlying9 (by repeat (first | (with_reducible exact HR152.out) | (with_reducible refine Kd.C_alloc ?_ _) | (with_reducible refine Kd.C_drewN ?_ _) | (with_reducible refine Kd.C_drew ?_) | exact HR152.out)); have hcv190 := fun m_ : Nat => Kd.C_string (P := Try.prog) (A := A188) (c := c188) Try.underlying23 Try.underlying5 Try.underlying9 (Kd.C_drewN (by repeat (first | (with_reducible exact HR152.out) | (with_reducible refine Kd.C_alloc ?_ _) | (with_reducible refine Kd.C_drewN ?_ _) | (with_reducible refine Kd.C_drew ?_) | exact HR152.out)) m_); have q191 : ((ji178) : Int) ≤ ((y134.length : Int) : Int) := of_decide_eq_true (by first | (with_reducible assumption) | assumption); obtain ⟨i0191, hi0191, _, hsz191, _⟩ := info_parts info5; have hcut191 := cut_from (P := Try.prog) 23 5 .i64 Try.underlying23 hi0191 1 hsz191 (some ad147) y134.length co184 (ji178) (of_decide_eq_true (by first | (with_reducible assumption) | assumption)) q191; have hr191 := Kd.Q_drop (k := ((ji178) : Int).toNat) HO136.out (by omega); obtain ⟨A191, hA191⟩ : ∃ A1, A1 = (if co184 = ((ji178) : Int).toNat then (some ad147) else ((some ad147) : Option Addr).map (·.add (((ji178) : Int).toNat * 1))) := ⟨_, rfl⟩; obtain ⟨c191, hc191⟩ : ∃ c1, c1 = co184 - ((ji178) : Int).toNat := ⟨_, rfl⟩; have hy191 : y153.length = y134.length - ((ji178) : Int).toNat := (by rw [Ny153.out, List.length_drop]); rw [← Ny153.out] at hr191; rw [← hy191, ← hA191, ← hc191] at hcut191; replace hr191 : Kd.Q (Kd.int .u8) 5 w186 w.heap.size (fun _ => True) (.slice A191 y153.length c191) y153 := (by rw [hA191, hc191, hy191]; exact hr191); have HE191 : Aside0 ((Value.slice A191 y153.length c191).ownBlock = (.slice (some ad147) y134.length co184 : Value).ownBlock) := ⟨by rw [hA191]; split <;> (first | rfl | (simp [Value.ownBlock, add_block]))⟩; clear hy191 hi0191 hsz191 HO136 hA191 hc191; have HO155 := Aside0.mk hr191; clear hr191; replace q191 := eq_true q191) | ((go_at_call 6; go_in))))
                 go_loopg [12, 14, 15] k3 (fun kq v12 v14 v15 w' => ∃ (x12_4 : Int) (x14_4 : ByteArray) (x15_4 : Bool) (x134000_4 : List Int) (u134000 : Value), v12 = .int .i64 x12_4 ∧ v14 = .string x14_4 ∧ v15 = .bool x15_4 ∧ Aside0 (rhynelaw23_DoqBack.l2 kq (wrap64 (1 + (wrap64 (Int.tmod (IntKind.u64.wrap (a1)) 500)))) (x5_3.extract ((ji43) : Int).toNat x5_3.size) x6_1 x12_4 x14_4 x15_4 x134000_4 false = some r) ∧ Aside0 (kq ≤ k3) ∧ Aside0 (Kd.R Kd.string 9 w' w.heap.size (fun _ => True) u6 x6_1) ∧ Aside0 (Kd.Q (Kd.int .u8) 5 w' w.heap.size (fun _ => True) u134000 x134000_4) ∧ Aside0 (w'.heap[gb133]? = some (.cells #[u134000, .bool false] 37 (0, 0))) ∧ Aside0 (Below w.heap.size w w'))
                 case atStart => exact ⟨(x12_3), (strOfNums y149), (true), (y153), (.slice A191 y153.length c191), (by first | rfl | (simp; done) | (simp [*]; done)), (by first | rfl | (simp; done) | (simp [*]; done)), (by first | rfl | (simp; done) | (simp [*]; done)), H', ⟨Nat.le_refl _⟩, ⟨by (with_reducible repeat (first | apply Kd.R_alloc | apply Kd.R_drewN | apply Kd.R_drew)); exact Kd.R_mono (Kd.R_far (p := ⟨gb133, 0, none⟩) (Kd.R_types HO_6.out BK133.out (by decide)) (fun _ hk => hk.2) (.slice A191 y153.length c191)) (fun _ hk => trivial)⟩, ⟨by (with_reducible repeat (first | apply Kd.Q_alloc | apply Kd.Q_drewN | apply Kd.Q_drew)); exact Kd.Q_mono (Kd.Q_far (p := ⟨gb133, 0, none⟩) (Kd.Q_types HO155.out BK133.out (by decide)) (fun _ hk => hk.2) (.slice A191 y153.length c191)) (fun _ hk => trivial)⟩, ⟨by (with_reducible repeat (first | refine blk_drewN ?_ _ | refine blk_drew ?_ | refine blk_alloc ?_ _)); refine blk_put (cs := #[.slice (some ad147) y134.length co184, .bool false]) ?_ 0 _ rfl; (with_reducible repeat (first | refine blk_drewN ?_ _ | refine blk_drew ?_ | refine blk_alloc ?_ _)); exact BK133.out⟩, ⟨by repeat (first | (with_reducible first | exact HB.out | apply below_alloc | apply pw_below_drewN | apply below_drew1 | refine below_set ?_ GE133.out) | exact HB.out)⟩⟩
                 case round => as_aux_lemma =>
                  clear H'
                  (try clear c1); (try clear p1); (try clear q1); (try clear hx1); (try clear hcv1); (try clear qi1); (try clear p2); (try clear c5); (try clear c6); (try clear p6); (try clear c7); (try clear c8); (try clear c9); (try clear q9); (try clear hcv9); (try clear c10); (try clear c11); (try clear c12); (try clear p12); (try clear q12); (try clear hx12); (try clear c13); (try clear p13); (try clear q13); (try clear hx13); (try clear hcv13); (try clear qi13); (try clear c14); (try clear p14); (try clear q14); (try clear hx14); (try clear qi14); (try clear c15); (try clear c16); (try clear c17); (try clear q17); (try clear hcv17); (try clear c18); (try clear q18); (try clear hcv18); (try clear c19); (try clear q19); (try clear hcv19); (try clear c53); (try clear p64); (try clear c66); (try clear c66b0); (try clear c67); (try clear c67b0); (try clear c68); (try clear c68b0); (try clear c68b1); (try clear c69); (try clear c69b0); (try clear c69b1); (try clear c73); (try clear c73b0); (try clear c73b1); (try clear c74); (try clear c74b0); (try clear c74b1); (try clear c75); (try clear c75b0); (try clear c75b1); (try clear c79); (try clear c79b0); (try clear c83); (try clear c83b0); (try clear c83b1); (try clear c84); (try clear c84b0); (try clear c84b1); (try clear c86); (try clear c86b0); (try clear c86b1); (try clear c87); (try clear c87b0); (try clear c91); (try clear q91); (try clear hcv92); (try clear hcv93); (try clear c94); (try clear q94); (try clear c96); (try clear c96b0); (try clear c96b1); (try clear c97); (try clear c97b0); (try clear c97b1); (try clear c98); (try clear c98b0); (try clear c98b1); (try clear c104); (try clear c105); (try clear c105b0); (try clear c107); (try clear c107b0); (try clear c108); (try clear c108b0); (try clear c109); (try clear c109b0); (try clear c109b1); (try clear c110); (try clear c110b0); (try clear c110b1); (try clear c114); (try clear c114b0); (try clear c114b1); (try clear c115); (try clear c115b0); (try clear c115b1); (try clear c116); (try clear c116b0); (try clear c116b1); (try clear c120); (try clear c120b0); (try clear p121); (try clear q121); (try clear hx121); (try clear p122); (try clear q122); (try clear hx122); (try clear c124); (try clear c124b0); (try clear c124b1); (try clear c125); (try clear c125b0); (try clear c125b1); (try clear c127); (try clear c127b0); (try clear c127b1); (try clear c128); (try clear c128b0); (try clear c132); (try clear q132); (try clear hcv133); (try clear hcv134); (try clear c135); (try clear q135); (try clear c137); (try clear c137b0); (try clear p137); (try clear q137); (try clear hx137); (try clear p138); (try clear q138); (try clear hx138); (try clear qi138); (try clear p139); (try clear q139); (try clear hx139); (try clear qi139); (try clear c143); (try clear c144); (try clear c144b0); (try clear c146); (try clear c146b0); (try clear c147); (try clear c147b0); (try clear p147); (try clear q147); (try clear hx147); (try clear qi147); (try clear c148); (try clear c148b0); (try clear c148b1); (try clear p148); (try clear q148); (try clear hx148); (try clear qi148); (try clear c149); (try clear c149b0); (try clear c149b1); (try clear c153); (try clear c153b0); (try clear c153b1); (try clear c154); (try clear c154b0); (try clear c154b1); (try clear c155); (try clear c155b0); (try clear c155b1); (try clear c159); (try clear c159b0); (try clear c163); (try clear c163b0); (try clear c163b1); (try clear c164); (try clear c164b0); (try clear c164b1); (try clear c166); (try clear c166b0); (try clear c166b1); (try clear c167); (try clear c167b0); (try clear c171); (try clear q171); (try clear hcv172); (try clear hcv173); (try clear c174); (try clear q174); (try clear c176); (try clear c176b0); (try clear c176b1); (try clear c177); (try clear c177b0); (try clear c177b1); (try clear c179); (try clear c179b0); (try clear c179b1); (try clear c180); (try clear c180b0); (try clear c188); (try clear q188); (try clear hcv189); (try clear hcv190); (try clear c191); (try clear q191); (try clear hcz103_0); (try clear hcz103_1); (try clear hcz112_0); (try clear hcz112_1); (try clear hcz118_0); (try clear hcz118_1); (try clear hcz122_0); (try clear hcz122_1); (try clear hcz130_0); (try clear hcz130_1); (try clear hcz138_0); (try clear hcz138_1); (try clear hcz142_0); (try clear hcz142_1); (try clear hcz151_0); (try clear hcz151_1); (try clear hcz157_0); (try clear hcz157_1); (try clear hcz161_0); (try clear hcz161_1); (try clear hcz169_0); (try clear hcz169_1); (try clear hcz181_0); (try clear hcz181_1); (try clear hcz185_0); (try clear hcz185_1); (try clear hcz187_0); (try clear hcz187_1); (try clear hcz36_0); (try clear hcz36_1); (try clear hcz40_0); (try clear hcz40_1); (try clear hcz48_0); (try clear hcz48_1); (try clear hcz51_0); (try clear hcz51_1); (try clear hcz58_0); (try clear hcz58_1); (try clear hcz62_0); (try clear hcz62_1); (try clear hcz71_0); (try clear hcz71_1); (try clear hcz77_0); (try clear hcz77_1); (try clear hcz81_0); (try clear hcz81_1); (try clear hcz89_0); (try clear hcz89_1); (try clear hcz99_0); (try clear hcz99_1); (try clear hfz103_0); (try clear hfz103_1); (try clear hfz112_0); (try clear hfz112_1); (try clear hfz118_0); (try clear hfz118_1); (try clear hfz122_0); (try clear hfz122_1); (try clear hfz130_0); (try clear hfz130_1); (try clear hfz138_0); (try clear hfz138_1); (try clear hfz142_0); (try clear hfz142_1); (try clear hfz151_0); (try clear hfz151_1); (try clear hfz157_0); (try clear hfz157_1); (try clear hfz161_0); (try clear hfz161_1); (try clear hfz169_0); (try clear hfz169_1); (try clear hfz181_0); (try clear hfz181_1); (try clear hfz185_0); (try clear hfz185_1); (try clear hfz187_0); (try clear hfz187_1); (try clear hfz36_0); (try clear hfz36_1); (try clear hfz40_0); (try clear hfz40_1); (try clear hfz48_0); (try clear hfz48_1); (try clear hfz51_0); (try clear hfz51_1); (try clear hfz58_0); (try clear hfz58_1); (try clear hfz62_0); (try clear hfz62_1); (try clear hfz71_0); (try clear hfz71_1); (try clear hfz77_0); (try clear hfz77_1); (try clear hfz81_0); (try clear hfz81_1); (try clear hfz89_0); (try clear hfz89_1); (try clear hfz99_0); (try clear hfz99_1); (try clear hx121_0); (try clear hx122_0); (try clear hx137_0); (try clear hx138_0); (try clear hx139_0); (try clear hx147_0); (try clear hx148_0); (try clear p1); (try clear p12); (try clear p121); (try clear p122); (try clear p13); (try clear p137); (try clear p138); (try clear p139); (try clear p14); (try clear p147); (try clear p148); (try clear p2); (try clear p6); (try clear p64); (try clear q1); (try clear q12); (try clear q121); (try clear q122); (try clear q13); (try clear q132); (try clear q135); (try clear q137); (try clear q138); (try clear q139); (try clear q14); (try clear q147); (try clear q148); (try clear q171); (try clear q174); (try clear q188); (try clear q191); (try clear q9); (try clear q91); (try clear q94)
                  obtain ⟨x12_4, x14_4, x15_4, x134000_4, u134000, rfl, rfl, rfl, HA, HK4, HO_6, HO_134000, BK133, HB⟩ := hrel
                  cases gk with
                  | zero => exact absurd HA.out (by simp [rhynelaw23_DoqBack.l2])
                  | succ k4 =>
                   have H := HA.out
                   clear HA
                   simp only [rhynelaw23_DoqBack.l2] at H
                   by_cases c192 : x15_4 = true
                   ·
                    subst c192
                    have H1 : (if x12_4 ≥ (x6_1.length : Int) then (some false) else (if 0 ≤ x12_4 then (if x12_4 < (x6_1.length : Int) then (if x14_4.toList = (rdOf ByteArray.empty x6_1 x12_4).toList then (if (x134000_4.length : Int) < 2 then (rhynelaw23_DoqBack.l2 k4 (wrap64 (1 + (wrap64 (Int.tmod (IntKind.u64.wrap (a1)) 500)))) (x5_3.extract ((ji43) : Int).toNat x5_3.size) x6_1 (wrap64 (x12_4 + 1)) (⟨#[]⟩ : ByteArray) false x134000_4 false) else (if 0 < (x134000_4.length : Int) then (if 1 < (x134000_4.length : Int) then (if (wrap64 ((wrap64 (2 + (wrap64 ((wrap64 (rd x134000_4 0)) * 256)))) + (wrap64 (rd x134000_4 1)))) = 2 then (rhynelaw23_DoqBack.l2 k4 (wrap64 (1 + (wrap64 (Int.tmod (IntKind.u64.wrap (a1)) 500)))) (x5_3.extract ((ji43) : Int).toNat x5_3.size) x6_1 (wrap64 (x12_4 + 1)) (⟨#[]⟩ : ByteArray) false x134000_4 false) else (if (x134000_4.length : Int) < (wrap64 ((wrap64 (2 + (wrap64 ((wrap64 (rd x134000_4 0)) * 256)))) + (wrap64 (rd x134000_4 1)))) then (rhynelaw23_DoqBack.l2 k4 (wrap64 (1 + (wrap64 (Int.tmod (IntKind.u64.wrap (a1)) 500)))) (x5_3.extract ((ji43) : Int).toNat x5_3.size) x6_1 (wrap64 (x12_4 + 1)) (⟨#[]⟩ : ByteArray) false x134000_4 false) else (if 2 ≤ (wrap64 ((wrap64 (2 + (wrap64 ((wrap64 (rd x134000_4 0)) * 256)))) + (wrap64 (rd x134000_4 1)))) then (if (wrap64 ((wrap64 (2 + (wrap64 ((wrap64 (rd x134000_4 0)) * 256)))) + (wrap64 (rd x134000_4 1)))) ≤ (x134000_4.length : Int) then (if 0 ≤ (wrap64 ((wrap64 (2 + (wrap64 ((wrap64 (rd x134000_4 0)) * 256)))) + (wrap64 (rd x134000_4 1)))) then (rhynelaw23_DoqBack.l2 k4 (wrap64 (1 + (wrap64 (Int.tmod (IntKind.u64.wrap (a1)) 500)))) (x5_3.extract ((ji43) : Int).toNat x5_3.size) x6_1 (wrap64 (x12_4 + 1)) (strOfNums ((x134000_4.take ((wrap64 ((wrap64 (2 + (wrap64 ((wrap64 (rd x134000_4 0)) * 256)))) + (wrap64 (rd x134000_4 1)))) : Int).toNat).drop 2)) true (x134000_4.drop ((wrap64 ((wrap64 (2 + (wrap64 ((wrap64 (rd x134000_4 0)) * 256)))) + (wrap64 (rd x134000_4 1)))) : Int).toNat) false) else (none)) else (none)) else (none)))) else (none)) else (none))) else (some false)) else (none)) else (none))) = some r := by rw [if_pos rfl] at H; exact H
                    clear H
                    have H := H1
                    clear H1
                    by_cases c193 : x12_4 ≥ (x6_1.length : Int)
                    ·
                     rw [if_pos c193] at H
                     have c193b0 : decide ((x6_1.length : Int) ≤ x12_4) = true := decide_eq_true c193
                     clear c193
                     obtain rfl := Option.some.inj H
                     obtain ⟨Ao194, co194, eo194⟩ := Kd.R_slice HO_6.out
                     subst eo194
                     go_wp2
                     repeat (go_quiet (fail); try go_wp2)
                     go_ret
                     exact ⟨by first | rfl | (simp [errW_none, errW_some] <;> rfl) | (simp only [← hji43, ← hji178]; first | rfl | (simp [errW_none, errW_some] <;> rfl)) | (simp [*, errW_none, errW_some] <;> rfl), by repeat (first | (with_reducible first | exact HB.out | apply below_alloc | apply pw_below_drewN | apply below_drew1 | refine below_set ?_ GE133.out) | exact HB.out)⟩
                    rw [if_neg c193] at H
                    have c193b0 : decide ((x6_1.length : Int) ≤ x12_4) = false := decide_eq_false c193
                    clear c193
                    by_cases c195 : 0 ≤ x12_4
                    ·
                     rw [if_pos c195] at H
                     have c195b0 : decide (0 ≤ x12_4) = true := decide_eq_true c195
                     clear c195
                     by_cases c196 : x12_4 < (x6_1.length : Int)
                     ·
                      rw [if_pos c196] at H
                      have c196b0 : decide (x12_4 < (x6_1.length : Int)) = true := decide_eq_true c196
                      clear c196
                      by_cases c197 : x14_4.toList = (rdOf ByteArray.empty x6_1 x12_4).toList
                      ·
                       rw [if_pos c197] at H
                       have c197b0 : (x14_4.toList == (rdOf ByteArray.empty x6_1 x12_4).toList) = true := beq_iff_eq.mpr c197
                       have c197b1 : (x14_4.toList != (rdOf ByteArray.empty x6_1 x12_4).toList) = false := bne_eq_false_iff_eq.mpr c197
                       clear c197
                       by_cases c198 : (x134000_4.length : Int) < 2
                       ·
                        rw [if_pos c198] at H
                        have c198b0 : decide ((x134000_4.length : Int) < 2) = true := decide_eq_true c198
                        have c198b1 : decide (x134000_4.length < 2) = true := decide_eq_true (by omega)
                        clear c198
                        have H' := Aside0.mk H
                        clear H
                        obtain ⟨Ao199, co199, eo199⟩ := Kd.R_slice HO_6.out
                        subst eo199
                        have p137 : 0 ≤ (x12_4 : Int) := of_decide_eq_true (by first | (with_reducible assumption) | assumption)
                        have q137 : x12_4 < (x6_1.length : Int) := of_decide_eq_true (by first | (with_reducible assumption) | assumption)
                        obtain ⟨ad137, e137, hx137_0⟩ := Kd.at_string (Kd.R_reads' HO_6.out).2.2 x12_4 p137 q137
                        cases e137
                        replace p137 := eq_true p137
                        replace q137 := eq_true q137
                        have hcz200_0 : wr.cell? ⟨gb133, 0, none⟩ = some (u134000) := (blk_cell BK133.out 0).trans rfl
                        have hcz200_1 : wr.cell? ⟨gb133, 1, none⟩ = some (.bool false) := (blk_cell BK133.out 1).trans rfl
                        have hfz200_0 := blk_frozen BK133.out 0
                        have hfz200_1 := blk_frozen BK133.out 1
                        obtain ⟨Ao201, co201, eo201, _⟩ := Kd.Q_slice HO_134000.out
                        subst eo201
                        go_wp2_with (first | ((go_at_call 6; go_in)))
                        repeat (go_quiet (fail); try go_wp2_with (first | ((go_at_call 6; go_in))))
                        go_roundg k4
                        case measure => have := HK1.out; have := HJ5.out; have := HK3.out; have := HK4.out; omega
                        case rel => exact ⟨(wrap64 (x12_4 + 1)), ((⟨#[]⟩ : ByteArray)), (false), (x134000_4), (.slice Ao201 x134000_4.length co201), (by first | rfl | (simp; done) | (simp [*]; done)), (by first | rfl | (simp; done) | (simp [*]; done)), (by first | rfl | (simp; done) | (simp [*]; done)), H', ⟨by have := HK1.out; have := HJ5.out; have := HK3.out; have := HK4.out; omega⟩, ⟨by (with_reducible repeat (first | apply Kd.R_alloc | apply Kd.R_drewN | apply Kd.R_drew)); exact HO_6.out⟩, ⟨by (with_reducible repeat (first | apply Kd.Q_alloc | apply Kd.Q_drewN | apply Kd.Q_drew)); exact HO_134000.out⟩, ⟨by (with_reducible repeat (first | refine blk_drewN ?_ _ | refine blk_drew ?_ | refine blk_alloc ?_ _)); exact BK133.out⟩, ⟨by repeat (first | (with_reducible first | exact HB.out | apply below_alloc | apply pw_below_drewN | apply below_drew1 | refine below_set ?_ GE133.out) | exact HB.out)⟩⟩
                       rw [if_neg c198] at H
                       have c198b0 : decide ((x134000_4.length : Int) < 2) = false := decide_eq_false c198
                       have c198b1 : decide (x134000_4.length < 2) = false := decide_eq_false (by omega)
                       clear c198
                       by_cases c202 : 0 < (x134000_4.length : Int)
                       ·
                        rw [if_pos c202] at H
                        have c202b0 : decide (0 < (x134000_4.length : Int)) = true := decide_eq_true c202
                        have c202b1 : decide (0 < x134000_4.length) = true := decide_eq_true (by omega)
                        clear c202
                        by_cases c203 : 1 < (x134000_4.length : Int)
                        ·
                         rw [if_pos c203] at H
                         have c203b0 : decide (1 < (x134000_4.length : Int)) = true := decide_eq_true c203
                         have c203b1 : decide (1 < x134000_4.length) = true := decide_eq_true (by omega)
                         clear c203
                         by_cases c204 : (wrap64 ((wrap64 (2 + (wrap64 ((wrap64 (rd x134000_4 0)) * 256)))) + (wrap64 (rd x134000_4 1)))) = 2
                         ·
                          rw [if_pos c204] at H
                          have c204b0 : ((wrap64 ((wrap64 (2 + (wrap64 ((wrap64 (rd x134000_4 0)) * 256)))) + (wrap64 (rd x134000_4 1)))) == 2) = true := beq_iff_eq.mpr c204
                          have c204b1 : ((wrap64 ((wrap64 (2 + (wrap64 ((wrap64 (rd x134000_4 0)) * 256)))) + (wrap64 (rd x134000_4 1)))) != 2) = false := bne_eq_false_iff_eq.mpr c204
                          clear c204
                          have H' := Aside0.mk H
                          clear H
                          obtain ⟨Ao205, co205, eo205⟩ := Kd.R_slice HO_6.out
                          subst eo205
                          have p137 : 0 ≤ (x12_4 : Int) := of_decide_eq_true (by first | (with_reducible assumption) | assumption)
                          have q137 : x12_4 < (x6_1.length : Int) := of_decide_eq_true (by first | (with_reducible assumption) | assumption)
                          obtain ⟨ad137, e137, hx137_0⟩ := Kd.at_string (Kd.R_reads' HO_6.out).2.2 x12_4 p137 q137
                          cases e137
                          replace p137 := eq_true p137
                          replace q137 := eq_true q137
                          have hcz206_0 : wr.cell? ⟨gb133, 0, none⟩ = some (u134000) := (blk_cell BK133.out 0).trans rfl
                          have hcz206_1 : wr.cell? ⟨gb133, 1, none⟩ = some (.bool false) := (blk_cell BK133.out 1).trans rfl
                          have hfz206_0 := blk_frozen BK133.out 0
                          have hfz206_1 := blk_frozen BK133.out 1
                          obtain ⟨Ao207, co207, eo207, _⟩ := Kd.Q_slice HO_134000.out
                          subst eo207
                          have p138 : 0 ≤ (0 : Int) := (by omega)
                          have q138 : 0 < (x134000_4.length : Int) := of_decide_eq_true (by first | (with_reducible assumption) | assumption)
                          obtain ⟨ad138, e138, hx138_0⟩ := Kd.at_int (Kd.Q_reads' HO_134000.out).2.2 0 p138 q138
                          cases e138
                          have qi138 : (0 < x134000_4.length) = True := eq_true (by omega)
                          (try rw [show ((0 : Int)).toNat = 0 from rfl] at hx138_0)
                          (try rw [Addr.add_zero'] at hx138_0)
                          replace p138 := eq_true p138
                          replace q138 := eq_true q138
                          have p139 : 0 ≤ (1 : Int) := (by omega)
                          have q139 : 1 < (x134000_4.length : Int) := of_decide_eq_true (by first | (with_reducible assumption) | assumption)
                          obtain ⟨ad139, e139, hx139_0⟩ := Kd.at_int (Kd.Q_reads' HO_134000.out).2.2 1 p139 q139
                          obtain rfl : ad138 = ad139 := (by injection e139)
                          (try simp only [show (1 : Int).toNat = 1 from rfl, Nat.reduceMul, Nat.reduceEqDiff, Go.Addr.add, ↓reduceIte] at hx139_0)
                          have qi139 : (1 < x134000_4.length) = True := eq_true (by omega)
                          (try rw [show ((1 : Int)).toNat = 1 from rfl] at hx139_0)
                          replace p139 := eq_true p139
                          replace q139 := eq_true q139
                          go_wp2_with (first | ((go_at_call 6; go_in)))
                          repeat (go_quiet (fail); try go_wp2_with (first | ((go_at_call 6; go_in))))
                          go_roundg k4
                          case measure => have := HK1.out; have := HJ5.out; have := HK3.out; have := HK4.out; omega
                          case rel => exact ⟨(wrap64 (x12_4 + 1)), ((⟨#[]⟩ : ByteArray)), (false), (x134000_4), (.slice (some ad138) x134000_4.length co207), (by first | rfl | (simp; done) | (simp [*]; done)), (by first | rfl | (simp; done) | (simp [*]; done)), (by first | rfl | (simp; done) | (simp [*]; done)), H', ⟨by have := HK1.out; have := HJ5.out; have := HK3.out; have := HK4.out; omega⟩, ⟨by (with_reducible repeat (first | apply Kd.R_alloc | apply Kd.R_drewN | apply Kd.R_drew)); exact HO_6.out⟩, ⟨by (with_reducible repeat (first | apply Kd.Q_alloc | apply Kd.Q_drewN | apply Kd.Q_drew)); exact HO_134000.out⟩, ⟨by (with_reducible repeat (first | refine blk_drewN ?_ _ | refine blk_drew ?_ | refine blk_alloc ?_ _)); exact BK133.out⟩, ⟨by repeat (first | (with_reducible first | exact HB.out | apply below_alloc | apply pw_below_drewN | apply below_drew1 | refine below_set ?_ GE133.out) | exact HB.out)⟩⟩
                         rw [if_neg c204] at H
                         have c204b0 : ((wrap64 ((wrap64 (2 + (wrap64 ((wrap64 (rd x134000_4 0)) * 256)))) + (wrap64 (rd x134000_4 1)))) == 2) = false := beq_eq_false_iff_ne.mpr c204
                         have c204b1 : ((wrap64 ((wrap64 (2 + (wrap64 ((wrap64 (rd x134000_4 0)) * 256)))) + (wrap64 (rd x134000_4 1)))) != 2) = true := bne_iff_ne.mpr c204
                         by_cases c208 : (x134000_4.length : Int) < (wrap64 ((wrap64 (2 + (wrap64 ((wrap64 (rd x134000_4 0)) * 256)))) + (wrap64 (rd x134000_4 1))))
                         ·
                          rw [if_pos c208] at H
                          have c208b0 : decide ((x134000_4.length : Int) < (wrap64 ((wrap64 (2 + (wrap64 ((wrap64 (rd x134000_4 0)) * 256)))) + (wrap64 (rd x134000_4 1))))) = true := decide_eq_true c208
                          clear c208
                          have H' := Aside0.mk H
                          clear H
                          obtain ⟨Ao209, co209, eo209⟩ := Kd.R_slice HO_6.out
                          subst eo209
                          have p137 : 0 ≤ (x12_4 : Int) := of_decide_eq_true (by first | (with_reducible assumption) | assumption)
                          have q137 : x12_4 < (x6_1.length : Int) := of_decide_eq_true (by first | (with_reducible assumption) | assumption)
                          obtain ⟨ad137, e137, hx137_0⟩ := Kd.at_string (Kd.R_reads' HO_6.out).2.2 x12_4 p137 q137
                          cases e137
                          replace p137 := eq_true p137
                          replace q137 := eq_true q137
                          have hcz210_0 : wr.cell? ⟨gb133, 0, none⟩ = some (u134000) := (blk_cell BK133.out 0).trans rfl
                          have hcz210_1 : wr.cell? ⟨gb133, 1, none⟩ = some (.bool false) := (blk_cell BK133.out 1).trans rfl
                          have hfz210_0 := blk_frozen BK133.out 0
                          have hfz210_1 := blk_frozen BK133.out 1
                          obtain ⟨Ao211, co211, eo211, _⟩ := Kd.Q_slice HO_134000.out
                          subst eo211
                          have p138 : 0 ≤ (0 : Int) := (by omega)
                          have q138 : 0 < (x134000_4.length : Int) := of_decide_eq_true (by first | (with_reducible assumption) | assumption)
                          obtain ⟨ad138, e138, hx138_0⟩ := Kd.at_int (Kd.Q_reads' HO_134000.out).2.2 0 p138 q138
                          cases e138
                          have qi138 : (0 < x134000_4.length) = True := eq_true (by omega)
                          (try rw [show ((0 : Int)).toNat = 0 from rfl] at hx138_0)
                          (try rw [Addr.add_zero'] at hx138_0)
                          replace p138 := eq_true p138
                          replace q138 := eq_true q138
                          have p139 : 0 ≤ (1 : Int) := (by omega)
                          have q139 : 1 < (x134000_4.length : Int) := of_decide_eq_true (by first | (with_reducible assumption) | assumption)
                          obtain ⟨ad139, e139, hx139_0⟩ := Kd.at_int (Kd.Q_reads' HO_134000.out).2.2 1 p139 q139
                          obtain rfl : ad138 = ad139 := (by injection e139)
                          (try simp only [show (1 : Int).toNat = 1 from rfl, Nat.reduceMul, Nat.reduceEqDiff, Go.Addr.add, ↓reduceIte] at hx139_0)
                          have qi139 : (1 < x134000_4.length) = True := eq_true (by omega)
                          (try rw [show ((1 : Int)).toNat = 1 from rfl] at hx139_0)
                          replace p139 := eq_true p139
                          replace q139 := eq_true q139
                          go_wp2_with (first | ((go_at_call 6; go_in)))
                          repeat (go_quiet (fail); try go_wp2_with (first | ((go_at_call 6; go_in))))
                          go_roundg k4
                          case measure => have := HK1.out; have := HJ5.out; have := HK3.out; have := HK4.out; omega
                          case rel => exact ⟨(wrap64 (x12_4 + 1)), ((⟨#[]⟩ : ByteArray)), (false), (x134000_4), (.slice (some ad138) x134000_4.length co211), (by first | rfl | (simp; done) | (simp [*]; done)), (by first | rfl | (simp; done) | (simp [*]; done)), (by first | rfl | (simp; done) | (simp [*]; done)), H', ⟨by have := HK1.out; have := HJ5.out; have := HK3.out; have := HK4.out; omega⟩, ⟨by (with_reducible repeat (first | apply Kd.R_alloc | apply Kd.R_drewN | apply Kd.R_drew)); exact HO_6.out⟩, ⟨by (with_reducible repeat (first | apply Kd.Q_alloc | apply Kd.Q_drewN | apply Kd.Q_drew)); exact HO_134000.out⟩, ⟨by (with_reducible repeat (first | refine blk_drewN ?_ _ | refine blk_drew ?_ | refine blk_alloc ?_ _)); exact BK133.out⟩, ⟨by repeat (first | (with_reducible first | exact HB.out | apply below_alloc | apply pw_below_drewN | apply below_drew1 | refine below_set ?_ GE133.out) | exact HB.out)⟩⟩
                         rw [if_neg c208] at H
                         have c208b0 : decide ((x134000_4.length : Int) < (wrap64 ((wrap64 (2 + (wrap64 ((wrap64 (rd x134000_4 0)) * 256)))) + (wrap64 (rd x134000_4 1))))) = false := decide_eq_false c208
                         clear c208
                         by_cases c212 : 2 ≤ (wrap64 ((wrap64 (2 + (wrap64 ((wrap64 (rd x134000_4 0)) * 256)))) + (wrap64 (rd x134000_4 1))))
                         ·
                          rw [if_pos c212] at H
                          have c212b0 := eq_true c212
                          try (have c212b0q := c212b0; rw [hszn_ji11] at c212b0q)
                          have c212b1 : decide (2 ≤ (wrap64 ((wrap64 (2 + (wrap64 ((wrap64 (rd x134000_4 0)) * 256)))) + (wrap64 (rd x134000_4 1))))) = true := decide_eq_true c212
                          by_cases c213 : (wrap64 ((wrap64 (2 + (wrap64 ((wrap64 (rd x134000_4 0)) * 256)))) + (wrap64 (rd x134000_4 1)))) ≤ (x134000_4.length : Int)
                          ·
                           rw [if_pos c213] at H
                           have c213b0 := eq_true c213
                           try (have c213b0q := c213b0; rw [hszn_ji11] at c213b0q)
                           have c213b1 : decide ((wrap64 ((wrap64 (2 + (wrap64 ((wrap64 (rd x134000_4 0)) * 256)))) + (wrap64 (rd x134000_4 1)))) ≤ (x134000_4.length : Int)) = true := decide_eq_true c213
                           obtain ⟨y140, hy140⟩ : ∃ y_ : List Int, y_ = ((x134000_4.take ((wrap64 ((wrap64 (2 + (wrap64 ((wrap64 (rd x134000_4 0)) * 256)))) + (wrap64 (rd x134000_4 1)))) : Int).toNat).drop 2) := ⟨_, rfl⟩
                           replace H : (if 0 ≤ (wrap64 ((wrap64 (2 + (wrap64 ((wrap64 (rd x134000_4 0)) * 256)))) + (wrap64 (rd x134000_4 1)))) then (rhynelaw23_DoqBack.l2 k4 (wrap64 (1 + (wrap64 (Int.tmod (IntKind.u64.wrap (a1)) 500)))) (x5_3.extract ((ji43) : Int).toNat x5_3.size) x6_1 (wrap64 (x12_4 + 1)) (strOfNums y140) true (x134000_4.drop ((wrap64 ((wrap64 (2 + (wrap64 ((wrap64 (rd x134000_4 0)) * 256)))) + (wrap64 (rd x134000_4 1)))) : Int).toNat) false) else (none)) = some r := by first | (rw [hy140]; with_reducible exact H) | (have H2_ := (Option.bind_some _ _).symm.trans H; rw [hy140]; with_reducible exact H2_) | (have H2_ := (Option.bind_some _ _).symm.trans H; with_reducible exact H2_) | with_reducible exact H | (rw [hy140]; exact H) | exact H
                           have Ny140 := Aside0.mk hy140
                           clear hy140
                           obtain ⟨ji214, hji214⟩ : ∃ j_ : Int, (wrap64 ((wrap64 (2 + (wrap64 ((wrap64 (rd x134000_4 0)) * 256)))) + (wrap64 (rd x134000_4 1)))) = j_ := ⟨_, rfl⟩
                           replace H : (if 0 ≤ (ji214) then (rhynelaw23_DoqBack.l2 k4 (wrap64 (1 + (wrap64 (Int.tmod (IntKind.u64.wrap (a1)) 500)))) (x5_3.extract ((ji43) : Int).toNat x5_3.size) x6_1 (wrap64 (x12_4 + 1)) (strOfNums y140) true (x134000_4.drop ((ji214) : Int).toNat) false) else (none)) = some r := by first | (rw [hji214] at H; exact H) | (simp only [hji214] at H ⊢; exact H)
                           (try rw [hji214] at c204b0)
                           (try rw [hji214] at c204b1)
                           (try rw [hji214] at c208b0)
                           (try rw [hji214] at c212b0)
                           (try rw [hji214] at c212b1)
                           (try rw [hji214] at c212)
                           (try rw [hji214] at c213b0)
                           (try rw [hji214] at c213b1)
                           (try rw [hji214] at c213)
                           (try rw [hji214] at Ny140)
                           (try rw [hji214] at Ny140)
                           have hji214w : (IntKind.i64.wrap ((wrap64 (2 + (wrap64 ((wrap64 (rd x134000_4 0)) * 256)))) + (wrap64 (rd x134000_4 1)))) = ji214 := (i64_w _).trans hji214
                           by_cases c215 : 0 ≤ (ji214)
                           ·
                            rw [if_pos c215] at H
                            have c215b0 := eq_true c215
                            try (have c215b0q := c215b0; rw [hszn_ji11] at c215b0q)
                            have c215b1 : decide (0 ≤ (ji214)) = true := decide_eq_true c215
                            clear c215
                            have c216b0 := eq_true (of_decide_eq_true (by first | (with_reducible assumption) | assumption) : (ji214) ≤ (x134000_4.length : Int))
                            obtain ⟨y144, hy144⟩ : ∃ y_ : List Int, y_ = (x134000_4.drop ((ji214) : Int).toNat) := ⟨_, rfl⟩
                            replace H : (rhynelaw23_DoqBack.l2 k4 (wrap64 (1 + (wrap64 (Int.tmod (IntKind.u64.wrap (a1)) 500)))) (x5_3.extract ((ji43) : Int).toNat x5_3.size) x6_1 (wrap64 (x12_4 + 1)) (strOfNums y140) true y144 false) = some r := by first | (rw [hy144]; with_reducible exact H) | (have H2_ := (Option.bind_some _ _).symm.trans H; rw [hy144]; with_reducible exact H2_) | (have H2_ := (Option.bind_some _ _).symm.trans H; with_reducible exact H2_) | with_reducible exact H | (rw [hy144]; exact H) | exact H
                            have Ny144 := Aside0.mk hy144
                            clear hy144
                            have H' := Aside0.mk H
                            clear H
                            obtain ⟨Ao217, co217, eo217⟩ := Kd.R_slice HO_6.out
                            subst eo217
                            have p137 : 0 ≤ (x12_4 : Int) := of_decide_eq_true (by first | (with_reducible assumption) | assumption)
                            have q137 : x12_4 < (x6_1.length : Int) := of_decide_eq_true (by first | (with_reducible assumption) | assumption)
                            obtain ⟨ad137, e137, hx137_0⟩ := Kd.at_string (Kd.R_reads' HO_6.out).2.2 x12_4 p137 q137
                            cases e137
                            replace p137 := eq_true p137
                            replace q137 := eq_true q137
                            have hcz218_0 : wr.cell? ⟨gb133, 0, none⟩ = some (u134000) := (blk_cell BK133.out 0).trans rfl
                            have hcz218_1 : wr.cell? ⟨gb133, 1, none⟩ = some (.bool false) := (blk_cell BK133.out 1).trans rfl
                            have hfz218_0 := blk_frozen BK133.out 0
                            have hfz218_1 := blk_frozen BK133.out 1
                            obtain ⟨Ao219, co219, eo219, _⟩ := Kd.Q_slice HO_134000.out
                            subst eo219
                            have p138 : 0 ≤ (0 : Int) := (by omega)
                            have q138 : 0 < (x134000_4.length : Int) := of_decide_eq_true (by first | (with_reducible assumption) | assumption)
                            obtain ⟨ad138, e138, hx138_0⟩ := Kd.at_int (Kd.Q_reads' HO_134000.out).2.2 0 p138 q138
                            cases e138
                            have qi138 : (0 < x134000_4.length) = True := eq_true (by omega)
                            (try rw [show ((0 : Int)).toNat = 0 from rfl] at hx138_0)
                            (try rw [Addr.add_zero'] at hx138_0)
                            replace p138 := eq_true p138
                            replace q138 := eq_true q138
                            have p139 : 0 ≤ (1 : Int) := (by omega)
                            have q139 : 1 < (x134000_4.length : Int) := of_decide_eq_true (by first | (with_reducible assumption) | assumption)
                            obtain ⟨ad139, e139, hx139_0⟩ := Kd.at_int (Kd.Q_reads' HO_134000.out).2.2 1 p139 q139
                            obtain rfl : ad138 = ad139 := (by injection e139)
                            (try simp only [show (1 : Int).toNat = 1 from rfl, Nat.reduceMul, Nat.reduceEqDiff, Go.Addr.add, ↓reduceIte] at hx139_0)
                            have qi139 : (1 < x134000_4.length) = True := eq_true (by omega)
                            (try rw [show ((1 : Int)).toNat = 1 from rfl] at hx139_0)
                            replace p139 := eq_true p139
                            replace q139 := eq_true q139
                            have q220 : ((ji214) : Int) ≤ ((x134000_4.length : Int) : Int) := of_decide_eq_true (by first | (with_reducible assumption) | assumption)
                            obtain ⟨i0220, hi0220, _, hsz220, _⟩ := info_parts info5
                            have hroom220 : x134000_4.length ≤ co219 := (Kd.Q_reads' HO_134000.out).2.1
                            have hC220 : Kd.C (Kd.int .u8) _ (some ad138) x134000_4.length x134000_4 := (Kd.Q_reads' HO_134000.out).2.2
                            have ql220 : (2 : Int) ≤ ((ji214) : Int) := of_decide_eq_true (by first | (with_reducible assumption) | assumption)
                            have hcut220 := cut_mid (P := Try.prog) 23 5 .i64 .i64 Try.underlying23 hi0220 1 hsz220 (some ad138) x134000_4.length co219 2 (ji214) (by omega) ql220 q220 hroom220
                            have hr220 := Kd.C_mid (lo := (2 : Int).toNat) (hi := ((ji214) : Int).toNat) (c := co219) hC220 (by omega) (by omega) hroom220
                            obtain ⟨A220, hA220⟩ : ∃ A1, A1 = (if co219 = (2 : Int).toNat then (some ad138) else ((some ad138) : Option Addr).map (·.add ((2 : Int).toNat * 1))) := ⟨_, rfl⟩
                            obtain ⟨c220, hc220⟩ : ∃ c1, c1 = co219 - (2 : Int).toNat := ⟨_, rfl⟩
                            have hy220 : y140.length = ((ji214) : Int).toNat - (2 : Int).toNat := (by rw [Ny140.out, List.length_drop, List.length_take] <;> omega)
                            rw [show ((x134000_4).take ((ji214) : Int).toNat).drop (2 : Int).toNat = y140 from Ny140.out.symm] at hr220
                            replace hr220 : Kd.C (Kd.int .u8) _ A220 y140.length y140 := (by rw [hA220]; exact hr220)
                            rw [← hy220, ← hA220, ← hc220] at hcut220
                            have HR143 := Aside0.mk hr220
                            have HC143 := Aside0.mk (show y140.length ≤ c220 from by rw [hy220, hc220]; exact Nat.sub_le_sub_right (Nat.le_trans (by omega) hroom220) _)
                            clear hr220 hC220 hroom220 hi0220 hsz220 hc220
                            have KY220 := Aside0.mk hy220
                            have KA220 := Aside0.mk hA220
                            clear hy220 hA220
                            have KL220 := Aside0.mk (show ((ji214) : Int).toNat ≤ x134000_4.length from by omega)
                            have KM220 := Aside0.mk (show 2 ≤ ((ji214) : Int).toNat from by omega)
                            replace q220 := eq_true q220
                            have hcv221 := Kd.C_string (P := Try.prog) (A := A220) (c := c220) Try.underlying23 Try.underlying5 Try.underlying9 (by repeat (first | (with_reducible exact HR143.out) | (with_reducible refine Kd.C_alloc ?_ _) | (with_reducible refine Kd.C_drewN ?_ _) | (with_reducible refine Kd.C_drew ?_) | exact HR143.out))
                            have hcv222 := fun m_ : Nat => Kd.C_string (P := Try.prog) (A := A220) (c := c220) Try.underlying23 Try.underlying5 Try.underlying9 (Kd.C_drewN (by repeat (first | (with_reducible exact HR143.out) | (with_reducible refine Kd.C_alloc ?_ _) | (with_reducible refine Kd.C_drewN ?_ _) | (with_reducible refine Kd.C_drew ?_) | exact HR143.out)) m_)
                            have q223 : ((ji214) : Int) ≤ ((x134000_4.length : Int) : Int) := of_decide_eq_true (by first | (with_reducible assumption) | assumption)
                            obtain ⟨i0223, hi0223, _, hsz223, _⟩ := info_parts info5
                            have hcut223 := cut_from (P := Try.prog) 23 5 .i64 Try.underlying23 hi0223 1 hsz223 (some ad138) x134000_4.length co219 (ji214) (of_decide_eq_true (by first | (with_reducible assumption) | assumption)) q223
                            have hr223 := Kd.Q_drop (k := ((ji214) : Int).toNat) HO_134000.out (by omega)
                            obtain ⟨A223, hA223⟩ : ∃ A1, A1 = (if co219 = ((ji214) : Int).toNat then (some ad138) else ((some ad138) : Option Addr).map (·.add (((ji214) : Int).toNat * 1))) := ⟨_, rfl⟩
                            obtain ⟨c223, hc223⟩ : ∃ c1, c1 = co219 - ((ji214) : Int).toNat := ⟨_, rfl⟩
                            have hy223 : y144.length = x134000_4.length - ((ji214) : Int).toNat := (by rw [Ny144.out, List.length_drop])
                            rw [← Ny144.out] at hr223
                            rw [← hy223, ← hA223, ← hc223] at hcut223
                            replace hr223 : Kd.Q (Kd.int .u8) 5 wr w.heap.size (fun _ => True) (.slice A223 y144.length c223) y144 := (by rw [hA223, hc223, hy223]; exact hr223)
                            have HE223 : Aside0 ((Value.slice A223 y144.length c223).ownBlock = (.slice (some ad138) x134000_4.length co219 : Value).ownBlock) := ⟨by rw [hA223]; split <;> (first | rfl | (simp [Value.ownBlock, add_block]))⟩
                            clear hy223 hi0223 hsz223 HO_134000 hA223 hc223
                            have HO146 := Aside0.mk hr223
                            clear hr223
                            replace q223 := eq_true q223
                            go_wp2_with (first | ((go_at_call 6; go_in)))
                            repeat (go_quiet (fail); try go_wp2_with (first | ((go_at_call 6; go_in))))
                            go_roundg k4
                            case measure => have := HK1.out; have := HJ5.out; have := HK3.out; have := HK4.out; omega
                            case rel => exact ⟨(wrap64 (x12_4 + 1)), (strOfNums y140), (true), (y144), (.slice A223 y144.length c223), (by first | rfl | (simp; done) | (simp [*]; done)), (by first | rfl | (simp; done) | (simp [*]; done)), (by first | rfl | (simp; done) | (simp [*]; done)), H', ⟨by have := HK1.out; have := HJ5.out; have := HK3.out; have := HK4.out; omega⟩, ⟨by (with_reducible repeat (first | apply Kd.R_alloc | apply Kd.R_drewN | apply Kd.R_drew)); exact Kd.R_mono (Kd.R_far (p := ⟨gb133, 0, none⟩) (Kd.R_types HO_6.out BK133.out (by decide)) (fun _ hk => hk.2) (.slice A223 y144.length c223)) (fun _ hk => trivial)⟩, ⟨by (with_reducible repeat (first | apply Kd.Q_alloc | apply Kd.Q_drewN | apply Kd.Q_drew)); exact Kd.Q_mono (Kd.Q_far (p := ⟨gb133, 0, none⟩) (Kd.Q_types HO146.out BK133.out (by decide)) (fun _ hk => hk.2) (.slice A223 y144.length c223)) (fun _ hk => trivial)⟩, ⟨by (with_reducible repeat (first | refine blk_drewN ?_ _ | refine blk_drew ?_ | refine blk_alloc ?_ _)); refine blk_put (cs := #[.slice (some ad138) x134000_4.length co219, .bool false]) ?_ 0 _ rfl; (with_reducible repeat (first | refine blk_drewN ?_ _ | refine blk_drew ?_ | refine blk_alloc ?_ _)); exact BK133.out⟩, ⟨by repeat (first | (with_reducible first | exact HB.out | apply below_alloc | apply pw_below_drewN | apply below_drew1 | refine below_set ?_ GE133.out) | exact HB.out)⟩⟩
                           rw [if_neg c215] at H
                           exact absurd H (by simp)
                          rw [if_neg c213] at H
                          exact absurd H (by simp)
                         rw [if_neg c212] at H
                         exact absurd H (by simp)
                        rw [if_neg c203] at H
                        exact absurd H (by simp)
                       rw [if_neg c202] at H
                       exact absurd H (by simp)
                      rw [if_neg c197] at H
                      have c197b0 : (x14_4.toList == (rdOf ByteArray.empty x6_1 x12_4).toList) = false := beq_eq_false_iff_ne.mpr c197
                      have c197b1 : (x14_4.toList != (rdOf ByteArray.empty x6_1 x12_4).toList) = true := bne_iff_ne.mpr c197
                      obtain rfl := Option.some.inj H
                      obtain ⟨Ao224, co224, eo224⟩ := Kd.R_slice HO_6.out
                      subst eo224
                      have p137 : 0 ≤ (x12_4 : Int) := of_decide_eq_true (by first | (with_reducible assumption) | assumption)
                      have q137 : x12_4 < (x6_1.length : Int) := of_decide_eq_true (by first | (with_reducible assumption) | assumption)
                      obtain ⟨ad137, e137, hx137_0⟩ := Kd.at_string (Kd.R_reads' HO_6.out).2.2 x12_4 p137 q137
                      cases e137
                      replace p137 := eq_true p137
                      replace q137 := eq_true q137
                      go_wp2
                      repeat (go_quiet (fail); try go_wp2)
                      go_ret
                      exact ⟨by first | rfl | (simp [errW_none, errW_some] <;> rfl) | (simp only [← hji43, ← hji178]; first | rfl | (simp [errW_none, errW_some] <;> rfl)) | (simp [*, errW_none, errW_some] <;> rfl), by repeat (first | (with_reducible first | exact HB.out | apply below_alloc | apply pw_below_drewN | apply below_drew1 | refine below_set ?_ GE133.out) | exact HB.out)⟩
                     rw [if_neg c196] at H
                     exact absurd H (by simp)
                    rw [if_neg c195] at H
                    exact absurd H (by simp)
                   replace c192 := Bool.eq_false_iff.mpr c192
                   subst c192
                   have H1 : (rhynelaw23_DoqBack.l1 k4 (wrap64 (1 + (wrap64 (Int.tmod (IntKind.u64.wrap (a1)) 500)))) (x5_3.extract ((ji43) : Int).toNat x5_3.size) x6_1 x12_4 x134000_4 false) = some r := by rw [if_neg (show ¬ (false = true) by decide)] at H; exact H
                   clear H
                   have H := H1
                   clear H1
                   have H' := Aside0.mk H
                   clear H
                   go_wp2
                   repeat (go_quiet (fail); try go_wp2)
                   go_roundg k4
                   case measure => have := HK1.out; have := HJ5.out; have := HK3.out; have := HK4.out; omega
                   case rel => exact ⟨((x5_3.extract ((ji43) : Int).toNat x5_3.size)), (x12_4), (x134000_4), (u134000), (by first | rfl | (simp; done) | (simp only [← hji43] <;> (first | rfl | simp)) | (simp [*]; done)), (by first | rfl | (simp; done) | (simp [*]; done)), H', ⟨by have := HK1.out; have := HJ5.out; have := HK3.out; have := HK4.out; omega⟩, ⟨by (with_reducible repeat (first | apply Kd.R_alloc | apply Kd.R_drewN | apply Kd.R_drew)); exact HO_6.out⟩, ⟨by (with_reducible repeat (first | apply Kd.Q_alloc | apply Kd.Q_drewN | apply Kd.Q_drew)); exact HO_134000.out⟩, ⟨by (with_reducible repeat (first | refine blk_drewN ?_ _ | refine blk_drew ?_ | refine blk_alloc ?_ _)); exact BK133.out⟩, ⟨by repeat (first | (with_reducible first | exact HB.out | apply below_alloc | apply pw_below_drewN | apply below_drew1 | refine below_set ?_ GE133.out) | exact HB.out)⟩⟩
                rw [if_neg c179] at H
                exact absurd H (by simp)
               rw [if_neg c177] at H
               exact absurd H (by simp)
              rw [if_neg c176] at H
              exact absurd H (by simp)
             rw [if_neg c97] at H
             exact absurd H (by simp)
            rw [if_neg c96] at H
            exact absurd H (by simp)
           exact absurd rfl c54
          rw [if_neg c53] at H
          exact absurd H (by simp)
         rw [if_neg c45] at H
         exact absurd H (by simp)
        rw [if_neg c44] at H
        exact absurd H (by simp)
 replace c4 := Bool.eq_false_iff.mpr c4
 subst c4
 have H1 : (some false) = some r := by rw [if_neg (show ¬ (false = true) by decide)] at H; exact H
 clear H
 have H := H1
 clear H1
 obtain rfl := Option.some.inj H
 go_enter Try.func4, Try.ntmps4
 go_wp2_with (first | (go_at_call 7; (with_reducible refine (rhynelaw23_framed.calls  false _ A3.out).mono ?_); rintro e w225 ⟨rfl, hb⟩; have n0_ := Aside0.mk (below_step (by repeat (first | (with_reducible first | exact HB.out | apply below_alloc | apply pw_below_drewN | apply below_drew1) | exact HB.out)) hb); clear HB; have HB := n0_; clear n0_; (try clear hb); (try clear hb2); (try clear hk); (try clear hi)))
 repeat (go_quiet (fail); try go_wp2_with (first | (go_at_call 7; (with_reducible refine (rhynelaw23_framed.calls  false _ A3.out).mono ?_); rintro e w225 ⟨rfl, hb⟩; have n0_ := Aside0.mk (below_step (by repeat (first | (with_reducible first | exact HB.out | apply below_alloc | apply pw_below_drewN | apply below_drew1) | exact HB.out)) hb); clear HB; have HB := n0_; clear n0_; (try clear hb); (try clear hb2); (try clear hk); (try clear hi))))
 go_ret
 exact ⟨by first | rfl | (simp [errW_none, errW_some] <;> rfl) | (simp [*, errW_none, errW_some] <;> rfl), by repeat (first | (with_reducible first | exact HB.out | apply below_alloc | apply pw_below_drewN | apply below_drew1) | exact HB.out)⟩

end Go.Proofs.Ytjblahoegfojdaa.B
